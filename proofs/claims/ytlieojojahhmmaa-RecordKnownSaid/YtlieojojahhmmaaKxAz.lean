/- Own library, part Az: append of so many zeros (append(b, make([]byte, n)...)). -/
import Derived.Test.YtlieojojahhmmaaKxSx
set_option linter.unusedSimpArgs false
set_option linter.unusedVariables false
namespace Go.Kx
open Go
variable {P : Program} {ops : Array Oper} {D : Option (Nat → Prop)} {Q : Exit → Act → World → Prop} {w0 w w' : World} {M : List Nat} {H H' : List Ent}
  {a : Act} {n : Nat} {L : List (Nat × Value)} {rest : List (Bool × Oper)} {d : Nat} {ty : TypeId} {pos : String} {aft : Array Edge} {x y z : Operand} {u v r : Value}

theorem wrapNz {m : Nat} (h : m ≤ 140737488355328) : IntKind.i64.wrap (m : Int) = (m : Int) := wrap_i64 (by omega) (by omega)
theorem zcz_eq (m : Nat) : Builtin.zeroCells #[.int .u8 0] m = (bv (List.replicate m 0)).toArray := by
  apply Array.ext'
  simp only [Builtin.zeroCells]
  apply List.ext_getElem?
  intro k
  simp [bv]
  by_cases h : k < m <;> simp [h, bV]
  rw [Nat.mod_one]; rfl

theorem run_appZ_room (w : World) (t tx ty e : TypeId) (i : TypeInfo) (ht : P.underlying t = some (.slice e)) (hi : P.info? e = some i) (hk : P.underlying tx = some (.int .i64)) (hz : i.zero = some (.int .u8 0)) (hs : i.size = 1) (hb : i.bytes = 1)
    (b off sLen sCap m : Nat) (hm : m ≤ 140737488355328) (h0m : 0 < m) (hroom : sLen + m ≤ sCap) (hc : ∀ j, j < m → (w.cell? ⟨b, off + sLen * 1 + j, none⟩).isSome = true) (hf : ∀ j, j < m → w.frozen? ⟨b, off + sLen * 1 + j, none⟩ = false) :
    (Builtin.append_ #[t, tx] ty #[.slice (some ⟨b, off, none⟩) sLen sCap, .int .i64 m]).run P w = .ok (.slice (some ⟨b, off, none⟩) (sLen + m) sCap) (w.setCells b (off + sLen * 1) (bv (List.replicate m 0))) := by
  have hst := run_storeCells_cells (P := P) b (off + sLen * 1) (bv (List.replicate m 0)) 0 w (by simpa using hc) (by simpa using hf) (bv_one _)
  simp only [Nat.add_zero] at hst
  have h0 : ¬ ((m : Int) < 0) := by omega
  have h1 : ¬ (281474976710656 < (m : Int)) := by omega
  have hm0 : ¬ m = 0 := by omega
  have hm1 : ¬ ((m : Int) ≤ 0) := by omega
  simp [Builtin.append_, run_underlying ht, run_underlying hk, sizeOf, typeInfo, zeroValue, hi, hz, hs, hb, asInt, asIntOf, wrapNz hm, h0, h1, hroom, hm0, Addr.add_lit, zcz_eq, Value.cells] at hst ⊢
  rw [hst]; rfl

theorem run_appZ_grow (w : World) (t tx ty e : TypeId) (i : TypeInfo) (ht : P.underlying t = some (.slice e)) (hi : P.info? e = some i) (hk : P.underlying tx = some (.int .i64)) (hz : i.zero = some (.int .u8 0)) (hs : i.size = 1) (hb : i.bytes = 1)
    (base : Option Addr) (sLen sCap m : Nat) (olds : List Value) (hold : (Builtin.firstCells 1 sLen (.slice base sLen sCap)).run P w.drew = .ok olds.toArray w.drew) (hm : m ≤ 140737488355328) (h0m : 0 < m) (hg : sCap < sLen + m) (h63 : ((sLen + m : Nat) : Int) ≤ 9223372036854775807)
    (hfit : Builtin.nextslicecap (sLen + m) sCap * i.bytes ≤ 281474976710656) :
    (Builtin.append_ #[t, tx] ty #[.slice base sLen sCap, .int .i64 m]).run P w = .ok (.slice (some ⟨w.heap.size, 0, none⟩) (sLen + m) (grownCap w (sLen + m) sCap e))
        (w.drew.alloc (.cells ((olds ++ bv (List.replicate m 0)).toArray ++ Builtin.zeroCells #[.int .u8 0] (grownCap w (sLen + m) sCap e - (sLen + m))) e)) := by
  have hn : ¬ (sLen + m ≤ sCap) := by omega
  have h63' : ¬ (9223372036854775807 < ((sLen : Int) + (m : Int))) := by omega
  rw [hb, Nat.mul_one] at hfit
  have h48' : ¬ (281474976710656 < Builtin.nextslicecap (sLen + m) sCap) := by omega
  have h0 : ¬ ((m : Int) < 0) := by omega
  have h1 : ¬ (281474976710656 < (m : Int)) := by omega
  have hm0 : ¬ m = 0 := by omega
  have hm1 : ¬ ((m : Int) ≤ 0) := by omega
  have hmx : max (m : Int) 0 = m := by omega
  simp [Builtin.append_, run_underlying ht, run_underlying hk, sizeOf, typeInfo, zeroValue, hi, hz, hs, hb, asInt, asIntOf, wrapNz hm, h0, h1, hn, hm0, hmx, h63', h48', Question.forced, hold, newRow, grownCap, zcz_eq, Value.cells]

theorem run_appZ {t xt e ty : Nat} (ht : SlT P t e 1 1) (hxt : P.underlying xt = some (.int .i64)) (hz0 : (P.info? e).bind (·.zero) = some (.int .u8 0)) {v : Value} {n m : Nat} {cs : List Value} (hown : (own v 1 n cs).holds w) (h0m : 0 < m)
    (h63 : n + m ≤ maxLen) (hby : (n + m) ≤ 140737488355328) :
    ∃ v' w', (Builtin.append_ #[t, xt] ty #[v, .int .i64 (m : Int)]).run P w = .ok v' w' ∧ Appended w w' v v' 1 (n + m) (cs ++ bv (List.replicate m 0)) := by
  obtain ⟨hu, hs, hb, z, hz, hzs⟩ := ht
  obtain ⟨ie, hie⟩ : ∃ ie, P.info? e = some ie := by cases h : P.info? e with | none => simp [h] at hs | some i => exact ⟨i, rfl⟩
  simp only [hie, Option.map_some, Option.some.injEq, Option.bind_some] at hs hb hz hz0
  have hnl : (bv (List.replicate m 0)).length = m * 1 := by simp
  have hlen2 : (cs ++ bv (List.replicate m 0)).length = (n + m) * 1 := by rw [List.length_append, hown.1, hnl, Nat.add_mul]
  have grow : ∀ (base : Option Addr) (cap : Nat), v = .slice base n cap → cap < n + m → (Builtin.firstCells 1 n v).run P w.drew = .ok cs.toArray w.drew →
      ∃ v' w', (Builtin.append_ #[t, xt] ty #[v, .int .i64 (m : Int)]).run P w = .ok v' w' ∧ Appended w w' v v' 1 (n + m) (cs ++ bv (List.replicate m 0)) := by
    intro base cap hv hcap hold
    have hge := grownCap_ge w (n + m) cap e
    have hle := grownCap_le_maxLen w (n + m) cap e h63
    subst hv
    refine ⟨_, _, run_appZ_grow w t xt ty e ie hu hie hxt hz0 hs hb base n cap m cs hold (by omega) h0m hcap (by rw [maxLen_eq] at h63; omega) (growslice_fits hcap (by rw [hb]; omega)), ?_⟩
    refine ⟨rfl, rfl, rfl, by simp, fun b hb' _ => alloc_old w.drew _ b hb', ⟨hlen2, .inr ⟨w.heap.size, _, _, e, (0, 0), rfl, hge, hle, heap_alloc_new w.drew _, ?_, ?_, Fz.zero _⟩⟩, fun b hb' => ?_⟩
    · simp only [Array.size_append, List.size_toArray, size_zeroCells, hlen2]
      simp; omega
    · simp only [Array.toList_append]
      rw [← hlen2]
      exact List.take_left
    · simp [valBlocks] at hb'; right; omega
  rcases hown.2 with ⟨rfl, rfl⟩ | ⟨b, cap, cur, T, fr, rfl, h1, h2, h3, h4, h5, h6⟩
  · have hcs : cs = [] := List.eq_nil_of_length_eq_zero (by simpa using hown.1)
    subst hcs
    exact grow none 0 rfl (by omega) (by simp [Builtin.firstCells])
  · by_cases hroom : n + m ≤ cap
    · have hfit : n * 1 + 0 + (bv (List.replicate m 0)).length ≤ cur.size := by
        rw [hnl, h4]; omega
      have hst := run_storeCells (P := P) (o := n * 1) (bv (List.replicate m 0)) 0 cur w h3 h6 hfit (bv_one _)
      simp only [Nat.add_zero] at hst hfit
      have hbl := (Array.getElem?_eq_some_iff.1 h3).1
      have hcl : (List.take (n * 1) cur.toList).length = n * 1 := by rw [h5]; exact hown.1
      have h0 : ¬ ((m : Int) < 0) := by omega
      have h1' : ¬ (281474976710656 < (m : Int)) := by omega
      have hm0 : ¬ m = 0 := by omega
      have hm1 : ¬ ((m : Int) ≤ 0) := by omega
      refine ⟨.slice (some ⟨b, 0, none⟩) (n + m) cap, setBlk w b (.cells (List.take (n * 1) cur.toList ++ bv (List.replicate m 0) ++ List.drop (n * 1 + (bv (List.replicate m 0)).length) cur.toList).toArray T fr), ?_, rfl, rfl, rfl, by simp, fun b' hb' hne => ?_, ⟨hlen2, .inr ⟨b, cap, _, T, fr, rfl, hroom, h2, setBlk_same hbl, ?_, ?_, ?_⟩⟩, fun b' hb' => .inl hb'⟩
      · simp [Builtin.append_, run_underlying hu, run_underlying hxt, sizeOf, typeInfo, zeroValue, hie, hz0, hs, asInt, asIntOf, wrapNz (show m ≤ 140737488355328 by omega), h0, h1', hb, hroom, hm0, Addr.add_mid, zcz_eq, Value.cells] at hst ⊢
        simp [hst]
      · exact setBlk_other (fun e => hne (by simp [valBlocks, e]))
      · simp only [List.size_toArray, List.length_append, List.length_take, List.length_drop, Array.length_toList]
        omega
      · rw [h5]
        rw [← hlen2]
        exact List.take_left
      · have : (List.take (n * 1) cur.toList ++ bv (List.replicate m 0) ++ List.drop (n * 1 + (bv (List.replicate m 0)).length) cur.toList).toArray.size = cur.size := by
          simp only [List.size_toArray, List.length_append, List.length_take, List.length_drop, Array.length_toList]; omega
        rw [this]; exact h6
    · refine grow _ cap rfl (by omega) ?_
      obtain ⟨c, hrd⟩ := own_rd hown
      have hrd' : (rd (.slice (some ⟨b, 0, none⟩) n cap) 1 n c cs).holds w.drew := hrd
      exact firstCells_rd_all hrd'

theorem s_appZ {t xt e m m' : Nat} {cs : List Value} (hE : Env a n L) (hx : ev L x = some v) (hy : ev L y = some (.int .i64 (m' : Int))) (hM : Mem w0 M w (own v 1 m cs :: H)) (ht : SlT P t e 1 1) (hxt : P.underlying xt = some (.int .i64)) (hz0 : (P.info? e).bind (·.zero) = some (.int .u8 0)) (h0m : 0 < m')
    (h63 : m + m' ≤ maxLen) (hby : (m + m') ≤ 140737488355328) (hX : ∀ X, D = some X → ∀ b, b ∈ valBlocks v → X b) (hn : Nat.blt d n = true)
    (k : ∀ a' v' w', Env a' n ((d, v') :: L) → Mem w0 M w' (own v' 1 (m + m') (cs ++ bv (List.replicate m' 0)) :: H) → wpL P ops D Q rest a' w') :
    wpL P ops D Q ((false, ⟨some d, .call { callee := .builtin .append, args := #[x, y], argTypes := #[t, xt] }, ty, pos, aft, none⟩) :: rest) a w := by
  obtain ⟨v', w', hr, hA⟩ := run_appZ (ty := ty) ht hxt hz0 (hM.holds _ (List.mem_cons_self ..)) h0m h63 hby
  refine b_val hE hn (v := v') (w' := w') ?_ ?_ (fun a' hE' => k a' v' w' hE' (hM.append hA))
  · simp [execOp, resolve, invoke, builtin, hE.eval hx, hE.eval hy, hr]
  · cases D with
    | none => trivial
    | some X => exact ⟨hA.size, fun b hb hx => hA.frame b hb fun hb' => hx (hX X rfl b hb')⟩
end Go.Kx
