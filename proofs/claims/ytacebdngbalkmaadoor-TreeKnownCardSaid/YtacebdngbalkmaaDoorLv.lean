/- Walks of functions of the given program that the claim reaches. -/
import Derived.Test.YtacebdngbalkmaaDoorLt
set_option linter.unusedSimpArgs false
set_option linter.unusedVariables false
namespace Go.Proofs.YtacebdngbalkmaaDoor
open Go Go.Kx
theorem sl35 : SlT Tryd.prog 35 3 1 8 := ⟨Tryd.underlying35, by kernel_rfl, by kernel_rfl, .int .i64 0, by kernel_rfl, rfl⟩
theorem one35 : OneT Tryd.prog 35 := OneT.of Tryd.underlying35 rfl (by kernel_rfl)
theorem sz35 : (Tryd.prog.info? 35).map (·.size) = some 1 := by kernel_rfl
theorem fo73_1 : fieldOff Tryd.prog 73 1 = some 32 := by kernel_rfl
theorem fo73_2 : fieldOff Tryd.prog 73 2 = some 33 := by kernel_rfl
theorem one24 : OneT Tryd.prog 24 := OneT.of Tryd.underlying24 rfl (by kernel_rfl)
theorem slt24 : slT Tryd.prog 24 = some 32 := by kernel_rfl
theorem one29 : OneT Tryd.prog 29 := OneT.of Tryd.underlying29 rfl (by kernel_rfl)
theorem eqa34 : ∀ {a b : List UInt8}, a.length = 32 → b.length = 32 → Bin Tryd.prog .eql 34 (.agg (bv a).toArray) (.agg (bv b).toArray) (.bool (decide (a = b))) ∧ Bin Tryd.prog .neq 34 (.agg (bv a).toArray) (.agg (bv b).toArray) (.bool (!decide (a = b))) := fun ha hb => bins_arr8 Tryd.underlying34 (by kernel_rfl) Tryd.underlying5 (by kernel_rfl) (by kernel_rfl) ha hb
theorem zero35 : Zero Tryd.prog 35 [[.slice none 0 0]] := ⟨.slice none 0 0, by kernel_rfl, by kernel_rfl⟩
theorem fo73_0 : fieldOff Tryd.prog 73 0 = some 0 := by kernel_rfl
theorem zero44 : Zero Tryd.prog 44 [[.slice none 0 0]] := ⟨.slice none 0 0, by kernel_rfl, by kernel_rfl⟩
theorem one44 : OneT Tryd.prog 44 := OneT.of Tryd.underlying44 rfl (by kernel_rfl)
theorem sl44 : SlT Tryd.prog 44 52 64 64 := ⟨Tryd.underlying44, by kernel_rfl, by kernel_rfl, .agg ([bv (List.replicate 64 0)] : List (List Value)).flatten.toArray, by kernel_rfl, rfl⟩
theorem sz44 : (Tryd.prog.info? 44).map (·.size) = some 1 := by kernel_rfl
theorem sl24 : SlT Tryd.prog 24 34 32 32 := ⟨Tryd.underlying24, by kernel_rfl, by kernel_rfl, .agg ([bv (List.replicate 32 0)] : List (List Value)).flatten.toArray, by kernel_rfl, rfl⟩
theorem zero73 : Zero Tryd.prog 73 [bv (List.replicate 32 0), [.int .i64 0], [.slice none 0 0]] := ⟨.agg ([bv (List.replicate 32 0), [.int .i64 0], [.slice none 0 0]] : List (List Value)).flatten.toArray, by kernel_rfl, by kernel_rfl⟩
theorem fpl73 : fldPl Tryd.prog 73 = some (plc 0 [32, 1, 1]) := by kernel_rfl
theorem slt44 : slT Tryd.prog 44 = some 64 := by kernel_rfl
theorem above1_c (B m n : Nat) (w : World) (hm : m < 2 * n) (hn : n ≤ 4096) (hB : (blk B [[.int .i64 (m : Int)]] [1] 3).holds w) :
    SeqStopsK Fence.wide 0 Tryd.prog 41 #[.pointer (some ⟨B, 0, none⟩)] (fun x : Pn n => #[.int .i64 (x.1 : Int)]) (fun _ _ => True) (fun xs => xs.map (fun x : Pn n => x.1) = pathL m) (fun xs => ∃ i, xs.map (fun x : Pn n => x.1) = (pathL m).take i) (pathL m).length w := by
  intro l J Jx W hW hJ hJx hY h0
  refine callsIn_wide.2 ?_
  have hBW : (blk B [[.int .i64 (m : Int)]] [1] 3).holds W := (blk B [[.int .i64 (m : Int)]] [1] 3).loc w W hB (fun b hb => hW.block b ((blk B [[.int .i64 (m : Int)]] [1] 3).old w hB b hb))
  rw [show (#[.func (.yield l) #[] #[]] ++ #[.pointer (some ⟨B, 0, none⟩)] : Array Value) = [.func (.yield l) #[] #[], .pointer (some ⟨B, 0, none⟩)].toArray from rfl]
  refine f_enter 14 Tryd.func41 rfl rfl rfl ?_
  intro a hE
  replace hE : Env a 14 [(0, _), (1, _)] := hE
  refine wp_seq_k (fun K1 hK1 => ?_)
  refine wp_plain [true, true, true] rfl rfl ?_
  refine s_load1 hE rfl hBW rfl one3 (by intro X h; cases h) rfl ?_; clear hE a; intro a hE
  refine s_bin hE rfl rfl (show Bin _ _ _ _ _ (.int .i64 ((m / 2 : Nat) : Int)) from bin_quo_nat (s := 2) (by decide) (by rw [wrap_i64 (by omega) (by omega)])) rfl ?_; clear hE a; intro a hE
  refine s_assign hE rfl rfl ?_; clear hE a; intro a hE
  refine q_nil ?_
  replace hE : Env a 14 [(0, _), (3, _)] := hE.sel [0, 3] rfl
  refine hK1 _ _ ?_
  refine wp_block ?_
  refine c_loop (fun (i : Nat) a w' => Env a 14 [(0, .func (.yield l) #[] #[]), (3, .int .i64 ((m / 2 ^ (i + 1) : Nat) : Int))] ∧ ∃ pre : List (Pn n), pre.map (fun x => x.1) = (pathL m).take i ∧ i ≤ (pathL m).length ∧ J pre w') (fun i => (pathL m).length - i) 0 ⟨by simpa using hE, [], rfl, Nat.zero_le _, h0⟩ ?_
  clear hE a; rintro i a w5 ⟨hE, pre, hp, hi, hJp⟩
  have hlt : m / 2 ^ (i + 1) < n := by
    rw [Nat.pow_succ, Nat.mul_comm, ← Nat.div_div_eq_div_mul]
    have : m / 2 / 2 ^ i ≤ m / 2 := Nat.div_le_self _ _
    omega
  refine wp_seq_k (fun K5 hK5 => ?_)
  refine wp_seq_k (fun K6 hK6 => ?_)
  refine wp_plain [true, true] rfl rfl ?_
  refine s_move hE rfl rfl ?_; clear hE a; intro a hE
  refine s_bin hE rfl rfl bin_geq rfl ?_; clear hE a; intro a hE
  refine q_nil ?_
  replace hE : Env a 14 [(0, _), (3, _), (7, _)] := hE.sel [0, 3, 7] rfl
  refine hK6 _ _ ?_
  refine hE.split 7 rfl (fun hb7 hE' => ?_) (fun hb7 hE' => ?_)
  · replace hE := hE'; clear hE'
    replace hb7 := of_decide_eq_true hb7
    have h1 : 1 ≤ m / 2 ^ (i + 1) := by omega
    refine wp_cond_true (hE.eval rfl) ?_
    refine wp_skip ?_
    refine hK5 _ _ ?_
    refine wp_seq_k (fun K7 hK7 => ?_)
    refine wp_block ?_
    refine wp_seq_k (fun K8 hK8 => ?_)
    have hil := pathL_lt h1
    have hlen : pre.length = i := by have := congrArg List.length hp; simpa [Nat.min_eq_left hi] using this
    refine wp_yieldR hE rfl rfl rfl (hY pre ⟨m / 2 ^ (i + 1), h1, hlt⟩ w5 hJp (by omega)) (fun e w' h => by rcases h with ⟨rfl, _⟩ | ⟨rfl, _⟩ <;> exact ⟨_, rfl⟩) ?_
    clear hE a; intro b a w6 hr hE
    refine hK8 _ _ ?_
    rcases hr with ⟨hb, hJ', _⟩ | ⟨hb, hJ'⟩
    · cases hb
      refine wp_cond_false (hE.eval rfl) ?_
      refine wp_skip ?_
      refine q_block_n ?_
      refine hK7 _ _ ?_
      refine wp_plain [true, true, true] rfl rfl ?_
      refine s_move hE rfl rfl ?_; clear hE a; intro a hE
      refine s_bin hE rfl rfl (show Bin _ _ _ _ _ (.int .i64 ((m / 2 ^ (i + 1) / 2 : Nat) : Int)) from bin_quo_nat (s := 2) (by decide) (by rw [wrap_i64 (by omega) (by omega)])) rfl ?_; clear hE a; intro a hE
      refine s_assign hE rfl rfl ?_; clear hE a; intro a hE
      refine q_nil ?_
      replace hE : Env a 14 [(0, _), (3, _)] := hE.sel [0, 3] rfl
      rw [← div_step] at hE
      exact ⟨i + 1, ⟨hE, pre ++ [⟨m / 2 ^ (i + 1), h1, hlt⟩], by rw [List.map_append, hp, pathL_snoc h1]; rfl, by omega, hJ'⟩, by omega⟩
    · cases hb
      refine wp_cond_true (hE.eval rfl) ?_
      refine wp_ret ?_
      refine q_block_r ?_
      refine q_then_r ?_
      refine q_then_r ?_
      refine q_block_r ?_
      refine (f_ret0 hE rfl ?_).1
      exact ⟨⟨_, rfl⟩, .inr ⟨_, ⟨i + 1, by rw [List.map_append, hp, pathL_snoc h1]; rfl⟩, hJ'⟩⟩
  · replace hE := hE'; clear hE'
    replace hb7 := of_decide_eq_false hb7
    have h1 : m / 2 ^ (i + 1) = 0 := by
      generalize m / 2 ^ (i + 1) = q at hb7 ⊢
      omega
    refine wp_cond_false (hE.eval rfl) ?_
    refine wp_exit ?_
    refine q_then_e ?_
    refine q_then_e ?_
    refine q_block_x ?_
    refine (f_ret0 hE rfl ?_).2
    exact ⟨⟨_, rfl⟩, .inl ⟨pre, hp.trans (pathL_all h1), hJp⟩⟩
theorem above_c (m : Nat) (w : World) : Calls Tryd.prog 31 #[.int .i64 (m : Int)] w fun e w' => ∃ B, e = .returned (.func (.func 41) #[] #[.pointer (some ⟨B, 0, none⟩)]) ∧ Mem w [] w' [blk B [[.int .i64 (m : Int)]] [1] 3] := by
  have hM := Mem.start0 w
  refine f_enter 4 Tryd.func31 rfl rfl rfl ?_
  intro a hE
  replace hE : Env a 4 [(0, _)] := hE
  refine wp_seq_k (fun K1 hK1 => ?_)
  refine wp_plain [false, true] rfl rfl ?_
  refine s_box (ss := [[.int .i64 (m : Int)]]) [1] hE hM rfl rfl rfl rfl ?_; clear hE a; intro a b2 w1 hE hM'
  clear hM; have hM := hM'; clear hM'
  refine s_assign hE rfl rfl ?_; clear hE a; intro a hE
  refine q_nil ?_
  refine hK1 _ _ ?_
  refine wp_seq_k (fun K2 hK2 => ?_)
  refine wp_plain [true, true] rfl rfl ?_
  refine s_makeFn hE rfl rfl ?_; clear hE a; intro a hE
  refine s_assign hE rfl rfl ?_; clear hE a; intro a hE
  refine q_nil ?_
  refine hK2 _ _ ?_
  refine wp_ret ?_
  refine f_ret1 hE rfl rfl ?_
  exact ⟨b2, rfl, hM⟩
theorem seq_c (B m n : Nat) (w : World) (hm : m < 2 * n) (hn : n ≤ 4096) (hB : (blk B [[.int .i64 (m : Int)]] [1] 3).holds w) :
    Calls Tryd.prog 42 #[.slice none 0 0, .func (.func 41) #[] #[.pointer (some ⟨B, 0, none⟩)]] w fun e w' => ∃ v, e = .returned v ∧ Mem w [] w' [own v 1 (pathL m).length ((pathL m).flatMap intC)] := by
  have hM := Mem.start0 w
  have hlen := pathL_le_len m
  refine f_enterM 13 Tryd.func42 rfl rfl rfl ?_
  intro a hE
  replace hE : Env a 13 [(0, _), (1, _)] := hE
  refine wp_seq_k (fun K1 hK1 => ?_)
  refine wp_plain [false, true] rfl rfl ?_
  refine s_box (ss := [[.slice none 0 0]]) [1] hE hM rfl rfl rfl rfl ?_; clear hE a; intro a b2 w1 hE hM'
  clear hM; have hM := hM'; clear hM'
  refine s_assign hE rfl rfl ?_; clear hE a; intro a hE
  refine q_nil ?_
  refine hK1 _ _ ?_
  refine wp_seq_k (fun K2 hK2 => ?_)
  refine wp_seq_k (fun K3 hK3 => ?_)
  refine wp_plain [true] rfl rfl ?_
  refine s_move hE rfl rfl ?_; clear hE a; intro a hE
  refine q_nil ?_
  refine hK3 _ _ ?_
  refine wp_block ?_
  have hBw : (blk B [[.int .i64 (m : Int)]] [1] 3).holds w1 := (blk B [[.int .i64 (m : Int)]] [1] 3).loc w w1 hB (fun b hb => hM.frame b ((blk B [[.int .i64 (m : Int)]] [1] 3).old w hB b hb) (by simp))
  replace hM := hM.addNil 1
  replace hM := hM.ownEq (m' := ([] : List Nat).length) (cs' := ([] : List Nat).flatMap intC) rfl rfl
  have hsz := hM.size
  refine wp_range (α := Pn n) (p := 7) hE rfl Tryd.call41 (above1_c B m n w1 hm hn hBw) rfl
    (fun pre W => ∃ v, Mem w [] W [own v 1 (pre.map (fun x : Pn n => x.1)).length ((pre.map (fun x : Pn n => x.1)).flatMap intC), blk b2 [[v]] [1] 35]) (fun _ _ _ => False)
    (fun s W W' row ⟨v, h⟩ hg hr => ⟨v, h.grown (by repeat' first | exact celdL_nil | refine celdL_cons ?_ ?_ | exact celd_blk | exact celd_own | exact celd_glb | exact celd_blkR | exact celd_ownW | exact celd_cells | exact celd_rd (by assumption)) hg hr hsz⟩) (fun c s W W' row h _ _ => h) ⟨_, hM⟩ (fun x => [(5, .int .i64 (x.1 : Int)), (2, .pointer (some ⟨b2, 0, none⟩))]) ?_ ?_ ?_ ?_
  · intro l x a W K hE hK
    refine rp_plain [true] rfl rfl rfl (fun ⟨_, _, h⟩ => h) ?_
    refine s_assign hE rfl rfl ?_; clear hE a; intro a hE
    refine q_nil ?_
    exact hK _ (hE.sel [5, 2] rfl)
  · clear hE hM a
    rintro l pre x a W ⟨v, hM0⟩ hlt hE
    have hM := hM0.rebase
    have hx := x.2.2
    refine wpIn_block ?_
    refine rp_plain [true, true, false, false, false] rfl rfl rfl (fun ⟨_, _, h⟩ => h) ?_
    refine s_load1 hE rfl (hM.get 1 rfl) rfl one35 (by intro X h; cases h) rfl ?_; clear hE a; intro a hE
    refine s_move hE rfl rfl ?_; clear hE a; intro a hE
    refine s_buildSlice (xs := [.tmp 9]) ([.int .i64 (x.1 : Int)]) hE hM sl35 rfl rfl rfl (by intro v hv; simp only [List.mem_cons, List.not_mem_nil, or_false] at hv; rcases hv with rfl <;> rfl) rfl rfl rfl rfl ?_; clear hE a; intro a v14 w2 hE hM'
    clear hM; have hM := hM'; clear hM'
    replace hM := hM.ownEq (m' := ([x.1] : List Nat).length) (cs' := ([x.1] : List Nat).flatMap intC) rfl rfl
    replace hM : Mem _ _ w2 [_, _, _] := hM.pick [1, 0, 2] rfl
    obtain ⟨cq1, hq1⟩ := own_rd (hM.get 1 rfl)
    refine s_append hE rfl rfl hM sl35 (Src.rd Tryd.underlying35 hq1 (intCs_one _)) (len47 (by simp; omega)) (by simp; omega) (by intro X h; cases h) rfl ?_; clear hE a; intro a v15 w3 hE hM'; clear hM; have hM := hM'; clear hM'
    have hv1 := own_one (hM.get 0 rfl)
    replace hM : Mem _ _ w3 [_, _] := hM.pick [2, 0] rfl
    refine s_store1 0 hE rfl rfl hM hv1.1 hv1.2 sz35 rfl rfl (by intro X h; cases h) ?_; intro w4 hM'; clear hM; have hM := hM'; clear hM'
    refine q_nil ?_
    replace hM : Mem _ _ w4 [_, _] := hM.pick [1, 0] rfl
    exact ⟨hM0.keeps (by repeat' first | exact celdL_nil | refine celdL_cons ?_ ?_ | exact celd_blk | exact celd_own | exact celd_glb | exact celd_blkR | exact celd_ownW | exact celd_cells | exact celd_rd (by assumption)) hM, trivial, _, hM0.back (by simpa using hM)⟩
  · rintro D xs W hle hS ⟨v, hM⟩ hD
    refine q_block_n ?_
    refine hK2 _ _ ?_
    have hS' : xs.map (fun x : Pn n => x.1) = pathL m := hS
    rw [hS'] at hM
    refine wp_seq_k (fun K4 hK4 => ?_)
    refine mp_plain [true, true] rfl rfl ?_
    refine s_load1 hE rfl (hM.get 1 rfl) rfl one35 (by intro X h; cases h) rfl ?_; clear hE a; intro a hE
    refine s_assign hE rfl rfl ?_; clear hE a; intro a hE
    refine q_nil ?_
    refine hK4 _ _ ?_
    refine wp_ret ?_
    refine f_ret1M hE rfl rfl hD ?_
    exact ⟨v, rfl, (hM.pick [0] rfl).taken (by repeat' first | exact celdL_nil | refine celdL_cons ?_ ?_ | exact celd_blk | exact celd_own | exact celd_glb | exact celd_blkR | exact celd_ownW | exact celd_cells | exact celd_rd (by assumption)) hD rfl (Nat.le_trans hsz hle)⟩
  · rintro D c pre W hle hS h
    exact h.elim
theorem tis_c (b h : Nat) (k : List UInt8) (v : Value) (l : List (List UInt8)) (c : Nat) (w : World) (hB : (blk b [bv k, [.int .i64 ((h : Nat) : Int)], [v]] [32, 1, 1] 73).holds w) (hl_k : k.length = 32) (ho_l : ∀ x, x ∈ l → x.length = 32) (hh : 1 ≤ h ∧ h ≤ 12) (hn : l.length = 2 * 2 ^ h) : Calls Tryd.prog 30 #[.pointer (some ⟨b, 0, none⟩)] w fun e w' => e = .returned (.bool true) ∧ Mem w [] w' [] := by
  have hM : Mem w [] w [blkR b [bv k, [.int .i64 ((h : Nat) : Int)], [v]] [32, 1, 1] 73] := Mem.startR w (fun g hg => by
    simp only [List.mem_cons, List.not_mem_nil, or_false] at hg
    rcases hg with rfl
    · exact ⟨hB, rfl⟩)
  refine f_enter 12 Tryd.func30 rfl rfl rfl ?_
  intro a hE
  replace hE : Env a 12 [(0, _)] := hE
  refine wp_seq_k (fun K1 hK1 => ?_)
  refine wp_plain [true] rfl rfl ?_
  refine s_assign hE rfl rfl ?_; clear hE a; intro a hE
  refine q_nil ?_
  refine hK1 _ _ ?_
  refine wp_seq_k (fun K2 hK2 => ?_)
  refine wp_plain [true, true, true, true, true, true, true, true, true, true] rfl rfl ?_
  refine s_move hE rfl rfl ?_; clear hE a; intro a hE
  refine s_bin hE rfl rfl (bins_ptr_nil Tryd.underlying29).2 rfl ?_; clear hE a; intro a hE
  refine s_move hE rfl rfl ?_; clear hE a; intro a hE
  refine g_yes hE rfl rfl ?_
  refine s_move hE rfl rfl ?_; clear hE a; intro a hE
  refine g_yes hE rfl rfl ?_
  refine s_nilCheck hE rfl rfl ?_; clear hE a; intro a hE
  refine g_yes hE rfl rfl ?_
  refine s_fieldAddr hE rfl fo73_1 rfl ?_; clear hE a; intro a hE
  refine g_yes hE rfl rfl ?_
  refine s_load1 hE rfl (blkR_blk (hM.get 0 rfl)) rfl one3 (by intro X h; cases h) rfl ?_; clear hE a; intro a hE
  refine g_yes hE rfl rfl ?_
  refine s_bin hE rfl rfl bin_gtr rfl ?_; clear hE a; intro a hE
  refine s_pickt hE rfl rfl rfl ?_; clear hE a; intro a hE
  refine s_assign hE rfl rfl ?_; clear hE a; intro a hE
  refine q_nil ?_
  replace hE : Env a 12 [(2, _)] := hE.sel [2] rfl
  refine hK2 _ _ ?_
  refine wp_ret ?_
  refine f_ret1 hE rfl rfl ?_
  exact ⟨(by first | rfl | (simp; omega)), hM.pick [] rfl⟩
theorem tsector_c (b h : Nat) (k : List UInt8) (v : Value) (l : List (List UInt8)) (c : Nat) (j : Nat) (w : World) (hB : (blk b [bv k, [.int .i64 ((h : Nat) : Int)], [v]] [32, 1, 1] 73).holds w) (hS : (rd v 32 l.length c (l.flatMap bv)).holds w) (hl_k : k.length = 32) (ho_l : ∀ x, x ∈ l → x.length = 32) (hh : 1 ≤ h ∧ h ≤ 12) (hn : l.length = 2 * 2 ^ h) (hj : 1 ≤ j ∧ j < 2 ^ h) : Calls Tryd.prog 29 #[.pointer (some ⟨b, 0, none⟩), .int .i64 (j : Int)] w fun e w' => e = .returned (.agg (bv (secA l j)).toArray) ∧ Mem w [] w' [] := by
  have h4 : 2 ^ h ≤ 4096 := by
    have := Nat.pow_le_pow_right (show 0 < 2 by decide) hh.2
    simpa using this
  have h2 : 2 ≤ 2 ^ h := by
    have := Nat.pow_le_pow_right (show 0 < 2 by decide) hh.1
    simpa using this
  have hM : Mem w [] w [blkR b [bv k, [.int .i64 ((h : Nat) : Int)], [v]] [32, 1, 1] 73, rd v 32 l.length c (l.flatMap bv)] := Mem.startR w (fun g hg => by
    simp only [List.mem_cons, List.not_mem_nil, or_false] at hg
    rcases hg with rfl | rfl
    · exact ⟨hB, rfl⟩
    · exact ⟨hS, rfl⟩)
  refine f_enter 23 Tryd.func29 rfl rfl rfl ?_
  intro a hE
  replace hE : Env a 23 [(0, _), (1, _)] := hE
  refine wp_seq_k (fun K1 hK1 => ?_)
  refine wp_plain [false] rfl rfl ?_
  refine s_alloc [64] hE hM zero52 rfl rfl ?_; clear hE a; intro a b4 w1 hE hM'
  clear hM; have hM := hM'; clear hM'
  refine q_nil ?_
  refine hK1 _ _ ?_
  refine wp_seq_k (fun K2 hK2 => ?_)
  refine wp_treeM hM (by kernel_rfl) (fun _ => True) (fun _ => True) (.re [(0, true), (1, true), (2, true), (4, true), (5, true), (8, true), (9, true), (10, true), (12, true), (13, true), (14, true), (3, true), (6, true), (7, true), (11, true), (15, true), (16, true), (17, false), (18, false)] (.fl 11 (.weak (.fl 6 (.or 17 (.cut (.re [(18, false)] (.fl 0 (.fl 0 (.weak (.or 18 (.cut (.re [] (.weak (.leaf 0)))) (.stop))))))) (.stop)))))) [(0, true), (1, true), (2, true), (4, true), (5, true), (8, true), (9, true), (10, true), (12, true), (13, true), (14, true), (3, true), (6, true), (7, true), (11, true), (15, true), (16, true), (17, false), (18, false)] [(1, [(2, 1), (3, 2), (6, 3), (7, 6), (17, 7), (18, 1)]), (2, [(3, 2), (6, 3), (7, 6), (17, 7), (18, 2)]), (3, [(6, 3), (7, 6), (17, 7), (18, 3)]), (5, [(6, 5), (7, 6), (17, 7), (18, 5)]), (6, [(7, 6), (17, 7), (18, 6)]), (7, [(17, 7), (18, 7)]), (9, [(10, 9), (11, 10), (15, 11), (16, 15), (17, 16), (18, 9)]), (10, [(11, 10), (15, 11), (16, 15), (17, 16), (18, 10)]), (11, [(15, 11), (16, 15), (17, 16), (18, 11)]), (13, [(14, 13), (15, 14), (16, 15), (17, 16), (18, 13)]), (14, [(15, 14), (16, 15), (17, 16), (18, 14)]), (15, [(16, 15), (17, 16), (18, 15)]), (16, [(17, 16), (18, 16)]), (17, [(18, 17)]), (18, [])] (by kernel_rfl) ?_
  intro w2 hM' hww2; clear hM; have hM := hM'; clear hM'
  refine o_re ?_
  refine o_fl rfl ?_
  refine s_move hE rfl rfl ?_; clear hE a; intro a hE
  refine s_nilCheck hE rfl rfl ?_; clear hE a; intro a hE
  refine s_fieldAddr hE rfl fo73_2 rfl ?_; clear hE a; intro a hE
  refine s_move hE rfl rfl ?_; clear hE a; intro a hE
  refine s_bin hE rfl rfl (show Bin _ _ _ _ _ (.int .i64 ((2 * j : Nat) : Int)) from bin_mul (by rw [wrap_i64 (by omega) (by omega)]; omega)) rfl ?_; clear hE a; intro a hE
  refine s_move hE rfl rfl ?_; clear hE a; intro a hE
  refine s_nilCheck hE rfl rfl ?_; clear hE a; intro a hE
  refine s_fieldAddr hE rfl fo73_2 rfl ?_; clear hE a; intro a hE
  refine s_move hE rfl rfl ?_; clear hE a; intro a hE
  refine s_bin hE rfl rfl (show Bin _ _ _ _ _ (.int .i64 ((2 * j : Nat) : Int)) from bin_mul (by rw [wrap_i64 (by omega) (by omega)]; omega)) rfl ?_; clear hE a; intro a hE
  refine s_bin hE rfl rfl (show Bin _ _ _ _ _ (.int .i64 (((2 * j) + 1 : Nat) : Int)) from bin_add (by rw [wrap_i64 (by omega) (by omega)]; omega)) rfl ?_; clear hE a; intro a hE
  refine q_nil (q_nx ?_)
  refine o_weak (fun _ => False) (fun _ _ => trivial) ?_
  refine o_fl rfl ?_
  refine s_load1 hE rfl (blkR_blk (hM.get 1 rfl)) rfl one24 (by intro X h; cases h; simp) rfl ?_; clear hE a; intro a hE
  refine s_indexRd (j := 2 * j) hE rfl (hM.get 2 rfl) rfl slt24 (by first | rfl | omega) (by first | omega | (simp; omega) | (simp [*]; omega)) rfl ?_; clear hE a; intro a p11 hE hc11 hp11
  have hlj11 : 2 * j < l.length := (by first | omega | (simp; omega))
  have hok11 := ho_l _ (getD_mem (d := zTg) hlj11)
  rw [flat_elem (d := zTg) (fun x hx => ((bv_length _).trans (ho_l x hx))) hlj11] at hc11
  refine s_loadAtN hE rfl hc11 (by rw [((bv_length _).trans hok11)]; exact row34) (by intro X h; cases h; simp) rfl ?_; clear hE a; intro a hE
  replace hE := hE.cast 12 rfl (show _ = Value.agg (bv (l.getD (2 * j) zTg)).toArray from rfl)
  refine s_load1 hE rfl (blkR_blk (hM.get 1 rfl)) rfl one24 (by intro X h; cases h; simp) rfl ?_; clear hE a; intro a hE
  refine s_indexRd (j := (2 * j) + 1) hE rfl (hM.get 2 rfl) rfl slt24 (by first | rfl | omega) (by first | omega | (simp; omega) | (simp [*]; omega)) rfl ?_; clear hE a; intro a p20 hE hc20 hp20
  have hlj20 : (2 * j) + 1 < l.length := (by first | omega | (simp; omega))
  have hok20 := ho_l _ (getD_mem (d := zTg) hlj20)
  rw [flat_elem (d := zTg) (fun x hx => ((bv_length _).trans (ho_l x hx))) hlj20] at hc20
  refine s_loadAtN hE rfl hc20 (by rw [((bv_length _).trans hok20)]; exact row34) (by intro X h; cases h; simp) rfl ?_; clear hE a; intro a hE
  replace hE := hE.cast 21 rfl (show _ = Value.agg (bv (l.getD ((2 * j) + 1) zTg)).toArray from rfl)
  refine q_nil (q_nx ?_)
  refine o_or rfl ?_ ?_
  · refine s_call hE rfl Tryd.call28 (bjoin_c (l.getD (2 * j) zTg) (l.getD ((2 * j) + 1) zTg) _ hok11 hok20) rfl ?_
    rintro e w3 ⟨rfl, hN⟩
    refine ⟨_, rfl, hN.sta0 _, ?_⟩; clear hE a; intro a hE
    replace hM : Mem _ _ w3 [_, _, _] := hM.call0 hN trivial; clear hN
    refine q_nil (q_nx ?_)
    refine o_cut (fun _ => True) ?_
    refine o_re ?_
    refine o_fl rfl ?_
    refine q_nil (q_nx ?_)
    refine o_fl rfl ?_
    refine q_nil (q_nx ?_)
    refine o_weak (fun b => b = b4) (fun _ _ => trivial) ?_
    refine o_or rfl ?_ ?_
    · refine s_storeSeg 0 hE rfl rfl hM rfl sz52 ((bv_length _).trans (List.length_append.trans (congr (congrArg HAdd.hAdd hok11) hok20))) (bv_one _) rfl ((bv_length _).trans (by first | (simp; done) | (simp [*]; done) | (simp; omega))) rfl (by intro X h; cases h; rfl) ?_; intro w4 hM'; clear hM; have hM := hM'; clear hM'
      simp only [List.set_cons_zero, List.set_cons_succ] at hM
      refine q_nil (q_nx ?_)
      refine o_cut (fun _ => True) ?_
      refine o_re ?_
      refine o_weak (fun _ => False) (fun _ _ => trivial) ?_
      refine o_leaf rfl rfl ?_
      refine q_nil (q_ph (q_nil ?_))
      replace hE : Env a 23 [(4, _)] := hE.sel [4] rfl
      refine hK2 _ _ ?_
      refine wp_ret ?_
      refine f_ret1 hE rfl (res_cellN rfl (hM.get 0 rfl) row52 rfl) ?_
      exact ⟨(by first | rfl | (simp; done)), hM.pick [] rfl⟩
    trivial
  trivial
theorem ttop_c (b h : Nat) (k : List UInt8) (v : Value) (l : List (List UInt8)) (c : Nat) (w : World) (hB : (blk b [bv k, [.int .i64 ((h : Nat) : Int)], [v]] [32, 1, 1] 73).holds w) (hS : (rd v 32 l.length c (l.flatMap bv)).holds w) (hl_k : k.length = 32) (ho_l : ∀ x, x ∈ l → x.length = 32) (hh : 1 ≤ h ∧ h ≤ 12) (hn : l.length = 2 * 2 ^ h) : Calls Tryd.prog 12 #[.pointer (some ⟨b, 0, none⟩)] w fun e w' => e = .returned (.agg (bv (gT l 1)).toArray) ∧ Mem w [] w' [] := by
  have h4 : 2 ^ h ≤ 4096 := by
    have := Nat.pow_le_pow_right (show 0 < 2 by decide) hh.2
    simpa using this
  have h2 : 2 ≤ 2 ^ h := by
    have := Nat.pow_le_pow_right (show 0 < 2 by decide) hh.1
    simpa using this
  have hM : Mem w [] w [blkR b [bv k, [.int .i64 ((h : Nat) : Int)], [v]] [32, 1, 1] 73, rd v 32 l.length c (l.flatMap bv)] := Mem.startR w (fun g hg => by
    simp only [List.mem_cons, List.not_mem_nil, or_false] at hg
    rcases hg with rfl | rfl
    · exact ⟨hB, rfl⟩
    · exact ⟨hS, rfl⟩)
  refine f_enter 13 Tryd.func12 rfl rfl rfl ?_
  intro a hE
  replace hE : Env a 13 [(0, _)] := hE
  refine wp_seq_k (fun K1 hK1 => ?_)
  refine wp_plain [false] rfl rfl ?_
  refine s_alloc [32] hE hM zero34 rfl rfl ?_; clear hE a; intro a b2 w1 hE hM'
  clear hM; have hM := hM'; clear hM'
  refine q_nil ?_
  refine hK1 _ _ ?_
  refine wp_seq_k (fun K2 hK2 => ?_)
  refine wp_seq_k (fun K3 hK3 => ?_)
  refine wp_plain [true, false, true] rfl rfl ?_
  refine s_move hE rfl rfl ?_; clear hE a; intro a hE
  refine s_call hE rfl Tryd.call30 (tis_c b h k v l c _ (blkR_blk (hM.get 1 rfl)) hl_k ho_l hh hn) rfl ?_
  rintro e w2 ⟨rfl, hN⟩
  refine ⟨_, rfl, trivial, ?_⟩; clear hE a; intro a hE
  replace hM : Mem _ _ w2 [_, _, _] := hM.call0 hN trivial; clear hN
  refine s_not hE rfl rfl ?_; clear hE a; intro a hE
  replace hE := hE.cast 5 rfl (show _ = Value.bool false from rfl)
  refine q_nil ?_
  replace hE : Env a 13 [(0, _), (2, _), (5, _)] := hE.sel [0, 2, 5] rfl
  refine hK3 _ _ ?_
  refine wp_cond_false (hE.eval rfl) ?_
  refine wp_skip ?_
  refine hK2 _ _ ?_
  refine wp_seq_k (fun K4 hK4 => ?_)
  refine wp_plain [true, true, true, true, true, true, false] rfl rfl ?_
  refine s_move hE rfl rfl ?_; clear hE a; intro a hE
  refine s_nilCheck hE rfl rfl ?_; clear hE a; intro a hE
  refine s_fieldAddr hE rfl fo73_2 rfl ?_; clear hE a; intro a hE
  refine s_load1 hE rfl (blkR_blk (hM.get 1 rfl)) rfl one24 (by intro X h; cases h) rfl ?_; clear hE a; intro a hE
  refine s_indexRd (j := 1) hE rfl (hM.get 2 rfl) rfl slt24 (by first | rfl | omega) (by first | omega | (simp; omega) | (simp [*]; omega)) rfl ?_; clear hE a; intro a p11 hE hc11 hp11
  have hlj11 : 1 < l.length := (by first | omega | (simp; omega))
  have hok11 := ho_l _ (getD_mem (d := zTg) hlj11)
  rw [flat_elem (d := zTg) (fun x hx => ((bv_length _).trans (ho_l x hx))) hlj11] at hc11
  refine s_loadAtN hE rfl hc11 (by rw [((bv_length _).trans hok11)]; exact row34) (by intro X h; cases h) rfl ?_; clear hE a; intro a hE
  replace hE := hE.cast 12 rfl (show _ = Value.agg (bv (l.getD 1 zTg)).toArray from rfl)
  refine s_storeSeg 0 hE rfl rfl hM rfl sz34 ((bv_length _).trans hok11) (bv_one _) rfl ((bv_length _).trans (by first | (simp; done) | (simp [*]; done) | (simp; omega))) rfl (by intro X h; cases h) ?_; intro w3 hM'; clear hM; have hM := hM'; clear hM'
  simp only [List.set_cons_zero, List.set_cons_succ] at hM
  refine q_nil ?_
  replace hE : Env a 13 [(0, _), (2, _), (5, _)] := hE.sel [0, 2, 5] rfl
  refine hK4 _ _ ?_
  refine wp_ret ?_
  refine f_ret1 hE rfl (res_cellN rfl (hM.get 0 rfl) row34 rfl) ?_
  exact ⟨(by first | rfl | (simp; done)), hM.pick [] rfl⟩
theorem ttag_c (b h : Nat) (k : List UInt8) (v : Value) (l : List (List UInt8)) (c : Nat) (j : Nat) (w : World) (hB : (blk b [bv k, [.int .i64 ((h : Nat) : Int)], [v]] [32, 1, 1] 73).holds w) (hS : (rd v 32 l.length c (l.flatMap bv)).holds w) (hl_k : k.length = 32) (ho_l : ∀ x, x ∈ l → x.length = 32) (hh : 1 ≤ h ∧ h ≤ 12) (hn : l.length = 2 * 2 ^ h) (hj : 1 ≤ j ∧ j < 2 * 2 ^ h) : Calls Tryd.prog 13 #[.pointer (some ⟨b, 0, none⟩), .int .i64 (j : Int)] w fun e w' => e = .returned (.tuple #[.agg (bv (gT l j)).toArray, .int .i64 0]) ∧ Mem w [] w' [] := by
  have h4 : 2 ^ h ≤ 4096 := by
    have := Nat.pow_le_pow_right (show 0 < 2 by decide) hh.2
    simpa using this
  have h2 : 2 ≤ 2 ^ h := by
    have := Nat.pow_le_pow_right (show 0 < 2 by decide) hh.1
    simpa using this
  have hM : Mem w [] w [blkR b [bv k, [.int .i64 ((h : Nat) : Int)], [v]] [32, 1, 1] 73, rd v 32 l.length c (l.flatMap bv)] := Mem.startR w (fun g hg => by
    simp only [List.mem_cons, List.not_mem_nil, or_false] at hg
    rcases hg with rfl | rfl
    · exact ⟨hB, rfl⟩
    · exact ⟨hS, rfl⟩)
  refine f_enter 31 Tryd.func13 rfl rfl rfl ?_
  intro a hE
  replace hE : Env a 31 [(0, _), (1, _)] := hE
  refine wp_seq_k (fun K1 hK1 => ?_)
  refine wp_plain [false, true] rfl rfl ?_
  refine s_alloc [32] hE hM zero34 rfl rfl ?_; clear hE a; intro a b4 w1 hE hM'
  clear hM; have hM := hM'; clear hM'
  refine s_assign hE rfl rfl ?_; clear hE a; intro a hE
  refine q_nil ?_
  refine hK1 _ _ ?_
  refine wp_seq_k (fun K2 hK2 => ?_)
  refine wp_block ?_
  refine wp_seq_k (fun K3 hK3 => ?_)
  refine wp_plain [true, false, true, true] rfl rfl ?_
  refine s_move hE rfl rfl ?_; clear hE a; intro a hE
  refine s_call hE rfl Tryd.call30 (tis_c b h k v l c _ (blkR_blk (hM.get 1 rfl)) hl_k ho_l hh hn) rfl ?_
  rintro e w2 ⟨rfl, hN⟩
  refine ⟨_, rfl, trivial, ?_⟩; clear hE a; intro a hE
  replace hM : Mem _ _ w2 [_, _, _] := hM.call0 hN trivial; clear hN
  refine s_not hE rfl rfl ?_; clear hE a; intro a hE
  replace hE := hE.cast 9 rfl (show _ = Value.bool false from rfl)
  refine s_assign hE rfl rfl ?_; clear hE a; intro a hE
  refine q_nil ?_
  replace hE : Env a 31 [(0, _), (1, _), (4, _), (5, _), (6, _)] := hE.sel [0, 1, 4, 5, 6] rfl
  refine hK3 _ _ ?_
  refine wp_cond_false (hE.eval rfl) ?_
  refine wp_seq_k (fun K4 hK4 => ?_)
  refine wp_plain [true, true, true, true, true, true, true, true, true, true, true, true] rfl rfl ?_
  refine s_move hE rfl rfl ?_; clear hE a; intro a hE
  refine s_bin hE rfl rfl bin_lss rfl ?_; clear hE a; intro a hE
  refine s_move hE rfl rfl ?_; clear hE a; intro a hE
  replace hE := hE.cast 14 rfl (show _ = Value.bool false from (congrArg Value.bool (decide_eq_false (by omega))))
  refine g_yes hE rfl rfl ?_
  refine s_move hE rfl rfl ?_; clear hE a; intro a hE
  refine g_yes hE rfl rfl ?_
  refine s_move hE rfl rfl ?_; clear hE a; intro a hE
  refine g_yes hE rfl rfl ?_
  refine s_nilCheck hE rfl rfl ?_; clear hE a; intro a hE
  refine g_yes hE rfl rfl ?_
  refine s_fieldAddr hE rfl fo73_2 rfl ?_; clear hE a; intro a hE
  refine g_yes hE rfl rfl ?_
  refine s_load1 hE rfl (blkR_blk (hM.get 1 rfl)) rfl one24 (by intro X h; cases h) rfl ?_; clear hE a; intro a hE
  refine g_yes hE rfl rfl ?_
  refine s_len hE rfl Tryd.underlying24 (rd_slice (hM.get 2 rfl)) rfl ?_; clear hE a; intro a hE
  refine g_yes hE rfl rfl ?_
  refine s_bin hE rfl rfl bin_geq rfl ?_; clear hE a; intro a hE
  refine s_pickf hE rfl rfl rfl ?_; clear hE a; intro a hE
  refine s_assign hE rfl rfl ?_; clear hE a; intro a hE
  refine q_nil ?_
  replace hE : Env a 31 [(0, _), (1, _), (4, _), (5, _), (6, _), (11, _)] := hE.sel [0, 1, 4, 5, 6, 11] rfl
  refine hK4 _ _ ?_
  replace hE := hE.cast 11 rfl (show _ = Value.bool false from (congrArg Value.bool (decide_eq_false (by omega))))
  refine wp_cond_false (hE.eval rfl) ?_
  refine wp_skip ?_
  refine q_block_n ?_
  refine hK2 _ _ ?_
  refine wp_seq_k (fun K5 hK5 => ?_)
  refine wp_plain [true, true, true, true, true, true, true, false, true] rfl rfl ?_
  refine s_move hE rfl rfl ?_; clear hE a; intro a hE
  refine s_nilCheck hE rfl rfl ?_; clear hE a; intro a hE
  refine s_fieldAddr hE rfl fo73_2 rfl ?_; clear hE a; intro a hE
  refine s_load1 hE rfl (blkR_blk (hM.get 1 rfl)) rfl one24 (by intro X h; cases h) rfl ?_; clear hE a; intro a hE
  refine s_move hE rfl rfl ?_; clear hE a; intro a hE
  refine s_indexRd (j := j) hE rfl (hM.get 2 rfl) rfl slt24 (by first | rfl | omega) (by first | omega | (simp; omega) | (simp [*]; omega)) rfl ?_; clear hE a; intro a p29 hE hc29 hp29
  have hlj29 : j < l.length := (by first | omega | (simp; omega))
  have hok29 := ho_l _ (getD_mem (d := zTg) hlj29)
  rw [flat_elem (d := zTg) (fun x hx => ((bv_length _).trans (ho_l x hx))) hlj29] at hc29
  refine s_loadAtN hE rfl hc29 (by rw [((bv_length _).trans hok29)]; exact row34) (by intro X h; cases h) rfl ?_; clear hE a; intro a hE
  replace hE := hE.cast 30 rfl (show _ = Value.agg (bv (l.getD j zTg)).toArray from rfl)
  refine s_storeSeg 0 hE rfl rfl hM rfl sz34 ((bv_length _).trans hok29) (bv_one _) rfl ((bv_length _).trans (by first | (simp; done) | (simp [*]; done) | (simp; omega))) rfl (by intro X h; cases h) ?_; intro w3 hM'; clear hM; have hM := hM'; clear hM'
  simp only [List.set_cons_zero, List.set_cons_succ] at hM
  refine s_assign hE rfl rfl ?_; clear hE a; intro a hE
  refine q_nil ?_
  replace hE : Env a 31 [(0, _), (1, _), (4, _), (5, _), (6, _), (11, _)] := hE.sel [0, 1, 4, 5, 6, 11] rfl
  refine hK5 _ _ ?_
  refine wp_ret ?_
  refine f_ret2 hE rfl (res_cellN rfl (hM.get 0 rfl) row34 rfl) rfl ?_
  exact ⟨(by first | rfl | (simp; done)), hM.pick [] rfl⟩
theorem tnode2_c (b h : Nat) (k : List UInt8) (v : Value) (l : List (List UInt8)) (c : Nat) (j : Nat) (w : World) (hB : (blk b [bv k, [.int .i64 ((h : Nat) : Int)], [v]] [32, 1, 1] 73).holds w) (hS : (rd v 32 l.length c (l.flatMap bv)).holds w) (hl_k : k.length = 32) (ho_l : ∀ x, x ∈ l → x.length = 32) (hh : 1 ≤ h ∧ h ≤ 12) (hn : l.length = 2 * 2 ^ h) (hj : 1 ≤ j ∧ j < 2 ^ h) : Calls Tryd.prog 24 #[.pointer (some ⟨b, 0, none⟩), .int .i64 (j : Int)] w fun e w' => e = .returned (.tuple #[.agg (bv (secA l j)).toArray, .int .i64 0]) ∧ Mem w [] w' [] := by
  have h4 : 2 ^ h ≤ 4096 := by
    have := Nat.pow_le_pow_right (show 0 < 2 by decide) hh.2
    simpa using this
  have h2 : 2 ≤ 2 ^ h := by
    have := Nat.pow_le_pow_right (show 0 < 2 by decide) hh.1
    simpa using this
  have hM : Mem w [] w [blkR b [bv k, [.int .i64 ((h : Nat) : Int)], [v]] [32, 1, 1] 73, rd v 32 l.length c (l.flatMap bv)] := Mem.startR w (fun g hg => by
    simp only [List.mem_cons, List.not_mem_nil, or_false] at hg
    rcases hg with rfl | rfl
    · exact ⟨hB, rfl⟩
    · exact ⟨hS, rfl⟩)
  refine f_enter 27 Tryd.func24 rfl rfl rfl ?_
  intro a hE
  replace hE : Env a 27 [(0, _), (1, _)] := hE
  refine wp_seq_k (fun K1 hK1 => ?_)
  refine wp_plain [false, true] rfl rfl ?_
  refine s_alloc [64] hE hM zero52 rfl rfl ?_; clear hE a; intro a b4 w1 hE hM'
  clear hM; have hM := hM'; clear hM'
  refine s_assign hE rfl rfl ?_; clear hE a; intro a hE
  refine q_nil ?_
  refine hK1 _ _ ?_
  refine wp_seq_k (fun K2 hK2 => ?_)
  refine wp_block ?_
  refine wp_seq_k (fun K3 hK3 => ?_)
  refine wp_plain [true, false, true, true] rfl rfl ?_
  refine s_move hE rfl rfl ?_; clear hE a; intro a hE
  refine s_call hE rfl Tryd.call30 (tis_c b h k v l c _ (blkR_blk (hM.get 1 rfl)) hl_k ho_l hh hn) rfl ?_
  rintro e w2 ⟨rfl, hN⟩
  refine ⟨_, rfl, trivial, ?_⟩; clear hE a; intro a hE
  replace hM : Mem _ _ w2 [_, _, _] := hM.call0 hN trivial; clear hN
  refine s_not hE rfl rfl ?_; clear hE a; intro a hE
  replace hE := hE.cast 9 rfl (show _ = Value.bool false from rfl)
  refine s_assign hE rfl rfl ?_; clear hE a; intro a hE
  refine q_nil ?_
  replace hE : Env a 27 [(0, _), (1, _), (4, _), (5, _), (6, _)] := hE.sel [0, 1, 4, 5, 6] rfl
  refine hK3 _ _ ?_
  refine wp_cond_false (hE.eval rfl) ?_
  refine wp_seq_k (fun K4 hK4 => ?_)
  refine wp_plain [true, true, true, true, true, true, true, true, true, true, true, true] rfl rfl ?_
  refine s_move hE rfl rfl ?_; clear hE a; intro a hE
  refine s_bin hE rfl rfl bin_lss rfl ?_; clear hE a; intro a hE
  refine s_move hE rfl rfl ?_; clear hE a; intro a hE
  replace hE := hE.cast 14 rfl (show _ = Value.bool false from (congrArg Value.bool (decide_eq_false (by omega))))
  refine g_yes hE rfl rfl ?_
  refine s_move hE rfl rfl ?_; clear hE a; intro a hE
  refine g_yes hE rfl rfl ?_
  refine s_move hE rfl rfl ?_; clear hE a; intro a hE
  refine g_yes hE rfl rfl ?_
  refine s_nilCheck hE rfl rfl ?_; clear hE a; intro a hE
  refine g_yes hE rfl rfl ?_
  refine s_fieldAddr hE rfl fo73_1 rfl ?_; clear hE a; intro a hE
  refine g_yes hE rfl rfl ?_
  refine s_load1 hE rfl (blkR_blk (hM.get 1 rfl)) rfl one3 (by intro X h; cases h) rfl ?_; clear hE a; intro a hE
  refine g_yes hE rfl rfl ?_
  refine s_bin hE rfl rfl (bin_one_shl (by omega)) rfl ?_; clear hE a; intro a hE
  refine g_yes hE rfl rfl ?_
  refine s_bin hE rfl rfl bin_geq rfl ?_; clear hE a; intro a hE
  refine s_pickf hE rfl rfl rfl ?_; clear hE a; intro a hE
  refine s_assign hE rfl rfl ?_; clear hE a; intro a hE
  refine q_nil ?_
  replace hE : Env a 27 [(0, _), (1, _), (4, _), (5, _), (6, _), (11, _)] := hE.sel [0, 1, 4, 5, 6, 11] rfl
  refine hK4 _ _ ?_
  replace hE := hE.cast 11 rfl (show _ = Value.bool false from (congrArg Value.bool (decide_eq_false (by omega))))
  refine wp_cond_false (hE.eval rfl) ?_
  refine wp_skip ?_
  refine q_block_n ?_
  refine hK2 _ _ ?_
  refine wp_seq_k (fun K5 hK5 => ?_)
  refine wp_plain [true, true, false, false, true] rfl rfl ?_
  refine s_move hE rfl rfl ?_; clear hE a; intro a hE
  refine s_move hE rfl rfl ?_; clear hE a; intro a hE
  refine s_call hE rfl Tryd.call29 (tsector_c b h k v l c j _ (blkR_blk (hM.get 1 rfl)) (hM.get 2 rfl) hl_k ho_l hh hn (by omega)) rfl ?_
  rintro e w3 ⟨rfl, hN⟩
  refine ⟨_, rfl, trivial, ?_⟩; clear hE a; intro a hE
  replace hM : Mem _ _ w3 [_, _, _] := hM.call0 hN trivial; clear hN
  refine s_storeSeg 0 hE rfl rfl hM rfl sz52 ((bv_length _).trans (secA_len ho_l j)) (bv_one _) rfl ((bv_length _).trans (by first | (simp; done) | (simp [*]; done) | (simp; omega))) rfl (by intro X h; cases h) ?_; intro w4 hM'; clear hM; have hM := hM'; clear hM'
  simp only [List.set_cons_zero, List.set_cons_succ] at hM
  refine s_assign hE rfl rfl ?_; clear hE a; intro a hE
  refine q_nil ?_
  replace hE : Env a 27 [(0, _), (1, _), (4, _), (5, _), (6, _), (11, _)] := hE.sel [0, 1, 4, 5, 6, 11] rfl
  refine hK5 _ _ ?_
  refine wp_ret ?_
  refine f_ret2 hE rfl (res_cellN rfl (hM.get 0 rfl) row52 rfl) rfl ?_
  exact ⟨(by first | rfl | (simp; done)), hM.pick [] rfl⟩
theorem collect_c (B m n : Nat) (w : World) (hB : (blk B [[.int .i64 ((m : Nat) : Int)]] [1] 3).holds w) (hm : m < 2 * n) (hn : n ≤ 4096) : Calls Tryd.prog 32 #[.func (.func 41) #[] #[.pointer (some ⟨B, 0, none⟩)]] w fun e w' => ∃ v'0, e = .returned (v'0) ∧ Mem w [] w' [own v'0 1 ((pathL m).length) ((pathL m).flatMap intC)] := by
  have hM : Mem w [] w [blkR B [[.int .i64 ((m : Nat) : Int)]] [1] 3] := Mem.startR w (fun g hg => by
    simp only [List.mem_cons, List.not_mem_nil, or_false] at hg
    rcases hg with rfl
    · exact ⟨hB, rfl⟩)
  refine f_enter 5 Tryd.func32 rfl rfl rfl ?_
  intro a hE
  replace hE : Env a 5 [(0, _)] := hE
  refine wp_seq_k (fun K1 hK1 => ?_)
  refine wp_plain [true] rfl rfl ?_
  refine s_assign hE rfl rfl ?_; clear hE a; intro a hE
  refine q_nil ?_
  refine hK1 _ _ ?_
  refine wp_seq_k (fun K2 hK2 => ?_)
  refine wp_plain [true, false, true] rfl rfl ?_
  refine s_move hE rfl rfl ?_; clear hE a; intro a hE
  refine s_call hE rfl Tryd.call42 (seq_c B m n _ hm hn (blkR_blk (hM.get 0 rfl))) rfl ?_
  rintro e w1 ⟨v4, rfl, hN⟩
  refine ⟨_, rfl, trivial, ?_⟩; clear hE a; intro a hE
  replace hM : Mem _ _ w1 [_, _] := hM.call0 hN ⟨rfl, trivial⟩; clear hN
  refine s_assign hE rfl rfl ?_; clear hE a; intro a hE
  refine q_nil ?_
  replace hE : Env a 5 [(2, _)] := hE.sel [2] rfl
  refine hK2 _ _ ?_
  refine wp_ret ?_
  refine f_ret1 hE rfl rfl ?_
  exact ⟨_, (by first | rfl | (simp; done)), hM.pick [0] rfl⟩
theorem tpath_c (h : Nat) (q : Nat) (w : World) (hh : 1 ≤ h ∧ h ≤ 12) (hq : q < 2 ^ h) : Calls Tryd.prog 15 #[.int .i64 (h : Int), .int .i64 (q : Int)] w fun e w' => ∃ v'0, e = .returned (v'0) ∧ Mem w [] w' [own v'0 1 ((pathL (2 ^ h + q)).length) ((pathL (2 ^ h + q)).flatMap intC)] := by
  have hpw := two_pow_le hh
  have hpw1 := hpw.1
  have hpw2 := hpw.2
  have hM := Mem.start0 w
  refine f_enter 27 Tryd.func15 rfl rfl rfl ?_
  intro a hE
  replace hE : Env a 27 [(0, _), (1, _)] := hE
  refine wp_seq_k (fun K1 hK1 => ?_)
  refine wp_plain [true] rfl rfl ?_
  refine s_assign hE rfl rfl ?_; clear hE a; intro a hE
  refine q_nil ?_
  refine hK1 _ _ ?_
  refine wp_seq_k (fun K2 hK2 => ?_)
  refine wp_seq_k (fun K3 hK3 => ?_)
  refine wp_plain [true, true, true, true, true, true, true, true, true, true, true, true, true, true, true, true] rfl rfl ?_
  refine s_move hE rfl rfl ?_; clear hE a; intro a hE
  refine s_bin hE rfl rfl bin_lss rfl ?_; clear hE a; intro a hE
  refine s_move hE rfl rfl ?_; clear hE a; intro a hE
  replace hE := hE.cast 7 rfl (show _ = Value.bool false from (congrArg Value.bool (decide_eq_false (by omega))))
  refine g_yes hE rfl rfl ?_
  refine s_move hE rfl rfl ?_; clear hE a; intro a hE
  refine g_yes hE rfl rfl ?_
  refine s_bin hE rfl rfl bin_gtr rfl ?_; clear hE a; intro a hE
  refine s_pickf hE rfl rfl rfl ?_; clear hE a; intro a hE
  refine s_move hE rfl rfl ?_; clear hE a; intro a hE
  replace hE := hE.cast 11 rfl (show _ = Value.bool false from (congrArg Value.bool (decide_eq_false (by omega))))
  refine g_yes hE rfl rfl ?_
  refine s_move hE rfl rfl ?_; clear hE a; intro a hE
  refine g_yes hE rfl rfl ?_
  refine s_bin hE rfl rfl bin_lss rfl ?_; clear hE a; intro a hE
  refine s_pickf hE rfl rfl rfl ?_; clear hE a; intro a hE
  refine s_move hE rfl rfl ?_; clear hE a; intro a hE
  replace hE := hE.cast 15 rfl (show _ = Value.bool false from (congrArg Value.bool (decide_eq_false (by omega))))
  refine g_yes hE rfl rfl ?_
  refine s_move hE rfl rfl ?_; clear hE a; intro a hE
  refine g_yes hE rfl rfl ?_
  refine s_move hE rfl rfl ?_; clear hE a; intro a hE
  refine g_yes hE rfl rfl ?_
  refine s_bin hE rfl rfl (bin_one_shl (by omega)) rfl ?_; clear hE a; intro a hE
  refine g_yes hE rfl rfl ?_
  refine s_bin hE rfl rfl bin_geq rfl ?_; clear hE a; intro a hE
  refine s_pickf hE rfl rfl rfl ?_; clear hE a; intro a hE
  refine q_nil ?_
  replace hE : Env a 27 [(0, _), (1, _), (4, _), (20, _)] := hE.sel [0, 1, 4, 20] rfl
  refine hK3 _ _ ?_
  replace hE := hE.cast 20 rfl (show _ = Value.bool false from (congrArg Value.bool (decide_eq_false (by omega))))
  refine wp_cond_false (hE.eval rfl) ?_
  refine wp_skip ?_
  refine hK2 _ _ ?_
  refine wp_seq_k (fun K4 hK4 => ?_)
  refine wp_plain [true, true, true, true, false, false, true] rfl rfl ?_
  refine s_move hE rfl rfl ?_; clear hE a; intro a hE
  refine s_bin hE rfl rfl (bin_one_shl (by omega)) rfl ?_; clear hE a; intro a hE
  refine s_move hE rfl rfl ?_; clear hE a; intro a hE
  refine s_bin hE rfl rfl (show Bin _ _ _ _ _ (.int .i64 (((2 ^ h) + q : Nat) : Int)) from bin_add (by rw [wrap_i64 (by omega) (by omega)]; omega)) rfl ?_; clear hE a; intro a hE
  refine s_call hE rfl Tryd.call31 (above_c ((2 ^ h) + q) _) rfl ?_
  rintro e w1 ⟨B25, rfl, hN⟩
  refine ⟨_, rfl, trivial, ?_⟩; clear hE a; intro a hE
  replace hM : Mem _ _ w1 [_] := hM.call0 hN ⟨rfl, trivial⟩; clear hN
  refine s_call hE rfl Tryd.call32 (collect_c B25 ((2 ^ h) + q) (2 ^ h) _ (hM.get 0 rfl) (show 2 ^ h + q < 2 * 2 ^ h by omega) hpw2) rfl ?_
  rintro e w2 ⟨v26, rfl, hN⟩
  refine ⟨_, rfl, trivial, ?_⟩; clear hE a; intro a hE
  replace hM : Mem _ _ w2 [_, _] := hM.call0 hN ⟨rfl, trivial⟩; clear hN
  refine s_assign hE rfl rfl ?_; clear hE a; intro a hE
  refine q_nil ?_
  replace hE : Env a 27 [(0, _), (1, _), (4, _), (20, _)] := hE.sel [0, 1, 4, 20] rfl
  refine hK4 _ _ ?_
  refine wp_ret ?_
  refine f_ret1 hE rfl rfl ?_
  replace hM := Mem.ownRowsEq (f := intC) (ls := pathL ((2 ^ h) + q)) (ms := pathL (2 ^ h + q)) hM (by first | with_reducible rfl | (simp; done) | (simp [*]; done) | rfl)
  exact ⟨_, (by first | rfl | (simp; done)), hM.pick [0] rfl⟩
theorem tset_c (b h q : Nat) (k tg : List UInt8) (v : Value) (l : List (List UInt8)) (w : World) (hG : (glb 0).holds w) (hB : (blk b [bv k, [.int .i64 ((h : Nat) : Int)], [v]] [32, 1, 1] 73).holds w) (hS : (own v 32 l.length (l.flatMap bv)).holds w) (hap : ∀ x, x ∈ valBlocks v → x ∉ [b]) (hag : ∀ x, x ∈ valBlocks v → x ∉ (glb 0).ro) (hl_k : k.length = 32) (ho_l : ∀ x, x ∈ l → x.length = 32) (hh : 1 ≤ h ∧ h ≤ 12) (hn : l.length = 2 * 2 ^ h) (hl_tg : tg.length = 32) (hq : q < 2 ^ h) : Calls Tryd.prog 11 #[.pointer (some ⟨b, 0, none⟩), .int .i64 (q : Int), .agg (bv tg).toArray] w fun e w' => ∃ u, e = .returned (.tuple #[u, .int .i64 0]) ∧ Mem w (valBlocks v) w' [own u 1 (setT k l (2 ^ h + q) tg).1.length ((setT k l (2 ^ h + q) tg).1.flatMap intC), own v 32 (setT k l (2 ^ h + q) tg).2.length ((setT k l (2 ^ h + q) tg).2.flatMap bv)] := by
  have hM : Mem w (valBlocks v) w [glb 0, blkR b [bv k, [.int .i64 ((h : Nat) : Int)], [v]] [32, 1, 1] 73, own v 32 l.length (l.flatMap bv)] := Mem.startTree (e := blkR b [bv k, [.int .i64 ((h : Nat) : Int)], [v]] [32, 1, 1] 73) hG hB hS rfl rfl rfl hap hag
  have hpw := two_pow_le hh
  have hpw1 := hpw.1
  have hpw2 := hpw.2
  refine f_enterM 82 Tryd.func11 rfl rfl rfl ?_
  intro a hE
  replace hE : Env a 82 [(0, _), (1, _), (2, _)] := hE
  refine wp_seq_k (fun K1 hK1 => ?_)
  refine wp_plain [false, false, true, true] rfl rfl ?_
  refine s_box (ss := [[_]]) [1] hE hM rfl rfl rfl rfl ?_; clear hE a; intro a b3 w1 hE hM'
  clear hM; have hM := hM'; clear hM'
  refine s_box (ss := [bv tg]) [32] hE hM rfl (by simp [Value.cells]) (by simp [*]) rfl ?_; clear hE a; intro a b5 w2 hE hM'
  clear hM; have hM := hM'; clear hM'
  refine s_assign hE rfl rfl ?_; clear hE a; intro a hE
  refine s_assign hE rfl rfl ?_; clear hE a; intro a hE
  refine q_nil ?_
  replace hE : Env a 82 [(1, _), (3, _), (5, _), (6, _), (7, _)] := hE.sel [1, 3, 5, 6, 7] rfl
  refine hK1 _ _ ?_
  refine wp_seq_k (fun K2 hK2 => ?_)
  refine wp_seq_k (fun K3 hK3 => ?_)
  refine wp_plain [true, false, true] rfl rfl ?_
  refine s_load1 hE rfl (hM.get 1 rfl) rfl one29 (by intro X h; cases h) rfl ?_; clear hE a; intro a hE
  obtain ⟨cs13, hs13⟩ := own_rd (hM.get 4 rfl)
  refine s_call hE rfl Tryd.call30 (tis_c b h k v l cs13 _ (blkR_blk (hM.get 3 rfl)) hl_k ho_l hh (by simp only [foldB_length, List.length_set, hn])) rfl ?_
  rintro e w3 ⟨rfl, hN⟩
  refine ⟨_, rfl, trivial, ?_⟩; clear hE a; intro a hE
  replace hM : Mem _ _ w3 [_, _, _, _, _] := hM.call0 hN trivial; clear hN
  refine s_not hE rfl rfl ?_; clear hE a; intro a hE
  replace hE := hE.cast 14 rfl (show _ = Value.bool false from rfl)
  refine q_nil ?_
  replace hE : Env a 82 [(1, _), (3, _), (5, _), (6, _), (7, _), (14, _)] := hE.sel [1, 3, 5, 6, 7, 14] rfl
  refine hK3 _ _ ?_
  refine wp_cond_false (hE.eval rfl) ?_
  refine wp_skip ?_
  refine hK2 _ _ ?_
  refine wp_seq_k (fun K4 hK4 => ?_)
  refine wp_seq_k (fun K5 hK5 => ?_)
  refine wp_plain [true, true, true, true, true, true, true, true, true, true, true] rfl rfl ?_
  refine s_move hE rfl rfl ?_; clear hE a; intro a hE
  refine s_bin hE rfl rfl bin_lss rfl ?_; clear hE a; intro a hE
  refine s_move hE rfl rfl ?_; clear hE a; intro a hE
  replace hE := hE.cast 17 rfl (show _ = Value.bool false from (congrArg Value.bool (decide_eq_false (by omega))))
  refine g_yes hE rfl rfl ?_
  refine s_move hE rfl rfl ?_; clear hE a; intro a hE
  refine g_yes hE rfl rfl ?_
  refine s_load1 hE rfl (hM.get 1 rfl) rfl one29 (by intro X h; cases h) rfl ?_; clear hE a; intro a hE
  refine g_yes hE rfl rfl ?_
  refine s_nilCheck hE rfl rfl ?_; clear hE a; intro a hE
  refine g_yes hE rfl rfl ?_
  refine s_fieldAddr hE rfl fo73_1 rfl ?_; clear hE a; intro a hE
  refine g_yes hE rfl rfl ?_
  refine s_load1 hE rfl (blkR_blk (hM.get 3 rfl)) rfl one3 (by intro X h; cases h) rfl ?_; clear hE a; intro a hE
  refine g_yes hE rfl rfl ?_
  refine s_bin hE rfl rfl (bin_one_shl (by omega)) rfl ?_; clear hE a; intro a hE
  refine g_yes hE rfl rfl ?_
  refine s_bin hE rfl rfl bin_geq rfl ?_; clear hE a; intro a hE
  refine s_pickf hE rfl rfl rfl ?_; clear hE a; intro a hE
  refine q_nil ?_
  replace hE : Env a 82 [(1, _), (3, _), (5, _), (6, _), (7, _), (14, _), (25, _)] := hE.sel [1, 3, 5, 6, 7, 14, 25] rfl
  refine hK5 _ _ ?_
  replace hE := hE.cast 25 rfl (show _ = Value.bool false from (congrArg Value.bool (decide_eq_false (by omega))))
  refine wp_cond_false (hE.eval rfl) ?_
  refine wp_skip ?_
  refine hK4 _ _ ?_
  refine wp_seq_k (fun K6 hK6 => ?_)
  refine wp_plain [true, true, true, true, true, true, true, true] rfl rfl ?_
  refine s_load1 hE rfl (hM.get 1 rfl) rfl one29 (by intro X h; cases h) rfl ?_; clear hE a; intro a hE
  refine s_nilCheck hE rfl rfl ?_; clear hE a; intro a hE
  refine s_fieldAddr hE rfl fo73_1 rfl ?_; clear hE a; intro a hE
  refine s_load1 hE rfl (blkR_blk (hM.get 3 rfl)) rfl one3 (by intro X h; cases h) rfl ?_; clear hE a; intro a hE
  refine s_bin hE rfl rfl (bin_one_shl (by omega)) rfl ?_; clear hE a; intro a hE
  refine s_move hE rfl rfl ?_; clear hE a; intro a hE
  refine s_bin hE rfl rfl (show Bin _ _ _ _ _ (.int .i64 (((2 ^ h) + q : Nat) : Int)) from bin_add (by rw [wrap_i64 (by omega) (by omega)]; omega)) rfl ?_; clear hE a; intro a hE
  refine s_assign hE rfl rfl ?_; clear hE a; intro a hE
  refine q_nil ?_
  replace hE : Env a 82 [(1, _), (3, _), (5, _), (6, _), (7, _), (8, _), (14, _), (25, _)] := hE.sel [1, 3, 5, 6, 7, 8, 14, 25] rfl
  refine hK6 _ _ ?_
  refine wp_seq_k (fun K7 hK7 => ?_)
  refine wp_seq_k (fun K8 hK8 => ?_)
  refine wp_drawnM hM (by kernel_rfl) (fun _ => False) [(0, true), (1, true), (2, true), (3, true), (4, true), (5, true), (6, true), (7, true), (8, true)] [] (by kernel_rfl) rfl ?_
  intro w4 hM' hww4; clear hM; have hM := hM'; clear hM'
  refine s_load1 hE rfl (hM.get 1 rfl) rfl one29 (by intro X h; cases h; simp) rfl ?_; clear hE a; intro a hE
  refine s_nilCheck hE rfl rfl ?_; clear hE a; intro a hE
  refine s_fieldAddr hE rfl fo73_2 rfl ?_; clear hE a; intro a hE
  refine s_load1 hE rfl (blkR_blk (hM.get 3 rfl)) rfl one24 (by intro X h; cases h; simp) rfl ?_; clear hE a; intro a hE
  refine s_move hE rfl rfl ?_; clear hE a; intro a hE
  obtain ⟨cx38, hx38⟩ := own_rd (hM.get 4 rfl)
  refine s_indexRd (j := (2 ^ h) + q) hE rfl hx38 rfl slt24 (by first | rfl | omega) (by simp only [foldB_length, List.length_set, hn]; omega) rfl ?_; clear hE a; intro a p38 hE hc38 hp38
  have hlj38 : (2 ^ h) + q < l.length := (by simp only [foldB_length, List.length_set, hn]; omega)
  have hok38 := ho_l _ (getD_mem (d := zTg) hlj38)
  rw [flat_elem (d := zTg) (fun x hx => ((bv_length _).trans (ho_l x hx))) hlj38] at hc38
  refine s_loadAtN hE rfl hc38 (by rw [((bv_length _).trans hok38)]; exact row34) (by intro X h; cases h; simp) rfl ?_; clear hE a; intro a hE
  replace hE := hE.cast 39 rfl (show _ = Value.agg (bv (l.getD ((2 ^ h) + q) zTg)).toArray from rfl)
  refine s_loadN hE rfl (hM.get 0 rfl) row34 rfl (by intro X h; cases h; simp) rfl ?_; clear hE a; intro a hE
  refine s_bin hE rfl rfl (eqa34 hok38 hl_tg).1 rfl ?_; clear hE a; intro a hE
  refine q_nil ?_
  replace hE : Env a 82 [(1, _), (3, _), (5, _), (6, _), (7, _), (8, _), (14, _), (25, _), (41, _)] := hE.sel [1, 3, 5, 6, 7, 8, 14, 25, 41] rfl
  refine hK8 _ _ ?_
  refine hE.split 41 rfl (fun hb41 hE' => ?_) (fun hb41 hE' => ?_)
  · replace hE := hE'; clear hE'
    replace hb41 := of_decide_eq_true hb41
    refine wp_cond_true (hE.eval rfl) ?_
    refine wp_seq_k (fun K9 hK9 => ?_)
    refine wp_plain [true, true] rfl rfl ?_
    refine s_assign hE rfl rfl ?_; clear hE a; intro a hE
    refine s_assign hE rfl rfl ?_; clear hE a; intro a hE
    refine q_nil ?_
    refine hK9 _ _ ?_
    refine wp_ret ?_
    refine q_then_r ?_
    refine post_M (f_ret2 hE rfl rfl rfl ?_)
    replace hM := hM.addNil 1
    replace hM := hM.ownEq (m' := ([] : List Nat).length) (cs' := ([] : List Nat).flatMap intC) rfl rfl
    replace hM := Mem.ownRowsEq (f := intC) (ls := ([] : List Nat)) (ms := (setT k l (2 ^ h + q) tg).1) hM (by rw [set_same hb41])
    replace hM : Mem _ _ w4 [_, _, _, _, _, _] := hM.pick [5, 0, 1, 2, 3, 4] rfl
    replace hM := Mem.ownRowsEq (f := bv) (ls := l) (ms := (setT k l (2 ^ h + q) tg).2) hM (by rw [set_same hb41])
    exact ⟨_, rfl, hM.pick [1, 0] rfl⟩
  · replace hE := hE'; clear hE'
    replace hb41 := of_decide_eq_false hb41
    refine wp_cond_false (hE.eval rfl) ?_
    refine wp_skip ?_
    refine hK7 _ _ ?_
    refine wp_seq_k (fun K9 hK9 => ?_)
    refine wp_treeM hM (by kernel_rfl) (fun _ => True) (fun _ => True) (.re [(4, true), (0, true), (1, true), (2, true), (3, true), (5, true), (6, true), (7, false)] (.fl 1 (.weak (.fl 6 (.cut (.or 7 (.cut (.re [] (.weak (.leaf 0)))) (.stop))))))) [(4, true), (0, true), (1, true), (2, true), (3, true), (5, true), (6, true), (7, false)] [(0, [(1, 0), (2, 1), (3, 2), (6, 0), (7, 0)]), (1, [(2, 1), (3, 2), (6, 1), (7, 1)]), (2, [(3, 2), (6, 2), (7, 2)]), (3, [(6, 3), (7, 3)]), (5, [(6, 5), (7, 5)]), (6, [(7, 6)]), (7, [])] (by kernel_rfl) ?_
    intro w5 hM' hww5; clear hM; have hM := hM'; clear hM'
    refine o_re ?_
    refine o_fl rfl ?_
    refine s_move hE rfl rfl ?_; clear hE a; intro a hE
    refine q_nil (q_nx ?_)
    refine o_weak (fun _ => False) (fun _ _ => trivial) ?_
    refine o_fl rfl ?_
    refine s_load1 hE rfl (hM.get 1 rfl) rfl one29 (by intro X h; cases h; simp) rfl ?_; clear hE a; intro a hE
    refine s_nilCheck hE rfl rfl ?_; clear hE a; intro a hE
    refine s_fieldAddr hE rfl fo73_2 rfl ?_; clear hE a; intro a hE
    refine s_load1 hE rfl (blkR_blk (hM.get 3 rfl)) rfl one24 (by intro X h; cases h; simp) rfl ?_; clear hE a; intro a hE
    refine s_loadN hE rfl (hM.get 0 rfl) row34 rfl (by intro X h; cases h; simp) rfl ?_; clear hE a; intro a hE
    have hlj48 : (2 ^ h) + q < l.length := (by simp only [foldB_length, List.length_set, hn]; omega)
    refine s_indexOwn (j := (2 ^ h) + q) hE rfl (hM.get 4 rfl) rfl slt24 (by first | rfl | omega) hlj48 rfl ?_; clear hE a; intro a hE hc48
    refine q_nil (q_nx ?_)
    refine o_cut (fun b => b ∈ valBlocks v) ?_
    refine o_or rfl ?_ ?_
    · replace hM : Mem _ _ w5 [_, _, _, _, _] := hM.pick [4, 0, 1, 2, 3] rfl
      have hls48 : tg.length = 32 := hl_tg
      refine s_storeOwn (vs := bv tg) hE rfl rfl hM rfl sz34 ((bv_length _).trans hls48) (bv_one _) (by rw [bv_length, hls48]; have := hlj48; omega) (by have := hlj48; omega) (by intro X h; cases h; exact fun _ hb => hb) ?_; intro w6 hM'; clear hM; have hM := hM'; clear hM'
      replace hM := Mem.rowPut (ls := l) (x := tg) (j := (2 ^ h) + q) hM rfl ho_l hls48 hlj48
      refine q_nil (q_nx ?_)
      refine o_cut (fun _ => True) ?_
      refine o_re ?_
      refine o_weak (fun _ => False) (fun _ _ => trivial) ?_
      refine o_leaf rfl rfl ?_
      refine q_nil (q_ph (q_nil ?_))
      replace hE : Env a 82 [(1, _), (3, _), (5, _), (6, _), (7, _), (8, _), (14, _), (25, _), (41, _)] := hE.sel [1, 3, 5, 6, 7, 8, 14, 25, 41] rfl
      refine hK9 _ _ ?_
      refine wp_seq_k (fun K10 hK10 => ?_)
      refine wp_plain [false] rfl rfl ?_
      refine s_alloc [1] hE hM zero35 rfl rfl ?_; clear hE a; intro a b9 w7 hE hM'
      clear hM; have hM := hM'; clear hM'
      refine q_nil ?_
      refine hK10 _ _ ?_
      refine wp_seq_k (fun K11 hK11 => ?_)
      refine wp_seq_k (fun K12 hK12 => ?_)
      refine wp_plain [true, false] rfl rfl ?_
      refine s_move hE rfl rfl ?_; clear hE a; intro a hE
      refine s_call hE rfl Tryd.call31 (above_c ((2 ^ h) + q) _) rfl ?_
      rintro e w8 ⟨B50, rfl, hN⟩
      refine ⟨_, rfl, trivial, ?_⟩; clear hE a; intro a hE
      replace hM : Mem _ _ w8 [_, _, _, _, _, _, _] := hM.call0 hN ⟨rfl, trivial⟩; clear hN
      refine q_nil ?_
      replace hE : Env a 82 [(1, _), (3, _), (5, _), (6, _), (7, _), (8, _), (9, _), (14, _), (25, _), (41, _), (50, _)] := hE.sel [1, 3, 5, 6, 7, 8, 9, 14, 25, 41, 50] rfl
      refine hK12 _ _ ?_
      refine wp_block ?_
      replace hM := hM.addNil 1
      replace hM := hM.ownEq (m' := ([] : List Nat).length) (cs' := ([] : List Nat).flatMap intC) rfl rfl
      have hsz := hM.size
      replace hM := Mem.ownRowsEq (f := intC) (ls := ([] : List Nat)) (ms := (nums (n := 2 ^ h) [])) hM rfl
      replace hM : Mem _ _ w8 [_, _, _, _, _, _, _, _] := hM.pick [3, 0, 1, 2, 4, 5, 6, 7] rfl
      replace hM := Mem.ownRowsEq (f := bv) (ls := l.set ((2 ^ h) + q) tg) (ms := foldB k (l.set (2 ^ h + q) tg) (nums (n := 2 ^ h) [])) hM rfl
      replace hM : Mem _ _ w8 [_, _, _, _, _, _, _, _] := hM.pick [1, 2, 3, 0, 4, 5, 6, 7] rfl
      refine wp_range (α := Pn (2 ^ h)) (p := 51) hE rfl Tryd.call41 (above1_c B50 (2 ^ h + q) (2 ^ h) _ (by omega) hpw2 (hM.get 1 rfl)) rfl (fun pre W => goes k (l.set (2 ^ h + q) tg) (nums pre) ∧ ∃ vc : Value, Mem w (valBlocks v) W [own vc 1 ((nums pre).length) ((nums pre).flatMap intC), blk B50 [[.int .i64 (((2 ^ h) + q : Nat) : Int)]] [1] 3, blk b9 [[vc]] [1] 35, own v 32 ((foldB k (l.set (2 ^ h + q) tg) (nums pre)).length) ((foldB k (l.set (2 ^ h + q) tg) (nums pre)).flatMap bv), blk b5 [bv tg] [32] 34, blk b3 [[.pointer (some ⟨b, 0, none⟩)]] [1] 29, glb 0, blkR b [bv k, [.int .i64 ((h : Nat) : Int)], [v]] [32, 1, 1] 73]) (fun c pre W => c = .exit 0 ∧ ∃ (T : List Tg) (vc : Value), fin k (l.set (2 ^ h + q) tg) (nums pre) T ∧ Mem w (valBlocks v) W [own vc 1 ((nums pre).length) ((nums pre).flatMap intC), blk B50 [[.int .i64 (((2 ^ h) + q : Nat) : Int)]] [1] 3, blk b9 [[vc]] [1] 35, own v 32 T.length (T.flatMap bv), blk b5 [bv tg] [32] 34, blk b3 [[.pointer (some ⟨b, 0, none⟩)]] [1] 29, glb 0, blkR b [bv k, [.int .i64 ((h : Nat) : Int)], [v]] [32, 1, 1] 73]) (fun s W W' row ⟨hp, vc, h⟩ hg hr => ⟨hp, vc, h.grown (by repeat' first | exact celdL_nil | refine celdL_cons ?_ ?_ | exact celd_blk | exact celd_own | exact celd_glb | exact celd_blkR | exact celd_ownW | exact celd_cells | exact celd_rd (by assumption)) hg hr hsz⟩) (fun c s W W' row ⟨hc, T, vc, hf, h⟩ hg hr => ⟨hc, T, vc, hf, h.grown (by repeat' first | exact celdL_nil | refine celdL_cons ?_ ?_ | exact celd_blk | exact celd_own | exact celd_glb | exact celd_blkR | exact celd_ownW | exact celd_cells | exact celd_rd (by assumption)) hg hr hsz⟩) ⟨trivial, _, hM⟩ (fun x => [(10, .int .i64 ((x.1 : Nat) : Int)), (1, .int .i64 ((q : Nat) : Int)), (3, .pointer (some ⟨b3, 0, none⟩)), (5, .pointer (some ⟨b5, 0, none⟩)), (8, .int .i64 (((2 ^ h) + q : Nat) : Int)), (9, .pointer (some ⟨b9, 0, none⟩)), (14, .bool false), (25, .bool false), (41, .bool false)]) ?_ ?_ ?_ ?_
      · intro ll x a W K hE hK
        refine rp_plain [true] rfl rfl rfl (fun ⟨_, _, h⟩ => h) ?_
        refine s_assign hE rfl rfl ?_; clear hE a; intro a hE
        refine q_nil ?_
        exact hK _ (hE.sel [10, 1, 3, 5, 8, 9, 14, 25, 41] rfl)
      · clear hE hM a; rintro ll pre x a W ⟨hpre, vc, hM0⟩ hlt hE
        have hM := hM0.rebase
        have hx := x.2
        have hpl := pathL_le_len (2 ^ h + q)
        have hnl := nums_len pre
        refine wpIn_block ?_
        refine wpIn_seq_k (fun K13 hK13 => ?_)
        refine rp_plain [true, true, false, false, false] rfl rfl rfl (fun ⟨_, _, h⟩ => h) ?_
        refine s_load1 hE rfl (hM.get 2 rfl) rfl one35 (by intro X h; cases h) rfl ?_; clear hE a; intro a hE
        refine s_move hE rfl rfl ?_; clear hE a; intro a hE
        refine s_buildSlice (xs := [.tmp 53]) ([.int .i64 ((x.1 : Nat) : Int)]) hE hM sl35 rfl rfl rfl (by intro v hv; simp only [List.mem_cons, List.not_mem_nil, or_false] at hv; rcases hv with rfl <;> rfl) rfl rfl rfl rfl ?_; clear hE a; intro a v54 w9 hE hM'
        clear hM; have hM := hM'; clear hM'
        replace hM := hM.ownEq (m' := ([x.1] : List Nat).length) (cs' := ([x.1] : List Nat).flatMap intC) rfl rfl
        replace hM : Mem _ _ w9 [_, _, _, _, _, _, _, _, _] := hM.pick [1, 0, 2, 3, 4, 5, 6, 7, 8] rfl
        obtain ⟨cq1, hq1⟩ := own_rd (hM.get 1 rfl)
        refine s_append hE rfl rfl hM sl35 (Src.rd Tryd.underlying35 hq1 (intCs_one _)) (len47 (by first | omega | (simp; done) | (simp; omega))) (by first | omega | (simp; done) | (simp; omega)) (by intro X h; cases h) rfl ?_; clear hE a; intro a v55 w10 hE hM'; clear hM; have hM := hM'; clear hM'
        replace hM := Mem.ownRowsL (f := intC) (ls := (nums pre)) (ms := ([x.1] : List Nat)) hM rfl rfl
        replace hM : Mem _ _ w10 [_, _, _, _, _, _, _, _] := hM.pick [0, 2, 3, 4, 5, 6, 7, 8] rfl
        replace hM : Mem _ _ w10 [_, _, _, _, _, _, _, _] := hM.pick [2, 0, 1, 3, 4, 5, 6, 7] rfl
        refine s_store1 0 hE rfl rfl hM (own_one (hM.get 1 rfl)).1 (own_one (hM.get 1 rfl)).2 sz35 rfl rfl (by intro X h; cases h) ?_; intro w11 hM'; clear hM; have hM := hM'; clear hM'
        refine q_nil ?_
        replace hE : Env a 82 [(1, _), (3, _), (5, _), (8, _), (9, _), (10, _), (14, _), (25, _), (41, _)] := hE.sel [1, 3, 5, 8, 9, 10, 14, 25, 41] rfl
        refine hK13 _ _ ?_
        refine wpIn_seq_k (fun K14 hK14 => ?_)
        refine rp_treeM hM (by kernel_rfl) (fun _ => True) (fun _ => True) (.re [(4, true), (6, true), (0, true), (1, true), (2, true), (3, true), (5, true), (7, false), (8, false), (9, false), (10, false)] (.fl 2 (.weak (.fl 5 (.or 7 (.re [(8, false), (9, false), (10, false)] (.fl 0 (.fl 0 (.or 8 (.re [(9, false), (10, false)] (.fl 0 (.fl 0 (.or 9 (.cut (.re [(10, false)] (.fl 0 (.fl 0 (.weak (.or 10 (.cut (.re [] (.weak (.leaf 0)))) (.stop))))))) (.stop))))) (.or 9 (.cut (.re [(8, false), (10, false)] (.fl 0 (.fl 0 (.or 8 (.re [(10, false)] (.fl 0 (.fl 0 (.weak (.or 10 (.cut (.re [] (.weak (.leaf 0)))) (.stop)))))) (.stop)))))) (.stop)))))) (.or 9 (.re [(7, false), (8, false), (10, false)] (.fl 0 (.fl 0 (.or 7 (.cut (.re [(8, false), (10, false)] (.fl 0 (.fl 0 (.or 8 (.re [(10, false)] (.fl 0 (.fl 0 (.weak (.or 10 (.cut (.re [] (.weak (.leaf 0)))) (.stop)))))) (.stop)))))) (.stop))))) (.stop))))))) [(4, true), (6, true), (0, true), (1, true), (2, true), (3, true), (5, true), (7, false), (8, false), (9, false), (10, false)] [(0, [(1, 0), (2, 1), (3, 2), (8, 3), (10, 0)]), (1, [(2, 1), (3, 2), (8, 3), (10, 1)]), (2, [(3, 2), (8, 3), (10, 2)]), (3, [(8, 3), (10, 3)]), (5, [(7, 5), (8, 7), (10, 5)]), (7, [(8, 7), (10, 7)]), (8, [(10, 8)]), (9, [(10, 9)]), (10, [])] (by kernel_rfl) rfl (fun ⟨_, _, h⟩ => h) ?_
        intro w12 hM' hww12; clear hM; have hM := hM'; clear hM'
        refine o_re ?_
        refine o_fl rfl ?_
        refine s_move hE rfl rfl ?_; clear hE a; intro a hE
        refine s_move hE rfl rfl ?_; clear hE a; intro a hE
        refine q_nil (q_nx ?_)
        refine o_weak (fun _ => False) (fun _ _ => trivial) ?_
        refine o_fl rfl ?_
        refine s_load1 hE rfl (hM.get 5 rfl) rfl one29 (by intro X h; cases h; simp) rfl ?_; clear hE a; intro a hE
        refine s_nilCheck hE rfl rfl ?_; clear hE a; intro a hE
        refine s_fieldAddr hE rfl fo73_0 rfl ?_; clear hE a; intro a hE
        refine s_loadN hE rfl (blkR_blk (hM.get 7 rfl)) row23 rfl (by intro X h; cases h; simp) rfl ?_; clear hE a; intro a hE
        refine s_load1 hE rfl (hM.get 5 rfl) rfl one29 (by intro X h; cases h; simp) rfl ?_; clear hE a; intro a hE
        refine q_nil (q_nx ?_)
        refine o_or rfl ?_ ?_
        · obtain ⟨cs63, hs63⟩ := own_rd (hM.get 3 rfl)
          refine s_call hE rfl Tryd.call29 (tsector_c b h k v (foldB k (l.set (2 ^ h + q) tg) (nums pre)) cs63 x.1 _ (blkR_blk (hM.get 7 rfl)) hs63 hl_k (OkTs.foldB (OkTs.set ho_l hl_tg)) hh (by simp only [foldB_length, List.length_set, hn]) (by omega)) rfl ?_
          rintro e w13 ⟨rfl, hN⟩
          refine ⟨_, rfl, hN.sta0 _, ?_⟩; clear hE a; intro a hE
          replace hM : Mem _ _ w13 [_, _, _, _, _, _, _, _] := hM.call0 hN trivial; clear hN
          refine q_nil (q_nx ?_)
          refine o_re ?_
          refine o_fl rfl ?_
          refine q_nil (q_nx ?_)
          refine o_fl rfl ?_
          refine q_nil (q_nx ?_)
          refine o_or rfl ?_ ?_
          · refine s_call hE rfl Tryd.call17 (tnode_c k ((x.1 : Nat) : Int) (secA (foldB k (l.set (2 ^ h + q) tg) (nums pre)) x.1) _ (hM.get 6 rfl) hl_k (secA_len (OkTs.foldB (OkTs.set ho_l hl_tg)) x.1)) rfl ?_
            rintro e w14 ⟨rfl, hN⟩
            refine ⟨_, rfl, hN.sta0 _, ?_⟩; clear hE a; intro a hE
            replace hM : Mem _ _ w14 [_, _, _, _, _, _, _, _] := hM.call0 hN trivial; clear hN
            replace hE := hE.cast 64 rfl (show _ = Value.agg (bv (nd k x.1 (secA (foldB k (l.set (2 ^ h + q) tg) (nums pre)) x.1))).toArray from rfl)
            refine q_nil (q_nx ?_)
            refine o_re ?_
            refine o_fl rfl ?_
            refine q_nil (q_nx ?_)
            refine o_fl rfl ?_
            refine q_nil (q_nx ?_)
            refine o_or rfl ?_ ?_
            · refine s_alloc [32] hE hM zero34 rfl rfl ?_; clear hE a; intro a b11 w15 hE hM'
              clear hM; have hM := hM'; clear hM'
              refine q_nil (q_nx ?_)
              refine o_cut (fun _ => True) ?_
              refine o_re ?_
              refine o_fl rfl ?_
              refine q_nil (q_nx ?_)
              refine o_fl rfl ?_
              refine q_nil (q_nx ?_)
              refine o_weak (fun b => b = b11) (fun _ _ => trivial) ?_
              refine o_or rfl ?_ ?_
              · refine s_storeSeg 0 hE rfl rfl hM rfl sz34 ((bv_length _).trans (nd_len ..)) (bv_one _) rfl ((bv_length _).trans (by first | (simp; done) | (simp [*]; done) | (simp; omega))) rfl (by intro X h; cases h; rfl) ?_; intro w16 hM'; clear hM; have hM := hM'; clear hM'
                simp only [List.set_cons_zero, List.set_cons_succ] at hM
                refine q_nil (q_nx ?_)
                refine o_cut (fun _ => True) ?_
                refine o_re ?_
                refine o_weak (fun _ => False) (fun _ _ => trivial) ?_
                refine o_leaf rfl rfl ?_
                refine q_nil (q_ph (q_nil ?_))
                replace hE : Env a 82 [(1, _), (3, _), (5, _), (8, _), (9, _), (10, _), (11, _), (14, _), (25, _), (41, _)] := hE.sel [1, 3, 5, 8, 9, 10, 11, 14, 25, 41] rfl
                refine hK14 _ _ ?_
                refine wpIn_seq_k (fun K15 hK15 => ?_)
                refine wpIn_seq_k (fun K16 hK16 => ?_)
                refine rp_treeM hM (by kernel_rfl) (fun _ => True) (fun _ => True) (.re [(5, true), (0, true), (1, true), (2, true), (3, true), (4, true), (6, true), (7, true), (8, true)] (.weak (.leaf 9))) [(5, true), (0, true), (1, true), (2, true), (3, true), (4, true), (6, true), (7, true), (8, true)] [] (by kernel_rfl) rfl (fun ⟨_, _, h⟩ => h) ?_
                intro w17 hM' hww17; clear hM; have hM := hM'; clear hM'
                refine o_re ?_
                refine o_weak (fun _ => False) (fun _ _ => trivial) ?_
                refine o_leaf rfl rfl ?_
                refine s_move hE rfl rfl ?_; clear hE a; intro a hE
                refine s_loadN hE rfl (hM.get 0 rfl) row34 rfl (by intro X h; cases h; simp) rfl ?_; clear hE a; intro a hE
                refine s_load1 hE rfl (hM.get 6 rfl) rfl one29 (by intro X h; cases h; simp) rfl ?_; clear hE a; intro a hE
                refine s_nilCheck hE rfl rfl ?_; clear hE a; intro a hE
                refine s_fieldAddr hE rfl fo73_2 rfl ?_; clear hE a; intro a hE
                refine s_load1 hE rfl (blkR_blk (hM.get 8 rfl)) rfl one24 (by intro X h; cases h; simp) rfl ?_; clear hE a; intro a hE
                obtain ⟨cx71, hx71⟩ := own_rd (hM.get 4 rfl)
                refine s_indexRd (j := x.1) hE rfl hx71 rfl slt24 (by first | rfl | omega) (by simp only [foldB_length, List.length_set, hn]; omega) rfl ?_; clear hE a; intro a p71 hE hc71 hp71
                have hlj71 : x.1 < (foldB k (l.set (2 ^ h + q) tg) (nums pre)).length := (by simp only [foldB_length, List.length_set, hn]; omega)
                have hok71 := (OkTs.foldB (OkTs.set ho_l hl_tg)) _ (getD_mem (d := zTg) hlj71)
                rw [flat_elem (d := zTg) (fun x hx => ((bv_length _).trans ((OkTs.foldB (OkTs.set ho_l hl_tg)) x hx))) hlj71] at hc71
                refine s_loadAtN hE rfl hc71 (by rw [((bv_length _).trans hok71)]; exact row34) (by intro X h; cases h; simp) rfl ?_; clear hE a; intro a hE
                replace hE := hE.cast 72 rfl (show _ = Value.agg (bv ((foldB k (l.set (2 ^ h + q) tg) (nums pre)).getD x.1 zTg)).toArray from rfl)
                refine s_bin hE rfl rfl (eqa34 (nd_len ..) hok71).1 rfl ?_; clear hE a; intro a hE
                refine q_nil (q_ph (q_nil ?_))
                replace hE : Env a 82 [(1, _), (3, _), (5, _), (8, _), (9, _), (10, _), (11, _), (14, _), (25, _), (41, _), (73, _)] := hE.sel [1, 3, 5, 8, 9, 10, 11, 14, 25, 41, 73] rfl
                refine hK16 _ _ ?_
                refine hE.split 73 rfl (fun hb73 hE' => ?_) (fun hb73 hE' => ?_)
                · replace hE := hE'; clear hE'
                  replace hb73 := of_decide_eq_true hb73
                  refine wpIn_cond_true (hE.eval rfl) ?_
                  refine wpIn_exit ?_
                  refine q_then_e ?_
                  refine q_block_o rfl ?_
                  replace hM : Mem _ _ w17 [_, _, _, _, _, _, _, _, _] := hM.pick [2, 0, 1, 3, 4, 5, 6, 7, 8] rfl
                  replace hM := Mem.ownRowsEq (f := intC) (ls := (nums pre) ++ ([x.1] : List Nat)) (ms := (nums (pre ++ [x]))) hM ((nums_snoc ..).symm)
                  replace hM : Mem _ _ w17 [_, _, _, _, _, _, _, _, _] := hM.pick [4, 0, 1, 2, 3, 5, 6, 7, 8] rfl
                  replace hM : Mem _ _ w17 [_, _, _, _, _, _, _, _] := hM.pick [0, 1, 3, 4, 5, 6, 7, 8] rfl
                  replace hM : Mem _ _ w17 [_, _, _, _, _, _, _, _] := hM.pick [1, 3, 2, 0, 4, 5, 6, 7] rfl
                  exact ⟨hM0.keeps (by repeat' first | exact celdL_nil | refine celdL_cons ?_ ?_ | exact celd_blk | exact celd_own | exact celd_glb | exact celd_blkR | exact celd_ownW | exact celd_cells | exact celd_rd (by assumption)) hM, rfl, _, _, (by rw [nums_snoc]; exact fin_of (OkTs.set ho_l hl_tg) hpre hb73), hM0.back hM⟩
                · replace hE := hE'; clear hE'
                  replace hb73 := of_decide_eq_false hb73
                  refine wpIn_cond_false (hE.eval rfl) ?_
                  refine wpIn_skip ?_
                  refine hK15 _ _ ?_
                  refine rp_treeM hM (by kernel_rfl) (fun _ => True) (fun _ => True) (.re [(4, true), (0, true), (1, true), (2, true), (3, true), (5, true), (6, true), (7, false)] (.fl 1 (.weak (.fl 6 (.cut (.or 7 (.cut (.re [] (.weak (.leaf 0)))) (.stop))))))) [(4, true), (0, true), (1, true), (2, true), (3, true), (5, true), (6, true), (7, false)] [(0, [(1, 0), (2, 1), (3, 2), (6, 0), (7, 0)]), (1, [(2, 1), (3, 2), (6, 1), (7, 1)]), (2, [(3, 2), (6, 2), (7, 2)]), (3, [(6, 3), (7, 3)]), (5, [(6, 5), (7, 5)]), (6, [(7, 6)]), (7, [])] (by kernel_rfl) rfl (fun ⟨_, _, h⟩ => h) ?_
                  intro w18 hM' hww18; clear hM; have hM := hM'; clear hM'
                  refine o_re ?_
                  refine o_fl rfl ?_
                  refine s_move hE rfl rfl ?_; clear hE a; intro a hE
                  refine q_nil (q_nx ?_)
                  refine o_weak (fun _ => False) (fun _ _ => trivial) ?_
                  refine o_fl rfl ?_
                  refine s_load1 hE rfl (hM.get 6 rfl) rfl one29 (by intro X h; cases h; simp) rfl ?_; clear hE a; intro a hE
                  refine s_nilCheck hE rfl rfl ?_; clear hE a; intro a hE
                  refine s_fieldAddr hE rfl fo73_2 rfl ?_; clear hE a; intro a hE
                  refine s_load1 hE rfl (blkR_blk (hM.get 8 rfl)) rfl one24 (by intro X h; cases h; simp) rfl ?_; clear hE a; intro a hE
                  refine s_loadN hE rfl (hM.get 0 rfl) row34 rfl (by intro X h; cases h; simp) rfl ?_; clear hE a; intro a hE
                  have hlj80 : x.1 < (foldB k (l.set (2 ^ h + q) tg) (nums pre)).length := (by simp only [foldB_length, List.length_set, hn]; omega)
                  refine s_indexOwn (j := x.1) hE rfl (hM.get 4 rfl) rfl slt24 (by first | rfl | omega) hlj80 rfl ?_; clear hE a; intro a hE hc80
                  refine q_nil (q_nx ?_)
                  refine o_cut (fun b => b ∈ valBlocks v) ?_
                  refine o_or rfl ?_ ?_
                  · replace hM : Mem _ _ w18 [_, _, _, _, _, _, _, _, _] := hM.pick [4, 0, 1, 2, 3, 5, 6, 7, 8] rfl
                    have hls80 : (nd k x.1 (secA (foldB k (l.set (2 ^ h + q) tg) (nums pre)) x.1)).length = 32 := (nd_len ..)
                    refine s_storeOwn (vs := bv (nd k x.1 (secA (foldB k (l.set (2 ^ h + q) tg) (nums pre)) x.1))) hE rfl rfl hM rfl sz34 ((bv_length _).trans hls80) (bv_one _) (by rw [bv_length, hls80]; have := hlj80; omega) (by have := hlj80; omega) (by intro X h; cases h; exact fun _ hb => hb) ?_; intro w19 hM'; clear hM; have hM := hM'; clear hM'
                    replace hM := Mem.rowPut (ls := foldB k (l.set (2 ^ h + q) tg) (nums pre)) (x := nd k x.1 (secA (foldB k (l.set (2 ^ h + q) tg) (nums pre)) x.1)) (j := x.1) hM rfl (OkTs.foldB (OkTs.set ho_l hl_tg)) hls80 hlj80
                    refine q_nil (q_nx ?_)
                    refine o_cut (fun _ => True) ?_
                    refine o_re ?_
                    refine o_weak (fun _ => False) (fun _ _ => trivial) ?_
                    refine o_leaf rfl rfl ?_
                    refine q_nil (q_ph (q_nil ?_))
                    replace hE : Env a 82 [(1, _), (3, _), (5, _), (8, _), (9, _), (10, _), (11, _), (14, _), (25, _), (41, _), (73, _)] := hE.sel [1, 3, 5, 8, 9, 10, 11, 14, 25, 41, 73] rfl
                    refine q_block_n ?_
                    replace hM : Mem _ _ w19 [_, _, _, _, _, _, _, _, _] := hM.pick [3, 0, 1, 2, 4, 5, 6, 7, 8] rfl
                    replace hM := Mem.ownRowsEq (f := intC) (ls := (nums pre) ++ ([x.1] : List Nat)) (ms := (nums (pre ++ [x]))) hM ((nums_snoc ..).symm)
                    replace hM : Mem _ _ w19 [_, _, _, _, _, _, _, _, _] := hM.pick [1, 0, 2, 3, 4, 5, 6, 7, 8] rfl
                    replace hM := Mem.ownRowsEq (f := bv) (ls := (foldB k (l.set (2 ^ h + q) tg) (nums pre)).set x.1 (nd k x.1 (secA (foldB k (l.set (2 ^ h + q) tg) (nums pre)) x.1))) (ms := foldB k (l.set (2 ^ h + q) tg) (nums (pre ++ [x]))) hM (by rw [nums_snoc, foldB_snoc, stepB])
                    replace hM : Mem _ _ w19 [_, _, _, _, _, _, _, _] := hM.pick [0, 1, 3, 4, 5, 6, 7, 8] rfl
                    replace hM : Mem _ _ w19 [_, _, _, _, _, _, _, _] := hM.pick [1, 3, 2, 0, 4, 5, 6, 7] rfl
                    exact ⟨hM0.keeps (by repeat' first | exact celdL_nil | refine celdL_cons ?_ ?_ | exact celd_blk | exact celd_own | exact celd_glb | exact celd_blkR | exact celd_ownW | exact celd_cells | exact celd_rd (by assumption)) hM, trivial, (by rw [nums_snoc]; exact goes_snoc hpre hb73), _, hM0.back hM⟩
                  trivial
              trivial
            trivial
          refine o_or rfl ?_ ?_
          · refine s_alloc [32] hE hM zero34 rfl rfl ?_; clear hE a; intro a b11 w14 hE hM'
            clear hM; have hM := hM'; clear hM'
            refine q_nil (q_nx ?_)
            refine o_cut (fun _ => True) ?_
            refine o_re ?_
            refine o_fl rfl ?_
            refine q_nil (q_nx ?_)
            refine o_fl rfl ?_
            refine q_nil (q_nx ?_)
            refine o_or rfl ?_ ?_
            · refine s_call hE rfl Tryd.call17 (tnode_c k ((x.1 : Nat) : Int) (secA (foldB k (l.set (2 ^ h + q) tg) (nums pre)) x.1) _ (hM.get 7 rfl) hl_k (secA_len (OkTs.foldB (OkTs.set ho_l hl_tg)) x.1)) rfl ?_
              rintro e w15 ⟨rfl, hN⟩
              refine ⟨_, rfl, hN.sta0 _, ?_⟩; clear hE a; intro a hE
              replace hM : Mem _ _ w15 [_, _, _, _, _, _, _, _, _] := hM.call0 hN trivial; clear hN
              replace hE := hE.cast 64 rfl (show _ = Value.agg (bv (nd k x.1 (secA (foldB k (l.set (2 ^ h + q) tg) (nums pre)) x.1))).toArray from rfl)
              refine q_nil (q_nx ?_)
              refine o_re ?_
              refine o_fl rfl ?_
              refine q_nil (q_nx ?_)
              refine o_fl rfl ?_
              refine q_nil (q_nx ?_)
              refine o_weak (fun b => b = b11) (fun _ _ => trivial) ?_
              refine o_or rfl ?_ ?_
              · refine s_storeSeg 0 hE rfl rfl hM rfl sz34 ((bv_length _).trans (nd_len ..)) (bv_one _) rfl ((bv_length _).trans (by first | (simp; done) | (simp [*]; done) | (simp; omega))) rfl (by intro X h; cases h; rfl) ?_; intro w16 hM'; clear hM; have hM := hM'; clear hM'
                simp only [List.set_cons_zero, List.set_cons_succ] at hM
                refine q_nil (q_nx ?_)
                refine o_cut (fun _ => True) ?_
                refine o_re ?_
                refine o_weak (fun _ => False) (fun _ _ => trivial) ?_
                refine o_leaf rfl rfl ?_
                refine q_nil (q_ph (q_nil ?_))
                replace hE : Env a 82 [(1, _), (3, _), (5, _), (8, _), (9, _), (10, _), (11, _), (14, _), (25, _), (41, _)] := hE.sel [1, 3, 5, 8, 9, 10, 11, 14, 25, 41] rfl
                refine hK14 _ _ ?_
                refine wpIn_seq_k (fun K15 hK15 => ?_)
                refine wpIn_seq_k (fun K16 hK16 => ?_)
                refine rp_treeM hM (by kernel_rfl) (fun _ => True) (fun _ => True) (.re [(5, true), (0, true), (1, true), (2, true), (3, true), (4, true), (6, true), (7, true), (8, true)] (.weak (.leaf 9))) [(5, true), (0, true), (1, true), (2, true), (3, true), (4, true), (6, true), (7, true), (8, true)] [] (by kernel_rfl) rfl (fun ⟨_, _, h⟩ => h) ?_
                intro w17 hM' hww17; clear hM; have hM := hM'; clear hM'
                refine o_re ?_
                refine o_weak (fun _ => False) (fun _ _ => trivial) ?_
                refine o_leaf rfl rfl ?_
                refine s_move hE rfl rfl ?_; clear hE a; intro a hE
                refine s_loadN hE rfl (hM.get 0 rfl) row34 rfl (by intro X h; cases h; simp) rfl ?_; clear hE a; intro a hE
                refine s_load1 hE rfl (hM.get 6 rfl) rfl one29 (by intro X h; cases h; simp) rfl ?_; clear hE a; intro a hE
                refine s_nilCheck hE rfl rfl ?_; clear hE a; intro a hE
                refine s_fieldAddr hE rfl fo73_2 rfl ?_; clear hE a; intro a hE
                refine s_load1 hE rfl (blkR_blk (hM.get 8 rfl)) rfl one24 (by intro X h; cases h; simp) rfl ?_; clear hE a; intro a hE
                obtain ⟨cx71, hx71⟩ := own_rd (hM.get 4 rfl)
                refine s_indexRd (j := x.1) hE rfl hx71 rfl slt24 (by first | rfl | omega) (by simp only [foldB_length, List.length_set, hn]; omega) rfl ?_; clear hE a; intro a p71 hE hc71 hp71
                have hlj71 : x.1 < (foldB k (l.set (2 ^ h + q) tg) (nums pre)).length := (by simp only [foldB_length, List.length_set, hn]; omega)
                have hok71 := (OkTs.foldB (OkTs.set ho_l hl_tg)) _ (getD_mem (d := zTg) hlj71)
                rw [flat_elem (d := zTg) (fun x hx => ((bv_length _).trans ((OkTs.foldB (OkTs.set ho_l hl_tg)) x hx))) hlj71] at hc71
                refine s_loadAtN hE rfl hc71 (by rw [((bv_length _).trans hok71)]; exact row34) (by intro X h; cases h; simp) rfl ?_; clear hE a; intro a hE
                replace hE := hE.cast 72 rfl (show _ = Value.agg (bv ((foldB k (l.set (2 ^ h + q) tg) (nums pre)).getD x.1 zTg)).toArray from rfl)
                refine s_bin hE rfl rfl (eqa34 (nd_len ..) hok71).1 rfl ?_; clear hE a; intro a hE
                refine q_nil (q_ph (q_nil ?_))
                replace hE : Env a 82 [(1, _), (3, _), (5, _), (8, _), (9, _), (10, _), (11, _), (14, _), (25, _), (41, _), (73, _)] := hE.sel [1, 3, 5, 8, 9, 10, 11, 14, 25, 41, 73] rfl
                refine hK16 _ _ ?_
                refine hE.split 73 rfl (fun hb73 hE' => ?_) (fun hb73 hE' => ?_)
                · replace hE := hE'; clear hE'
                  replace hb73 := of_decide_eq_true hb73
                  refine wpIn_cond_true (hE.eval rfl) ?_
                  refine wpIn_exit ?_
                  refine q_then_e ?_
                  refine q_block_o rfl ?_
                  replace hM : Mem _ _ w17 [_, _, _, _, _, _, _, _, _] := hM.pick [2, 0, 1, 3, 4, 5, 6, 7, 8] rfl
                  replace hM := Mem.ownRowsEq (f := intC) (ls := (nums pre) ++ ([x.1] : List Nat)) (ms := (nums (pre ++ [x]))) hM ((nums_snoc ..).symm)
                  replace hM : Mem _ _ w17 [_, _, _, _, _, _, _, _, _] := hM.pick [4, 0, 1, 2, 3, 5, 6, 7, 8] rfl
                  replace hM : Mem _ _ w17 [_, _, _, _, _, _, _, _] := hM.pick [0, 1, 3, 4, 5, 6, 7, 8] rfl
                  replace hM : Mem _ _ w17 [_, _, _, _, _, _, _, _] := hM.pick [1, 3, 2, 0, 4, 5, 6, 7] rfl
                  exact ⟨hM0.keeps (by repeat' first | exact celdL_nil | refine celdL_cons ?_ ?_ | exact celd_blk | exact celd_own | exact celd_glb | exact celd_blkR | exact celd_ownW | exact celd_cells | exact celd_rd (by assumption)) hM, rfl, _, _, (by rw [nums_snoc]; exact fin_of (OkTs.set ho_l hl_tg) hpre hb73), hM0.back hM⟩
                · replace hE := hE'; clear hE'
                  replace hb73 := of_decide_eq_false hb73
                  refine wpIn_cond_false (hE.eval rfl) ?_
                  refine wpIn_skip ?_
                  refine hK15 _ _ ?_
                  refine rp_treeM hM (by kernel_rfl) (fun _ => True) (fun _ => True) (.re [(4, true), (0, true), (1, true), (2, true), (3, true), (5, true), (6, true), (7, false)] (.fl 1 (.weak (.fl 6 (.cut (.or 7 (.cut (.re [] (.weak (.leaf 0)))) (.stop))))))) [(4, true), (0, true), (1, true), (2, true), (3, true), (5, true), (6, true), (7, false)] [(0, [(1, 0), (2, 1), (3, 2), (6, 0), (7, 0)]), (1, [(2, 1), (3, 2), (6, 1), (7, 1)]), (2, [(3, 2), (6, 2), (7, 2)]), (3, [(6, 3), (7, 3)]), (5, [(6, 5), (7, 5)]), (6, [(7, 6)]), (7, [])] (by kernel_rfl) rfl (fun ⟨_, _, h⟩ => h) ?_
                  intro w18 hM' hww18; clear hM; have hM := hM'; clear hM'
                  refine o_re ?_
                  refine o_fl rfl ?_
                  refine s_move hE rfl rfl ?_; clear hE a; intro a hE
                  refine q_nil (q_nx ?_)
                  refine o_weak (fun _ => False) (fun _ _ => trivial) ?_
                  refine o_fl rfl ?_
                  refine s_load1 hE rfl (hM.get 6 rfl) rfl one29 (by intro X h; cases h; simp) rfl ?_; clear hE a; intro a hE
                  refine s_nilCheck hE rfl rfl ?_; clear hE a; intro a hE
                  refine s_fieldAddr hE rfl fo73_2 rfl ?_; clear hE a; intro a hE
                  refine s_load1 hE rfl (blkR_blk (hM.get 8 rfl)) rfl one24 (by intro X h; cases h; simp) rfl ?_; clear hE a; intro a hE
                  refine s_loadN hE rfl (hM.get 0 rfl) row34 rfl (by intro X h; cases h; simp) rfl ?_; clear hE a; intro a hE
                  have hlj80 : x.1 < (foldB k (l.set (2 ^ h + q) tg) (nums pre)).length := (by simp only [foldB_length, List.length_set, hn]; omega)
                  refine s_indexOwn (j := x.1) hE rfl (hM.get 4 rfl) rfl slt24 (by first | rfl | omega) hlj80 rfl ?_; clear hE a; intro a hE hc80
                  refine q_nil (q_nx ?_)
                  refine o_cut (fun b => b ∈ valBlocks v) ?_
                  refine o_or rfl ?_ ?_
                  · replace hM : Mem _ _ w18 [_, _, _, _, _, _, _, _, _] := hM.pick [4, 0, 1, 2, 3, 5, 6, 7, 8] rfl
                    have hls80 : (nd k x.1 (secA (foldB k (l.set (2 ^ h + q) tg) (nums pre)) x.1)).length = 32 := (nd_len ..)
                    refine s_storeOwn (vs := bv (nd k x.1 (secA (foldB k (l.set (2 ^ h + q) tg) (nums pre)) x.1))) hE rfl rfl hM rfl sz34 ((bv_length _).trans hls80) (bv_one _) (by rw [bv_length, hls80]; have := hlj80; omega) (by have := hlj80; omega) (by intro X h; cases h; exact fun _ hb => hb) ?_; intro w19 hM'; clear hM; have hM := hM'; clear hM'
                    replace hM := Mem.rowPut (ls := foldB k (l.set (2 ^ h + q) tg) (nums pre)) (x := nd k x.1 (secA (foldB k (l.set (2 ^ h + q) tg) (nums pre)) x.1)) (j := x.1) hM rfl (OkTs.foldB (OkTs.set ho_l hl_tg)) hls80 hlj80
                    refine q_nil (q_nx ?_)
                    refine o_cut (fun _ => True) ?_
                    refine o_re ?_
                    refine o_weak (fun _ => False) (fun _ _ => trivial) ?_
                    refine o_leaf rfl rfl ?_
                    refine q_nil (q_ph (q_nil ?_))
                    replace hE : Env a 82 [(1, _), (3, _), (5, _), (8, _), (9, _), (10, _), (11, _), (14, _), (25, _), (41, _), (73, _)] := hE.sel [1, 3, 5, 8, 9, 10, 11, 14, 25, 41, 73] rfl
                    refine q_block_n ?_
                    replace hM : Mem _ _ w19 [_, _, _, _, _, _, _, _, _] := hM.pick [3, 0, 1, 2, 4, 5, 6, 7, 8] rfl
                    replace hM := Mem.ownRowsEq (f := intC) (ls := (nums pre) ++ ([x.1] : List Nat)) (ms := (nums (pre ++ [x]))) hM ((nums_snoc ..).symm)
                    replace hM : Mem _ _ w19 [_, _, _, _, _, _, _, _, _] := hM.pick [1, 0, 2, 3, 4, 5, 6, 7, 8] rfl
                    replace hM := Mem.ownRowsEq (f := bv) (ls := (foldB k (l.set (2 ^ h + q) tg) (nums pre)).set x.1 (nd k x.1 (secA (foldB k (l.set (2 ^ h + q) tg) (nums pre)) x.1))) (ms := foldB k (l.set (2 ^ h + q) tg) (nums (pre ++ [x]))) hM (by rw [nums_snoc, foldB_snoc, stepB])
                    replace hM : Mem _ _ w19 [_, _, _, _, _, _, _, _] := hM.pick [0, 1, 3, 4, 5, 6, 7, 8] rfl
                    replace hM : Mem _ _ w19 [_, _, _, _, _, _, _, _] := hM.pick [1, 3, 2, 0, 4, 5, 6, 7] rfl
                    exact ⟨hM0.keeps (by repeat' first | exact celdL_nil | refine celdL_cons ?_ ?_ | exact celd_blk | exact celd_own | exact celd_glb | exact celd_blkR | exact celd_ownW | exact celd_cells | exact celd_rd (by assumption)) hM, trivial, (by rw [nums_snoc]; exact goes_snoc hpre hb73), _, hM0.back hM⟩
                  trivial
              trivial
            trivial
          trivial
        refine o_or rfl ?_ ?_
        · refine s_alloc [32] hE hM zero34 rfl rfl ?_; clear hE a; intro a b11 w13 hE hM'
          clear hM; have hM := hM'; clear hM'
          refine q_nil (q_nx ?_)
          refine o_re ?_
          refine o_fl rfl ?_
          refine q_nil (q_nx ?_)
          refine o_fl rfl ?_
          refine q_nil (q_nx ?_)
          refine o_or rfl ?_ ?_
          · obtain ⟨cs63, hs63⟩ := own_rd (hM.get 4 rfl)
            refine s_call hE rfl Tryd.call29 (tsector_c b h k v (foldB k (l.set (2 ^ h + q) tg) (nums pre)) cs63 x.1 _ (blkR_blk (hM.get 8 rfl)) hs63 hl_k (OkTs.foldB (OkTs.set ho_l hl_tg)) hh (by simp only [foldB_length, List.length_set, hn]) (by omega)) rfl ?_
            rintro e w14 ⟨rfl, hN⟩
            refine ⟨_, rfl, hN.sta0 _, ?_⟩; clear hE a; intro a hE
            replace hM : Mem _ _ w14 [_, _, _, _, _, _, _, _, _] := hM.call0 hN trivial; clear hN
            refine q_nil (q_nx ?_)
            refine o_cut (fun _ => True) ?_
            refine o_re ?_
            refine o_fl rfl ?_
            refine q_nil (q_nx ?_)
            refine o_fl rfl ?_
            refine q_nil (q_nx ?_)
            refine o_or rfl ?_ ?_
            · refine s_call hE rfl Tryd.call17 (tnode_c k ((x.1 : Nat) : Int) (secA (foldB k (l.set (2 ^ h + q) tg) (nums pre)) x.1) _ (hM.get 7 rfl) hl_k (secA_len (OkTs.foldB (OkTs.set ho_l hl_tg)) x.1)) rfl ?_
              rintro e w15 ⟨rfl, hN⟩
              refine ⟨_, rfl, hN.sta0 _, ?_⟩; clear hE a; intro a hE
              replace hM : Mem _ _ w15 [_, _, _, _, _, _, _, _, _] := hM.call0 hN trivial; clear hN
              replace hE := hE.cast 64 rfl (show _ = Value.agg (bv (nd k x.1 (secA (foldB k (l.set (2 ^ h + q) tg) (nums pre)) x.1))).toArray from rfl)
              refine q_nil (q_nx ?_)
              refine o_re ?_
              refine o_fl rfl ?_
              refine q_nil (q_nx ?_)
              refine o_fl rfl ?_
              refine q_nil (q_nx ?_)
              refine o_weak (fun b => b = b11) (fun _ _ => trivial) ?_
              refine o_or rfl ?_ ?_
              · refine s_storeSeg 0 hE rfl rfl hM rfl sz34 ((bv_length _).trans (nd_len ..)) (bv_one _) rfl ((bv_length _).trans (by first | (simp; done) | (simp [*]; done) | (simp; omega))) rfl (by intro X h; cases h; rfl) ?_; intro w16 hM'; clear hM; have hM := hM'; clear hM'
                simp only [List.set_cons_zero, List.set_cons_succ] at hM
                refine q_nil (q_nx ?_)
                refine o_cut (fun _ => True) ?_
                refine o_re ?_
                refine o_weak (fun _ => False) (fun _ _ => trivial) ?_
                refine o_leaf rfl rfl ?_
                refine q_nil (q_ph (q_nil ?_))
                replace hE : Env a 82 [(1, _), (3, _), (5, _), (8, _), (9, _), (10, _), (11, _), (14, _), (25, _), (41, _)] := hE.sel [1, 3, 5, 8, 9, 10, 11, 14, 25, 41] rfl
                refine hK14 _ _ ?_
                refine wpIn_seq_k (fun K15 hK15 => ?_)
                refine wpIn_seq_k (fun K16 hK16 => ?_)
                refine rp_treeM hM (by kernel_rfl) (fun _ => True) (fun _ => True) (.re [(5, true), (0, true), (1, true), (2, true), (3, true), (4, true), (6, true), (7, true), (8, true)] (.weak (.leaf 9))) [(5, true), (0, true), (1, true), (2, true), (3, true), (4, true), (6, true), (7, true), (8, true)] [] (by kernel_rfl) rfl (fun ⟨_, _, h⟩ => h) ?_
                intro w17 hM' hww17; clear hM; have hM := hM'; clear hM'
                refine o_re ?_
                refine o_weak (fun _ => False) (fun _ _ => trivial) ?_
                refine o_leaf rfl rfl ?_
                refine s_move hE rfl rfl ?_; clear hE a; intro a hE
                refine s_loadN hE rfl (hM.get 0 rfl) row34 rfl (by intro X h; cases h; simp) rfl ?_; clear hE a; intro a hE
                refine s_load1 hE rfl (hM.get 6 rfl) rfl one29 (by intro X h; cases h; simp) rfl ?_; clear hE a; intro a hE
                refine s_nilCheck hE rfl rfl ?_; clear hE a; intro a hE
                refine s_fieldAddr hE rfl fo73_2 rfl ?_; clear hE a; intro a hE
                refine s_load1 hE rfl (blkR_blk (hM.get 8 rfl)) rfl one24 (by intro X h; cases h; simp) rfl ?_; clear hE a; intro a hE
                obtain ⟨cx71, hx71⟩ := own_rd (hM.get 4 rfl)
                refine s_indexRd (j := x.1) hE rfl hx71 rfl slt24 (by first | rfl | omega) (by simp only [foldB_length, List.length_set, hn]; omega) rfl ?_; clear hE a; intro a p71 hE hc71 hp71
                have hlj71 : x.1 < (foldB k (l.set (2 ^ h + q) tg) (nums pre)).length := (by simp only [foldB_length, List.length_set, hn]; omega)
                have hok71 := (OkTs.foldB (OkTs.set ho_l hl_tg)) _ (getD_mem (d := zTg) hlj71)
                rw [flat_elem (d := zTg) (fun x hx => ((bv_length _).trans ((OkTs.foldB (OkTs.set ho_l hl_tg)) x hx))) hlj71] at hc71
                refine s_loadAtN hE rfl hc71 (by rw [((bv_length _).trans hok71)]; exact row34) (by intro X h; cases h; simp) rfl ?_; clear hE a; intro a hE
                replace hE := hE.cast 72 rfl (show _ = Value.agg (bv ((foldB k (l.set (2 ^ h + q) tg) (nums pre)).getD x.1 zTg)).toArray from rfl)
                refine s_bin hE rfl rfl (eqa34 (nd_len ..) hok71).1 rfl ?_; clear hE a; intro a hE
                refine q_nil (q_ph (q_nil ?_))
                replace hE : Env a 82 [(1, _), (3, _), (5, _), (8, _), (9, _), (10, _), (11, _), (14, _), (25, _), (41, _), (73, _)] := hE.sel [1, 3, 5, 8, 9, 10, 11, 14, 25, 41, 73] rfl
                refine hK16 _ _ ?_
                refine hE.split 73 rfl (fun hb73 hE' => ?_) (fun hb73 hE' => ?_)
                · replace hE := hE'; clear hE'
                  replace hb73 := of_decide_eq_true hb73
                  refine wpIn_cond_true (hE.eval rfl) ?_
                  refine wpIn_exit ?_
                  refine q_then_e ?_
                  refine q_block_o rfl ?_
                  replace hM : Mem _ _ w17 [_, _, _, _, _, _, _, _, _] := hM.pick [2, 0, 1, 3, 4, 5, 6, 7, 8] rfl
                  replace hM := Mem.ownRowsEq (f := intC) (ls := (nums pre) ++ ([x.1] : List Nat)) (ms := (nums (pre ++ [x]))) hM ((nums_snoc ..).symm)
                  replace hM : Mem _ _ w17 [_, _, _, _, _, _, _, _, _] := hM.pick [4, 0, 1, 2, 3, 5, 6, 7, 8] rfl
                  replace hM : Mem _ _ w17 [_, _, _, _, _, _, _, _] := hM.pick [0, 1, 3, 4, 5, 6, 7, 8] rfl
                  replace hM : Mem _ _ w17 [_, _, _, _, _, _, _, _] := hM.pick [1, 3, 2, 0, 4, 5, 6, 7] rfl
                  exact ⟨hM0.keeps (by repeat' first | exact celdL_nil | refine celdL_cons ?_ ?_ | exact celd_blk | exact celd_own | exact celd_glb | exact celd_blkR | exact celd_ownW | exact celd_cells | exact celd_rd (by assumption)) hM, rfl, _, _, (by rw [nums_snoc]; exact fin_of (OkTs.set ho_l hl_tg) hpre hb73), hM0.back hM⟩
                · replace hE := hE'; clear hE'
                  replace hb73 := of_decide_eq_false hb73
                  refine wpIn_cond_false (hE.eval rfl) ?_
                  refine wpIn_skip ?_
                  refine hK15 _ _ ?_
                  refine rp_treeM hM (by kernel_rfl) (fun _ => True) (fun _ => True) (.re [(4, true), (0, true), (1, true), (2, true), (3, true), (5, true), (6, true), (7, false)] (.fl 1 (.weak (.fl 6 (.cut (.or 7 (.cut (.re [] (.weak (.leaf 0)))) (.stop))))))) [(4, true), (0, true), (1, true), (2, true), (3, true), (5, true), (6, true), (7, false)] [(0, [(1, 0), (2, 1), (3, 2), (6, 0), (7, 0)]), (1, [(2, 1), (3, 2), (6, 1), (7, 1)]), (2, [(3, 2), (6, 2), (7, 2)]), (3, [(6, 3), (7, 3)]), (5, [(6, 5), (7, 5)]), (6, [(7, 6)]), (7, [])] (by kernel_rfl) rfl (fun ⟨_, _, h⟩ => h) ?_
                  intro w18 hM' hww18; clear hM; have hM := hM'; clear hM'
                  refine o_re ?_
                  refine o_fl rfl ?_
                  refine s_move hE rfl rfl ?_; clear hE a; intro a hE
                  refine q_nil (q_nx ?_)
                  refine o_weak (fun _ => False) (fun _ _ => trivial) ?_
                  refine o_fl rfl ?_
                  refine s_load1 hE rfl (hM.get 6 rfl) rfl one29 (by intro X h; cases h; simp) rfl ?_; clear hE a; intro a hE
                  refine s_nilCheck hE rfl rfl ?_; clear hE a; intro a hE
                  refine s_fieldAddr hE rfl fo73_2 rfl ?_; clear hE a; intro a hE
                  refine s_load1 hE rfl (blkR_blk (hM.get 8 rfl)) rfl one24 (by intro X h; cases h; simp) rfl ?_; clear hE a; intro a hE
                  refine s_loadN hE rfl (hM.get 0 rfl) row34 rfl (by intro X h; cases h; simp) rfl ?_; clear hE a; intro a hE
                  have hlj80 : x.1 < (foldB k (l.set (2 ^ h + q) tg) (nums pre)).length := (by simp only [foldB_length, List.length_set, hn]; omega)
                  refine s_indexOwn (j := x.1) hE rfl (hM.get 4 rfl) rfl slt24 (by first | rfl | omega) hlj80 rfl ?_; clear hE a; intro a hE hc80
                  refine q_nil (q_nx ?_)
                  refine o_cut (fun b => b ∈ valBlocks v) ?_
                  refine o_or rfl ?_ ?_
                  · replace hM : Mem _ _ w18 [_, _, _, _, _, _, _, _, _] := hM.pick [4, 0, 1, 2, 3, 5, 6, 7, 8] rfl
                    have hls80 : (nd k x.1 (secA (foldB k (l.set (2 ^ h + q) tg) (nums pre)) x.1)).length = 32 := (nd_len ..)
                    refine s_storeOwn (vs := bv (nd k x.1 (secA (foldB k (l.set (2 ^ h + q) tg) (nums pre)) x.1))) hE rfl rfl hM rfl sz34 ((bv_length _).trans hls80) (bv_one _) (by rw [bv_length, hls80]; have := hlj80; omega) (by have := hlj80; omega) (by intro X h; cases h; exact fun _ hb => hb) ?_; intro w19 hM'; clear hM; have hM := hM'; clear hM'
                    replace hM := Mem.rowPut (ls := foldB k (l.set (2 ^ h + q) tg) (nums pre)) (x := nd k x.1 (secA (foldB k (l.set (2 ^ h + q) tg) (nums pre)) x.1)) (j := x.1) hM rfl (OkTs.foldB (OkTs.set ho_l hl_tg)) hls80 hlj80
                    refine q_nil (q_nx ?_)
                    refine o_cut (fun _ => True) ?_
                    refine o_re ?_
                    refine o_weak (fun _ => False) (fun _ _ => trivial) ?_
                    refine o_leaf rfl rfl ?_
                    refine q_nil (q_ph (q_nil ?_))
                    replace hE : Env a 82 [(1, _), (3, _), (5, _), (8, _), (9, _), (10, _), (11, _), (14, _), (25, _), (41, _), (73, _)] := hE.sel [1, 3, 5, 8, 9, 10, 11, 14, 25, 41, 73] rfl
                    refine q_block_n ?_
                    replace hM : Mem _ _ w19 [_, _, _, _, _, _, _, _, _] := hM.pick [3, 0, 1, 2, 4, 5, 6, 7, 8] rfl
                    replace hM := Mem.ownRowsEq (f := intC) (ls := (nums pre) ++ ([x.1] : List Nat)) (ms := (nums (pre ++ [x]))) hM ((nums_snoc ..).symm)
                    replace hM : Mem _ _ w19 [_, _, _, _, _, _, _, _, _] := hM.pick [1, 0, 2, 3, 4, 5, 6, 7, 8] rfl
                    replace hM := Mem.ownRowsEq (f := bv) (ls := (foldB k (l.set (2 ^ h + q) tg) (nums pre)).set x.1 (nd k x.1 (secA (foldB k (l.set (2 ^ h + q) tg) (nums pre)) x.1))) (ms := foldB k (l.set (2 ^ h + q) tg) (nums (pre ++ [x]))) hM (by rw [nums_snoc, foldB_snoc, stepB])
                    replace hM : Mem _ _ w19 [_, _, _, _, _, _, _, _] := hM.pick [0, 1, 3, 4, 5, 6, 7, 8] rfl
                    replace hM : Mem _ _ w19 [_, _, _, _, _, _, _, _] := hM.pick [1, 3, 2, 0, 4, 5, 6, 7] rfl
                    exact ⟨hM0.keeps (by repeat' first | exact celdL_nil | refine celdL_cons ?_ ?_ | exact celd_blk | exact celd_own | exact celd_glb | exact celd_blkR | exact celd_ownW | exact celd_cells | exact celd_rd (by assumption)) hM, trivial, (by rw [nums_snoc]; exact goes_snoc hpre hb73), _, hM0.back hM⟩
                  trivial
              trivial
            trivial
          trivial
        trivial
      · rintro D xs W hle hS ⟨hpre, vc, hM⟩ hD
        have hfin := set_done (k := k) (t := tg) hb41 hpre hS
        refine q_block_n ?_
        refine hK11 _ _ ?_
        refine wp_seq_k (fun K13 hK13 => ?_)
        refine mp_plain [true, true, true] rfl rfl ?_
        refine s_load1 hE rfl (hM.get 2 rfl) rfl one35 (by intro X h; cases h) rfl ?_; clear hE a; intro a hE
        refine s_assign hE rfl rfl ?_; clear hE a; intro a hE
        refine s_assign hE rfl rfl ?_; clear hE a; intro a hE
        refine q_nil ?_
        replace hE : Env a 82 [(1, _), (3, _), (5, _), (6, _), (7, _), (8, _), (9, _), (14, _), (25, _), (41, _), (50, _)] := hE.sel [1, 3, 5, 6, 7, 8, 9, 14, 25, 41, 50] rfl
        refine hK13 _ _ ?_
        refine wp_ret ?_
        have hM2 := hM.taken (o' := .deferred none) (by repeat' first | exact celdL_nil | refine celdL_cons ?_ ?_ | exact celd_blk | exact celd_own | exact celd_glb | exact celd_blkR | exact celd_ownW | exact celd_cells | exact celd_rd (by assumption)) hD rfl (Nat.le_trans hsz hle); clear hM; have hM := hM2; clear hM2
        refine f_ret2M hE rfl rfl rfl hD ?_
        replace hM := Mem.ownRowsEq (f := intC) (ls := (nums xs)) (ms := (setT k l (2 ^ h + q) tg).1) hM (by rw [hfin])
        replace hM : Mem _ _ _ [_, _, _, _, _, _, _, _] := hM.pick [3, 0, 1, 2, 4, 5, 6, 7] rfl
        replace hM := Mem.ownRowsEq (f := bv) (ls := foldB k (l.set (2 ^ h + q) tg) (nums xs)) (ms := (setT k l (2 ^ h + q) tg).2) hM (by rw [hfin])
        exact ⟨_, rfl, hM.pick [1, 0] rfl⟩
      · rintro D c xs W hle hS ⟨hc, T, vc, hpre, hM⟩ hD
        subst hc
        have hfin := set_stop (k := k) (t := tg) hb41 hpre hS
        refine wp_exit ?_
        refine q_block_x ?_
        refine hK11 _ _ ?_
        refine wp_seq_k (fun K13 hK13 => ?_)
        refine mp_plain [true, true, true] rfl rfl ?_
        refine s_load1 hE rfl (hM.get 2 rfl) rfl one35 (by intro X h; cases h) rfl ?_; clear hE a; intro a hE
        refine s_assign hE rfl rfl ?_; clear hE a; intro a hE
        refine s_assign hE rfl rfl ?_; clear hE a; intro a hE
        refine q_nil ?_
        replace hE : Env a 82 [(1, _), (3, _), (5, _), (6, _), (7, _), (8, _), (9, _), (14, _), (25, _), (41, _), (50, _)] := hE.sel [1, 3, 5, 6, 7, 8, 9, 14, 25, 41, 50] rfl
        refine hK13 _ _ ?_
        refine wp_ret ?_
        have hM2 := hM.taken (o' := .deferred none) (by repeat' first | exact celdL_nil | refine celdL_cons ?_ ?_ | exact celd_blk | exact celd_own | exact celd_glb | exact celd_blkR | exact celd_ownW | exact celd_cells | exact celd_rd (by assumption)) hD rfl (Nat.le_trans hsz hle); clear hM; have hM := hM2; clear hM2
        refine f_ret2M hE rfl rfl rfl hD ?_
        replace hM := Mem.ownRowsEq (f := intC) (ls := (nums xs)) (ms := (setT k l (2 ^ h + q) tg).1) hM (by rw [hfin])
        replace hM : Mem _ _ _ [_, _, _, _, _, _, _, _] := hM.pick [3, 0, 1, 2, 4, 5, 6, 7] rfl
        replace hM := Mem.ownRowsEq (f := bv) (ls := T) (ms := (setT k l (2 ^ h + q) tg).2) hM (by rw [hfin])
        exact ⟨_, rfl, hM.pick [1, 0] rfl⟩
    trivial
theorem ttag_no (b h : Nat) (k : List UInt8) (v : Value) (l : List (List UInt8)) (c : Nat) (z : Int) (w : World) (hB : (blk b [bv k, [.int .i64 ((h : Nat) : Int)], [v]] [32, 1, 1] 73).holds w) (hS : (rd v 32 l.length c (l.flatMap bv)).holds w) (hl_k : k.length = 32) (ho_l : ∀ x, x ∈ l → x.length = 32) (hh : 1 ≤ h ∧ h ≤ 12) (hn : l.length = 2 * 2 ^ h) (hz : ¬ inN 1 (2 * 2 ^ h) z) : Calls Tryd.prog 13 #[.pointer (some ⟨b, 0, none⟩), .int .i64 z] w fun e w' => e = .returned (.tuple #[.agg (bv zTg).toArray, .int .i64 2]) ∧ Mem w [] w' [] := by
  have hpw := two_pow_le hh
  have hpw1 := hpw.1
  have hpw2 := hpw.2
  have hM : Mem w [] w [blkR b [bv k, [.int .i64 ((h : Nat) : Int)], [v]] [32, 1, 1] 73, rd v 32 l.length c (l.flatMap bv)] := Mem.startR w (fun g hg => by
    simp only [List.mem_cons, List.not_mem_nil, or_false] at hg
    rcases hg with rfl | rfl
    · exact ⟨hB, rfl⟩
    · exact ⟨hS, rfl⟩)
  refine f_enter 31 Tryd.func13 rfl rfl rfl ?_
  intro a hE
  replace hE : Env a 31 [(0, _), (1, _)] := hE
  refine wp_seq_k (fun K1 hK1 => ?_)
  refine wp_plain [false, true] rfl rfl ?_
  refine s_alloc [32] hE hM zero34 rfl rfl ?_; clear hE a; intro a b4 w1 hE hM'
  clear hM; have hM := hM'; clear hM'
  refine s_assign hE rfl rfl ?_; clear hE a; intro a hE
  refine q_nil ?_
  refine hK1 _ _ ?_
  refine wp_seq_k (fun K2 hK2 => ?_)
  refine wp_block ?_
  refine wp_seq_k (fun K3 hK3 => ?_)
  refine wp_plain [true, false, true, true] rfl rfl ?_
  refine s_move hE rfl rfl ?_; clear hE a; intro a hE
  refine s_call hE rfl Tryd.call30 (tis_c b h k v l c _ (blkR_blk (hM.get 1 rfl)) hl_k ho_l hh hn) rfl ?_
  rintro e w2 ⟨rfl, hN⟩
  refine ⟨_, rfl, trivial, ?_⟩; clear hE a; intro a hE
  replace hM : Mem _ _ w2 [_, _, _] := hM.call0 hN trivial; clear hN
  refine s_not hE rfl rfl ?_; clear hE a; intro a hE
  replace hE := hE.cast 9 rfl (show _ = Value.bool false from rfl)
  refine s_assign hE rfl rfl ?_; clear hE a; intro a hE
  refine q_nil ?_
  replace hE : Env a 31 [(0, _), (1, _), (4, _), (5, _), (6, _)] := hE.sel [0, 1, 4, 5, 6] rfl
  refine hK3 _ _ ?_
  refine wp_cond_false (hE.eval rfl) ?_
  refine wp_seq_k (fun K4 hK4 => ?_)
  refine wp_plain [true, true, true, true, true, true, true, true, true, true, true, true] rfl rfl ?_
  refine s_move hE rfl rfl ?_; clear hE a; intro a hE
  refine s_bin hE rfl rfl bin_lss rfl ?_; clear hE a; intro a hE
  refine s_move hE rfl rfl ?_; clear hE a; intro a hE
  refine hE.split 14 rfl (fun hb14 hE' => ?_) (fun hb14 hE' => ?_)
  · replace hE := hE'; clear hE'
    replace hb14 := of_decide_eq_true hb14
    refine g_no (b := true) hE rfl rfl rfl ?_; clear hE a; intro a hE
    refine g_no (b := true) hE rfl rfl rfl ?_; clear hE a; intro a hE
    refine g_no (b := true) hE rfl rfl rfl ?_; clear hE a; intro a hE
    refine g_no (b := true) hE rfl rfl rfl ?_; clear hE a; intro a hE
    refine g_no (b := true) hE rfl rfl rfl ?_; clear hE a; intro a hE
    refine g_no (b := true) hE rfl rfl rfl ?_; clear hE a; intro a hE
    refine g_no (b := true) hE rfl rfl rfl ?_; clear hE a; intro a hE
    refine s_pickt hE rfl rfl rfl ?_; clear hE a; intro a hE
    refine s_assign hE rfl rfl ?_; clear hE a; intro a hE
    refine q_nil ?_
    replace hE : Env a 31 [(0, _), (1, _), (4, _), (5, _), (6, _), (11, _)] := hE.sel [0, 1, 4, 5, 6, 11] rfl
    refine hK4 _ _ ?_
    refine wp_cond_true (hE.eval rfl) ?_
    refine wp_seq_k (fun K5 hK5 => ?_)
    refine wp_plain [true, false, true] rfl rfl ?_
    refine s_build (r := .agg (bv (List.replicate 32 (0 : UInt8))).toArray) _ hE rfl (fun w => by kernel_rfl) rfl ?_; clear hE a; intro a hE
    refine s_storeSeg 0 hE rfl rfl hM rfl sz34 ((bv_length _).trans (by first | (simp; done) | (simp [*]; done) | (simp; omega))) (bv_one _) rfl ((bv_length _).trans (by first | (simp; done) | (simp [*]; done) | (simp; omega))) rfl (by intro X h; cases h) ?_; intro w3 hM'; clear hM; have hM := hM'; clear hM'
    simp only [List.set_cons_zero, List.set_cons_succ] at hM
    refine s_assign hE rfl rfl ?_; clear hE a; intro a hE
    refine q_nil ?_
    replace hE : Env a 31 [(0, _), (1, _), (4, _), (5, _), (6, _), (11, _)] := hE.sel [0, 1, 4, 5, 6, 11] rfl
    refine hK5 _ _ ?_
    refine wp_ret ?_
    refine q_block_r ?_
    refine q_then_r ?_
    refine f_ret2 hE rfl (res_cellN rfl (hM.get 0 rfl) row34 rfl) rfl ?_
    exact ⟨(by first | rfl | (simp; done)), hM.pick [] rfl⟩
  · replace hE := hE'; clear hE'
    replace hb14 := of_decide_eq_false hb14
    refine g_yes hE rfl rfl ?_
    refine s_move hE rfl rfl ?_; clear hE a; intro a hE
    refine g_yes hE rfl rfl ?_
    refine s_move hE rfl rfl ?_; clear hE a; intro a hE
    refine g_yes hE rfl rfl ?_
    refine s_nilCheck hE rfl rfl ?_; clear hE a; intro a hE
    refine g_yes hE rfl rfl ?_
    refine s_fieldAddr hE rfl fo73_2 rfl ?_; clear hE a; intro a hE
    refine g_yes hE rfl rfl ?_
    refine s_load1 hE rfl (blkR_blk (hM.get 1 rfl)) rfl one24 (by intro X h; cases h) rfl ?_; clear hE a; intro a hE
    refine g_yes hE rfl rfl ?_
    refine s_len hE rfl Tryd.underlying24 (rd_slice (hM.get 2 rfl)) rfl ?_; clear hE a; intro a hE
    refine g_yes hE rfl rfl ?_
    refine s_bin hE rfl rfl bin_geq rfl ?_; clear hE a; intro a hE
    refine s_pickf hE rfl rfl rfl ?_; clear hE a; intro a hE
    refine s_assign hE rfl rfl ?_; clear hE a; intro a hE
    refine q_nil ?_
    replace hE : Env a 31 [(0, _), (1, _), (4, _), (5, _), (6, _), (11, _)] := hE.sel [0, 1, 4, 5, 6, 11] rfl
    refine hK4 _ _ ?_
    replace hE := hE.cast 11 rfl (show _ = Value.bool true from (congrArg Value.bool (decide_eq_true (by omega))))
    refine wp_cond_true (hE.eval rfl) ?_
    refine wp_seq_k (fun K5 hK5 => ?_)
    refine wp_plain [true, false, true] rfl rfl ?_
    refine s_build (r := .agg (bv (List.replicate 32 (0 : UInt8))).toArray) _ hE rfl (fun w => by kernel_rfl) rfl ?_; clear hE a; intro a hE
    refine s_storeSeg 0 hE rfl rfl hM rfl sz34 ((bv_length _).trans (by first | (simp; done) | (simp [*]; done) | (simp; omega))) (bv_one _) rfl ((bv_length _).trans (by first | (simp; done) | (simp [*]; done) | (simp; omega))) rfl (by intro X h; cases h) ?_; intro w3 hM'; clear hM; have hM := hM'; clear hM'
    simp only [List.set_cons_zero, List.set_cons_succ] at hM
    refine s_assign hE rfl rfl ?_; clear hE a; intro a hE
    refine q_nil ?_
    replace hE : Env a 31 [(0, _), (1, _), (4, _), (5, _), (6, _), (11, _)] := hE.sel [0, 1, 4, 5, 6, 11] rfl
    refine hK5 _ _ ?_
    refine wp_ret ?_
    refine q_block_r ?_
    refine q_then_r ?_
    refine f_ret2 hE rfl (res_cellN rfl (hM.get 0 rfl) row34 rfl) rfl ?_
    exact ⟨(by first | rfl | (simp; done)), hM.pick [] rfl⟩
theorem tnode_no (b h : Nat) (k : List UInt8) (v : Value) (l : List (List UInt8)) (c : Nat) (z : Int) (w : World) (hB : (blk b [bv k, [.int .i64 ((h : Nat) : Int)], [v]] [32, 1, 1] 73).holds w) (hS : (rd v 32 l.length c (l.flatMap bv)).holds w) (hl_k : k.length = 32) (ho_l : ∀ x, x ∈ l → x.length = 32) (hh : 1 ≤ h ∧ h ≤ 12) (hn : l.length = 2 * 2 ^ h) (hz : ¬ inN 1 (2 ^ h) z) : Calls Tryd.prog 24 #[.pointer (some ⟨b, 0, none⟩), .int .i64 z] w fun e w' => e = .returned (.tuple #[.agg (bv zSc).toArray, .int .i64 2]) ∧ Mem w [] w' [] := by
  have hpw := two_pow_le hh
  have hpw1 := hpw.1
  have hpw2 := hpw.2
  have hM : Mem w [] w [blkR b [bv k, [.int .i64 ((h : Nat) : Int)], [v]] [32, 1, 1] 73, rd v 32 l.length c (l.flatMap bv)] := Mem.startR w (fun g hg => by
    simp only [List.mem_cons, List.not_mem_nil, or_false] at hg
    rcases hg with rfl | rfl
    · exact ⟨hB, rfl⟩
    · exact ⟨hS, rfl⟩)
  refine f_enter 27 Tryd.func24 rfl rfl rfl ?_
  intro a hE
  replace hE : Env a 27 [(0, _), (1, _)] := hE
  refine wp_seq_k (fun K1 hK1 => ?_)
  refine wp_plain [false, true] rfl rfl ?_
  refine s_alloc [64] hE hM zero52 rfl rfl ?_; clear hE a; intro a b4 w1 hE hM'
  clear hM; have hM := hM'; clear hM'
  refine s_assign hE rfl rfl ?_; clear hE a; intro a hE
  refine q_nil ?_
  refine hK1 _ _ ?_
  refine wp_seq_k (fun K2 hK2 => ?_)
  refine wp_block ?_
  refine wp_seq_k (fun K3 hK3 => ?_)
  refine wp_plain [true, false, true, true] rfl rfl ?_
  refine s_move hE rfl rfl ?_; clear hE a; intro a hE
  refine s_call hE rfl Tryd.call30 (tis_c b h k v l c _ (blkR_blk (hM.get 1 rfl)) hl_k ho_l hh hn) rfl ?_
  rintro e w2 ⟨rfl, hN⟩
  refine ⟨_, rfl, trivial, ?_⟩; clear hE a; intro a hE
  replace hM : Mem _ _ w2 [_, _, _] := hM.call0 hN trivial; clear hN
  refine s_not hE rfl rfl ?_; clear hE a; intro a hE
  replace hE := hE.cast 9 rfl (show _ = Value.bool false from rfl)
  refine s_assign hE rfl rfl ?_; clear hE a; intro a hE
  refine q_nil ?_
  replace hE : Env a 27 [(0, _), (1, _), (4, _), (5, _), (6, _)] := hE.sel [0, 1, 4, 5, 6] rfl
  refine hK3 _ _ ?_
  refine wp_cond_false (hE.eval rfl) ?_
  refine wp_seq_k (fun K4 hK4 => ?_)
  refine wp_plain [true, true, true, true, true, true, true, true, true, true, true, true] rfl rfl ?_
  refine s_move hE rfl rfl ?_; clear hE a; intro a hE
  refine s_bin hE rfl rfl bin_lss rfl ?_; clear hE a; intro a hE
  refine s_move hE rfl rfl ?_; clear hE a; intro a hE
  refine hE.split 14 rfl (fun hb14 hE' => ?_) (fun hb14 hE' => ?_)
  · replace hE := hE'; clear hE'
    replace hb14 := of_decide_eq_true hb14
    refine g_no (b := true) hE rfl rfl rfl ?_; clear hE a; intro a hE
    refine g_no (b := true) hE rfl rfl rfl ?_; clear hE a; intro a hE
    refine g_no (b := true) hE rfl rfl rfl ?_; clear hE a; intro a hE
    refine g_no (b := true) hE rfl rfl rfl ?_; clear hE a; intro a hE
    refine g_no (b := true) hE rfl rfl rfl ?_; clear hE a; intro a hE
    refine g_no (b := true) hE rfl rfl rfl ?_; clear hE a; intro a hE
    refine g_no (b := true) hE rfl rfl rfl ?_; clear hE a; intro a hE
    refine s_pickt hE rfl rfl rfl ?_; clear hE a; intro a hE
    refine s_assign hE rfl rfl ?_; clear hE a; intro a hE
    refine q_nil ?_
    replace hE : Env a 27 [(0, _), (1, _), (4, _), (5, _), (6, _), (11, _)] := hE.sel [0, 1, 4, 5, 6, 11] rfl
    refine hK4 _ _ ?_
    refine wp_cond_true (hE.eval rfl) ?_
    refine wp_seq_k (fun K5 hK5 => ?_)
    refine wp_plain [true, false, true] rfl rfl ?_
    refine s_build (r := .agg (bv (List.replicate 64 (0 : UInt8))).toArray) _ hE rfl (fun w => by kernel_rfl) rfl ?_; clear hE a; intro a hE
    refine s_storeSeg 0 hE rfl rfl hM rfl sz52 ((bv_length _).trans (by first | (simp; done) | (simp [*]; done) | (simp; omega))) (bv_one _) rfl ((bv_length _).trans (by first | (simp; done) | (simp [*]; done) | (simp; omega))) rfl (by intro X h; cases h) ?_; intro w3 hM'; clear hM; have hM := hM'; clear hM'
    simp only [List.set_cons_zero, List.set_cons_succ] at hM
    refine s_assign hE rfl rfl ?_; clear hE a; intro a hE
    refine q_nil ?_
    replace hE : Env a 27 [(0, _), (1, _), (4, _), (5, _), (6, _), (11, _)] := hE.sel [0, 1, 4, 5, 6, 11] rfl
    refine hK5 _ _ ?_
    refine wp_ret ?_
    refine q_block_r ?_
    refine q_then_r ?_
    refine f_ret2 hE rfl (res_cellN rfl (hM.get 0 rfl) row52 rfl) rfl ?_
    exact ⟨(by first | rfl | (simp; done)), hM.pick [] rfl⟩
  · replace hE := hE'; clear hE'
    replace hb14 := of_decide_eq_false hb14
    refine g_yes hE rfl rfl ?_
    refine s_move hE rfl rfl ?_; clear hE a; intro a hE
    refine g_yes hE rfl rfl ?_
    refine s_move hE rfl rfl ?_; clear hE a; intro a hE
    refine g_yes hE rfl rfl ?_
    refine s_nilCheck hE rfl rfl ?_; clear hE a; intro a hE
    refine g_yes hE rfl rfl ?_
    refine s_fieldAddr hE rfl fo73_1 rfl ?_; clear hE a; intro a hE
    refine g_yes hE rfl rfl ?_
    refine s_load1 hE rfl (blkR_blk (hM.get 1 rfl)) rfl one3 (by intro X h; cases h) rfl ?_; clear hE a; intro a hE
    refine g_yes hE rfl rfl ?_
    refine s_bin hE rfl rfl (bin_one_shl (by omega)) rfl ?_; clear hE a; intro a hE
    refine g_yes hE rfl rfl ?_
    refine s_bin hE rfl rfl bin_geq rfl ?_; clear hE a; intro a hE
    refine s_pickf hE rfl rfl rfl ?_; clear hE a; intro a hE
    refine s_assign hE rfl rfl ?_; clear hE a; intro a hE
    refine q_nil ?_
    replace hE : Env a 27 [(0, _), (1, _), (4, _), (5, _), (6, _), (11, _)] := hE.sel [0, 1, 4, 5, 6, 11] rfl
    refine hK4 _ _ ?_
    replace hE := hE.cast 11 rfl (show _ = Value.bool true from (congrArg Value.bool (decide_eq_true (by omega))))
    refine wp_cond_true (hE.eval rfl) ?_
    refine wp_seq_k (fun K5 hK5 => ?_)
    refine wp_plain [true, false, true] rfl rfl ?_
    refine s_build (r := .agg (bv (List.replicate 64 (0 : UInt8))).toArray) _ hE rfl (fun w => by kernel_rfl) rfl ?_; clear hE a; intro a hE
    refine s_storeSeg 0 hE rfl rfl hM rfl sz52 ((bv_length _).trans (by first | (simp; done) | (simp [*]; done) | (simp; omega))) (bv_one _) rfl ((bv_length _).trans (by first | (simp; done) | (simp [*]; done) | (simp; omega))) rfl (by intro X h; cases h) ?_; intro w3 hM'; clear hM; have hM := hM'; clear hM'
    simp only [List.set_cons_zero, List.set_cons_succ] at hM
    refine s_assign hE rfl rfl ?_; clear hE a; intro a hE
    refine q_nil ?_
    replace hE : Env a 27 [(0, _), (1, _), (4, _), (5, _), (6, _), (11, _)] := hE.sel [0, 1, 4, 5, 6, 11] rfl
    refine hK5 _ _ ?_
    refine wp_ret ?_
    refine q_block_r ?_
    refine q_then_r ?_
    refine f_ret2 hE rfl (res_cellN rfl (hM.get 0 rfl) row52 rfl) rfl ?_
    exact ⟨(by first | rfl | (simp; done)), hM.pick [] rfl⟩
theorem ttagI_c (b h : Nat) (k : List UInt8) (v : Value) (l : List (List UInt8)) (c : Nat) (z : Int) (w : World) (hB : (blk b [bv k, [.int .i64 (h : Int)], [v]] [32, 1, 1] 73).holds w) (hS : (rd v 32 l.length c (l.flatMap bv)).holds w) (hl_k : k.length = 32) (ho_l : ∀ x, x ∈ l → x.length = 32) (hh : 1 ≤ h ∧ h ≤ 12) (hn : l.length = 2 * 2 ^ h) : Calls Tryd.prog 13 #[.pointer (some ⟨b, 0, none⟩), .int .i64 z] w fun e w' => e = .returned (.tuple #[.agg (bv (tagZ l (2 ^ h) z)).toArray, .int .i64 ((eZ 1 (2 * 2 ^ h) z : Nat) : Int)]) ∧ Mem w [] w' [] := by
  have hpw := two_pow_le hh
  have hpw2 := hpw.2
  by_cases hz : inN 1 (2 * 2 ^ h) z
  · obtain ⟨q, rfl⟩ : ∃ q : Nat, z = (q : Int) := ⟨z.toNat, by omega⟩
    rw [tagZ_in hz, eZ_in hz]
    exact ttag_c b h k v l c q w hB hS hl_k ho_l hh hn (by omega)
  · rw [tagZ_out hz, eZ_out hz]
    exact ttag_no b h k v l c z w hB hS hl_k ho_l hh hn hz
theorem tnodeI_c (b h : Nat) (k : List UInt8) (v : Value) (l : List (List UInt8)) (c : Nat) (z : Int) (w : World) (hB : (blk b [bv k, [.int .i64 (h : Int)], [v]] [32, 1, 1] 73).holds w) (hS : (rd v 32 l.length c (l.flatMap bv)).holds w) (hl_k : k.length = 32) (ho_l : ∀ x, x ∈ l → x.length = 32) (hh : 1 ≤ h ∧ h ≤ 12) (hn : l.length = 2 * 2 ^ h) : Calls Tryd.prog 24 #[.pointer (some ⟨b, 0, none⟩), .int .i64 z] w fun e w' => e = .returned (.tuple #[.agg (bv (nodeZ l (2 ^ h) z)).toArray, .int .i64 ((eZ 1 (2 ^ h) z : Nat) : Int)]) ∧ Mem w [] w' [] := by
  have hpw := two_pow_le hh
  have hpw2 := hpw.2
  by_cases hz : inN 1 (2 ^ h) z
  · obtain ⟨q, rfl⟩ : ∃ q : Nat, z = (q : Int) := ⟨z.toNat, by omega⟩
    rw [nodeZ_in hz, eZ_in hz]
    exact tnode2_c b h k v l c q w hB hS hl_k ho_l hh hn (by omega)
  · rw [nodeZ_out hz, eZ_out hz]
    exact tnode_no b h k v l c z w hB hS hl_k ho_l hh hn hz
theorem tproof_c (b h : Nat) (k : List UInt8) (v : Value) (l : List (List UInt8)) (c : Nat) (q : Nat) (w : World) (hB : (blk b [bv k, [.int .i64 (h : Int)], [v]] [32, 1, 1] 73).holds w) (hS : (rd v 32 l.length c (l.flatMap bv)).holds w) (hl_k : k.length = 32) (ho_l : ∀ x, x ∈ l → x.length = 32) (hh : 1 ≤ h ∧ h ≤ 12) (hn : l.length = 2 * 2 ^ h) (hq : q < 2 ^ h) : Calls Tryd.prog 14 #[.pointer (some ⟨b, 0, none⟩), .int .i64 (q : Int)] w fun e w' => ∃ u, e = .returned (.tuple #[u, .int .i64 0]) ∧ Mem w [] w' [own u 64 (ownP l (2 ^ h + q) h).length ((ownP l (2 ^ h + q) h).flatMap bv)] := by
  have hM : Mem w [] w [blkR b [bv k, [.int .i64 ((h : Nat) : Int)], [v]] [32, 1, 1] 73, rd v 32 l.length c (l.flatMap bv)] := Mem.startR2 (e := blkR b [bv k, [.int .i64 ((h : Nat) : Int)], [v]] [32, 1, 1] 73) hB hS rfl rfl
  have hpw := two_pow_le hh
  have hpw1 := hpw.1
  have hpw2 := hpw.2
  have hcs : l.flatMap bv ≠ [] := fun e => by
    have := flat_lenR ho_l
    rw [e, hn] at this
    simp only [List.length_nil] at this
    omega
  refine f_enterM 38 Tryd.func14 rfl rfl rfl ?_
  intro a hE
  replace hE : Env a 38 [(0, _), (1, _)] := hE
  refine wp_seq_k (fun K1 hK1 => ?_)
  refine wp_plain [false, true, true] rfl rfl ?_
  refine s_box (ss := [[_]]) [1] hE hM rfl rfl rfl rfl ?_; clear hE a; intro a b2 w1 hE hM'
  clear hM; have hM := hM'; clear hM'
  refine s_assign hE rfl rfl ?_; clear hE a; intro a hE
  refine s_assign hE rfl rfl ?_; clear hE a; intro a hE
  refine q_nil ?_
  replace hE : Env a 38 [(1, _), (2, _), (4, _), (5, _)] := hE.sel [1, 2, 4, 5] rfl
  refine hK1 _ _ ?_
  refine wp_seq_k (fun K2 hK2 => ?_)
  refine wp_seq_k (fun K3 hK3 => ?_)
  refine wp_plain [true, false, true] rfl rfl ?_
  refine s_load1 hE rfl (hM.get 0 rfl) rfl one29 (by intro X h; cases h) rfl ?_; clear hE a; intro a hE
  refine s_call hE rfl Tryd.call30 (tis_c b h k v l c _ (blkR_blk (hM.get 1 rfl)) hl_k ho_l hh hn) rfl ?_
  rintro e w2 ⟨rfl, hN⟩
  refine ⟨_, rfl, trivial, ?_⟩; clear hE a; intro a hE
  replace hM : Mem _ _ w2 [_, _, _] := hM.call0 hN trivial; clear hN
  refine s_not hE rfl rfl ?_; clear hE a; intro a hE
  replace hE := hE.cast 10 rfl (show _ = Value.bool false from rfl)
  refine q_nil ?_
  replace hE : Env a 38 [(1, _), (2, _), (4, _), (5, _), (10, _)] := hE.sel [1, 2, 4, 5, 10] rfl
  refine hK3 _ _ ?_
  refine wp_cond_false (hE.eval rfl) ?_
  refine wp_skip ?_
  refine hK2 _ _ ?_
  refine wp_seq_k (fun K4 hK4 => ?_)
  refine wp_seq_k (fun K5 hK5 => ?_)
  refine wp_plain [true, true, true, true, true, true, true, true, true, true, true] rfl rfl ?_
  refine s_move hE rfl rfl ?_; clear hE a; intro a hE
  refine s_bin hE rfl rfl bin_lss rfl ?_; clear hE a; intro a hE
  refine s_move hE rfl rfl ?_; clear hE a; intro a hE
  replace hE := hE.cast 13 rfl (show _ = Value.bool false from (congrArg Value.bool (decide_eq_false (by omega))))
  refine g_yes hE rfl rfl ?_
  refine s_move hE rfl rfl ?_; clear hE a; intro a hE
  refine g_yes hE rfl rfl ?_
  refine s_load1 hE rfl (hM.get 0 rfl) rfl one29 (by intro X h; cases h) rfl ?_; clear hE a; intro a hE
  refine g_yes hE rfl rfl ?_
  refine s_nilCheck hE rfl rfl ?_; clear hE a; intro a hE
  refine g_yes hE rfl rfl ?_
  refine s_fieldAddr hE rfl fo73_1 rfl ?_; clear hE a; intro a hE
  refine g_yes hE rfl rfl ?_
  refine s_load1 hE rfl (blkR_blk (hM.get 1 rfl)) rfl one3 (by intro X h; cases h) rfl ?_; clear hE a; intro a hE
  refine g_yes hE rfl rfl ?_
  refine s_bin hE rfl rfl (bin_one_shl (by omega)) rfl ?_; clear hE a; intro a hE
  refine g_yes hE rfl rfl ?_
  refine s_bin hE rfl rfl bin_geq rfl ?_; clear hE a; intro a hE
  refine s_pickf hE rfl rfl rfl ?_; clear hE a; intro a hE
  refine q_nil ?_
  replace hE : Env a 38 [(1, _), (2, _), (4, _), (5, _), (10, _), (21, _)] := hE.sel [1, 2, 4, 5, 10, 21] rfl
  refine hK5 _ _ ?_
  replace hE := hE.cast 21 rfl (show _ = Value.bool false from (congrArg Value.bool (decide_eq_false (by omega))))
  refine wp_cond_false (hE.eval rfl) ?_
  refine wp_skip ?_
  refine hK4 _ _ ?_
  refine wp_seq_k (fun K6 hK6 => ?_)
  refine wp_plain [false] rfl rfl ?_
  refine s_alloc [1] hE hM zero44 rfl rfl ?_; clear hE a; intro a b6 w3 hE hM'
  clear hM; have hM := hM'; clear hM'
  refine q_nil ?_
  refine hK6 _ _ ?_
  refine wp_seq_k (fun K7 hK7 => ?_)
  refine wp_seq_k (fun K8 hK8 => ?_)
  refine wp_plain [true, true, true, true, true, true, true, false] rfl rfl ?_
  refine s_load1 hE rfl (hM.get 1 rfl) rfl one29 (by intro X h; cases h) rfl ?_; clear hE a; intro a hE
  refine s_nilCheck hE rfl rfl ?_; clear hE a; intro a hE
  refine s_fieldAddr hE rfl fo73_1 rfl ?_; clear hE a; intro a hE
  refine s_load1 hE rfl (blkR_blk (hM.get 2 rfl)) rfl one3 (by intro X h; cases h) rfl ?_; clear hE a; intro a hE
  refine s_bin hE rfl rfl (bin_one_shl (by omega)) rfl ?_; clear hE a; intro a hE
  refine s_move hE rfl rfl ?_; clear hE a; intro a hE
  refine s_bin hE rfl rfl (show Bin _ _ _ _ _ (.int .i64 (((2 ^ h) + q : Nat) : Int)) from bin_add (by rw [wrap_i64 (by omega) (by omega)]; omega)) rfl ?_; clear hE a; intro a hE
  refine s_call hE rfl Tryd.call31 (above_c ((2 ^ h) + q) _) rfl ?_
  rintro e w4 ⟨B29, rfl, hN⟩
  refine ⟨_, rfl, trivial, ?_⟩; clear hE a; intro a hE
  replace hM : Mem _ _ w4 [_, _, _, _, _] := hM.call0 hN ⟨rfl, trivial⟩; clear hN
  refine q_nil ?_
  replace hE : Env a 38 [(1, _), (2, _), (4, _), (5, _), (6, _), (10, _), (21, _), (29, _)] := hE.sel [1, 2, 4, 5, 6, 10, 21, 29] rfl
  refine hK8 _ _ ?_
  refine wp_block ?_
  replace hM := hM.addNil 64
  replace hM := hM.ownEq (m' := ([] : List (List UInt8)).length) (cs' := ([] : List (List UInt8)).flatMap bv) rfl rfl
  have hsz := hM.size
  replace hM := Mem.ownRowsEq (f := bv) (ls := ([] : List (List UInt8))) (ms := (nums (n := 2 ^ h) []).map (secA l)) hM rfl
  refine wp_range (α := Pn (2 ^ h)) (p := 30) hE rfl Tryd.call41 (above1_c B29 (2 ^ h + q) (2 ^ h) _ (by omega) hpw2 (hM.get 1 rfl)) rfl (fun pre W => ∃ vc : Value, Mem w [] W [own vc 64 (((nums pre).map (secA l)).length) (((nums pre).map (secA l)).flatMap bv), blk B29 [[.int .i64 (((2 ^ h) + q : Nat) : Int)]] [1] 3, blk b6 [[vc]] [1] 44, blk b2 [[.pointer (some ⟨b, 0, none⟩)]] [1] 29, blkR b [bv k, [.int .i64 ((h : Nat) : Int)], [v]] [32, 1, 1] 73, rd v 32 l.length c (l.flatMap bv)]) (fun c pre W => False) (fun s W W' row ⟨vc, h⟩ hg hr => ⟨vc, h.grown (by repeat' first | exact celdL_nil | refine celdL_cons ?_ ?_ | exact celd_blk | exact celd_own | exact celd_glb | exact celd_blkR | exact celd_ownW | exact celd_cells | exact celd_rd (by assumption)) hg hr hsz⟩) (fun c s W W' row h hg hr => h) ⟨_, hM⟩ (fun x => [(7, .int .i64 ((x.1 : Nat) : Int)), (1, .int .i64 ((q : Nat) : Int)), (2, .pointer (some ⟨b2, 0, none⟩)), (6, .pointer (some ⟨b6, 0, none⟩)), (10, .bool false), (21, .bool false)]) ?_ ?_ ?_ ?_
  · intro ll x a W K hE hK
    refine rp_plain [true] rfl rfl rfl (fun ⟨_, _, h⟩ => h) ?_
    refine s_assign hE rfl rfl ?_; clear hE a; intro a hE
    refine q_nil ?_
    exact hK _ (hE.sel [7, 1, 2, 6, 10, 21] rfl)
  · clear hE hM a; rintro ll pre x a W ⟨vc, hM0⟩ hlt hE
    have hM := hM0.rebase
    have hx := x.2
    have hpl := pathL_le_len (2 ^ h + q)
    have hnl := nums_len pre
    refine wpIn_block ?_
    refine rp_treeM hM (by kernel_rfl) (fun _ => True) (fun _ => True) (.re [(2, true), (0, true), (1, true), (3, false), (4, false), (5, false), (6, false)] (.fl 1 (.weak (.fl 2 (.or 3 (.re [(4, false), (5, false), (6, false)] (.fl 0 (.fl 0 (.or 4 (.cut (.re [(5, false), (6, false)] (.fl 0 (.fl 0 (.weak (.or 5 (.cut (.re [(6, false)] (.fl 0 (.fl 0 (.weak (.or 6 (.cut (.re [] (.weak (.leaf 0)))) (.stop))))))) (.stop))))))) (.stop))))) (.stop)))))) [(2, true), (0, true), (1, true), (3, false), (4, false), (5, false), (6, false)] [(0, [(5, 0), (6, 0)]), (1, [(3, 1), (4, 3), (5, 3), (6, 1)]), (3, [(4, 3), (5, 3), (6, 3)]), (4, [(5, 4), (6, 4)]), (5, [(6, 5)]), (6, [])] (by kernel_rfl) rfl (fun ⟨_, _, h⟩ => h) ?_
    intro w5 hM' hww5; clear hM; have hM := hM'; clear hM'
    refine o_re ?_
    refine o_fl rfl ?_
    refine s_move hE rfl rfl ?_; clear hE a; intro a hE
    refine q_nil (q_nx ?_)
    refine o_weak (fun _ => False) (fun _ _ => trivial) ?_
    refine o_fl rfl ?_
    refine s_load1 hE rfl (hM.get 2 rfl) rfl one44 (by intro X h; cases h; simp) rfl ?_; clear hE a; intro a hE
    refine s_load1 hE rfl (hM.get 3 rfl) rfl one29 (by intro X h; cases h; simp) rfl ?_; clear hE a; intro a hE
    refine q_nil (q_nx ?_)
    refine o_or rfl ?_ ?_
    · refine s_call hE rfl Tryd.call29 (tsector_c b h k v l c x.1 _ (blkR_blk (hM.get 4 rfl)) (hM.get 5 rfl) hl_k ho_l hh hn (by omega)) rfl ?_
      rintro e w6 ⟨rfl, hN⟩
      refine ⟨_, rfl, hN.sta0 _, ?_⟩; clear hE a; intro a hE
      replace hM : Mem _ _ w6 [_, _, _, _, _, _] := hM.call0 hN trivial; clear hN
      refine q_nil (q_nx ?_)
      refine o_re ?_
      refine o_fl rfl ?_
      refine q_nil (q_nx ?_)
      refine o_fl rfl ?_
      refine q_nil (q_nx ?_)
      refine o_or rfl ?_ ?_
      · have hro35_0 : (secA l x.1).length = 64 := (secA_len ho_l x.1)
        refine s_buildSlice (xs := [.tmp 34]) (([secA l x.1] : List (List UInt8)).flatMap bv) hE hM sl44 rfl rfl rfl (by intro v hv; simp only [List.mem_cons, List.not_mem_nil, or_false] at hv; rcases hv with rfl; exact ((bv_length _).trans hro35_0)) (by simp [Value.cells]) rfl rfl rfl ?_; clear hE a; intro a v35 w7 hE hM'
        clear hM; have hM := hM'; clear hM'
        replace hM := hM.ownEq (m' := ([secA l x.1] : List (List UInt8)).length) (cs' := ([secA l x.1] : List (List UInt8)).flatMap bv) rfl rfl
        refine q_nil (q_nx ?_)
        refine o_cut (fun _ => True) ?_
        refine o_re ?_
        refine o_fl rfl ?_
        refine q_nil (q_nx ?_)
        refine o_fl rfl ?_
        refine q_nil (q_nx ?_)
        refine o_weak (fun b => b ∈ valBlocks vc) (fun _ _ => trivial) ?_
        refine o_or rfl ?_ ?_
        · replace hM : Mem _ _ w7 [_, _, _, _, _, _, _] := hM.pick [1, 0, 2, 3, 4, 5, 6] rfl
          obtain ⟨cq1, hq1⟩ := own_rd (hM.get 1 rfl)
          refine s_append hE rfl rfl hM sl44 (Src.rd Tryd.underlying44 hq1 (bvs_one _)) (len47 (by first | omega | (simp; done) | (simp; omega))) (by first | omega | (simp; done) | (simp; omega)) (by intro X h; cases h; exact fun _ hb => hb) rfl ?_; clear hE a; intro a v36 w8 hE hM'; clear hM; have hM := hM'; clear hM'
          replace hM := Mem.ownRowsL (f := bv) (ls := (nums pre).map (secA l)) (ms := ([secA l x.1] : List (List UInt8))) hM rfl rfl
          replace hM : Mem _ _ w8 [_, _, _, _, _, _] := hM.pick [0, 2, 3, 4, 5, 6] rfl
          refine q_nil (q_nx ?_)
          refine o_cut (fun _ => True) ?_
          refine o_re ?_
          refine o_fl rfl ?_
          refine q_nil (q_nx ?_)
          refine o_fl rfl ?_
          refine q_nil (q_nx ?_)
          refine o_weak (fun b => b = b6) (fun _ _ => trivial) ?_
          refine o_or rfl ?_ ?_
          · replace hM : Mem _ _ w8 [_, _, _, _, _, _] := hM.pick [2, 0, 1, 3, 4, 5] rfl
            refine s_store1 0 hE rfl rfl hM (own_one (hM.get 1 rfl)).1 (own_one (hM.get 1 rfl)).2 sz44 rfl rfl (by intro X h; cases h; rfl) ?_; intro w9 hM'; clear hM; have hM := hM'; clear hM'
            refine q_nil (q_nx ?_)
            refine o_cut (fun _ => True) ?_
            refine o_re ?_
            refine o_weak (fun _ => False) (fun _ _ => trivial) ?_
            refine o_leaf rfl rfl ?_
            refine q_nil (q_ph (q_nil ?_))
            replace hE : Env a 38 [(1, _), (2, _), (6, _), (7, _), (10, _), (21, _)] := hE.sel [1, 2, 6, 7, 10, 21] rfl
            refine q_block_n ?_
            replace hM : Mem _ _ w9 [_, _, _, _, _, _] := hM.pick [1, 0, 2, 3, 4, 5] rfl
            replace hM := Mem.ownRowsEq (f := bv) (ls := ((nums pre).map (secA l)) ++ ([secA l x.1] : List (List UInt8))) (ms := (nums (pre ++ [x])).map (secA l)) hM (by rw [nums_snoc, List.map_append]; rfl)
            replace hM : Mem _ _ w9 [_, _, _, _, _, _] := hM.pick [0, 1, 2, 3, 4, 5] rfl
            replace hM : Mem _ _ w9 [_, _, _, _, _, _] := hM.pick [0, 2, 1, 3, 4, 5] rfl
            exact ⟨hM0.keeps (by repeat' first | exact celdL_nil | refine celdL_cons ?_ ?_ | exact celd_blk | exact celd_own | exact celd_glb | exact celd_blkR | exact celd_ownW | exact celd_cells | exact celd_rd (by assumption)) hM, trivial, _, hM0.back hM⟩
          trivial
        trivial
      trivial
    trivial
  · rintro D xs W hle hS ⟨vc, hM⟩ hD
    have hfin : (nums xs).map (secA l) = ownP l (2 ^ h + q) h := by rw [ownP_path (by omega) (by omega), show nums xs = pathL (2 ^ h + q) from hS]
    refine q_block_n ?_
    refine hK7 _ _ ?_
    refine wp_seq_k (fun K9 hK9 => ?_)
    refine mp_plain [true, true, true] rfl rfl ?_
    refine s_load1 hE rfl (hM.get 2 rfl) rfl one44 (by intro X h; cases h) rfl ?_; clear hE a; intro a hE
    refine s_assign hE rfl rfl ?_; clear hE a; intro a hE
    refine s_assign hE rfl rfl ?_; clear hE a; intro a hE
    refine q_nil ?_
    replace hE : Env a 38 [(1, _), (2, _), (4, _), (5, _), (6, _), (10, _), (21, _), (29, _)] := hE.sel [1, 2, 4, 5, 6, 10, 21, 29] rfl
    refine hK9 _ _ ?_
    refine wp_ret ?_
    have hM2 := hM.taken (o' := .deferred none) (by repeat' first | exact celdL_nil | refine celdL_cons ?_ ?_ | exact celd_blk | exact celd_own | exact celd_glb | exact celd_blkR | exact celd_ownW | exact celd_cells | exact celd_rd (by assumption)) hD rfl (Nat.le_trans hsz hle); clear hM; have hM := hM2; clear hM2
    refine f_ret2M hE rfl rfl rfl hD ?_
    replace hM := Mem.ownRowsEq (f := bv) (ls := (nums xs).map (secA l)) (ms := ownP l (2 ^ h + q) h) hM hfin
    exact ⟨_, rfl, hM.pick [0] rfl⟩
  · rintro D c pre W hle hS h
    exact h.elim
theorem tproof_no (b h : Nat) (k : List UInt8) (v : Value) (l : List (List UInt8)) (c : Nat) (z : Int) (w : World) (hB : (blk b [bv k, [.int .i64 ((h : Nat) : Int)], [v]] [32, 1, 1] 73).holds w) (hS : (rd v 32 l.length c (l.flatMap bv)).holds w) (hl_k : k.length = 32) (ho_l : ∀ x, x ∈ l → x.length = 32) (hh : 1 ≤ h ∧ h ≤ 12) (hn : l.length = 2 * 2 ^ h) (hz : ¬ inN 0 (2 ^ h) z) : Calls Tryd.prog 14 #[.pointer (some ⟨b, 0, none⟩), .int .i64 z] w fun e w' => ∃ v'0, e = .returned (.tuple #[v'0, .int .i64 2]) ∧ Mem w [] w' [own v'0 64 (([] : List (List UInt8)).length) (([] : List (List UInt8)).flatMap bv)] := by
  have hpw := two_pow_le hh
  have hpw1 := hpw.1
  have hpw2 := hpw.2
  have hM : Mem w [] w [blkR b [bv k, [.int .i64 ((h : Nat) : Int)], [v]] [32, 1, 1] 73, rd v 32 l.length c (l.flatMap bv)] := Mem.startR w (fun g hg => by
    simp only [List.mem_cons, List.not_mem_nil, or_false] at hg
    rcases hg with rfl | rfl
    · exact ⟨hB, rfl⟩
    · exact ⟨hS, rfl⟩)
  refine f_enterM 38 Tryd.func14 rfl rfl rfl ?_
  intro a hE
  replace hE : Env a 38 [(0, _), (1, _)] := hE
  refine wp_seq_k (fun K1 hK1 => ?_)
  refine wp_plain [false, true, true] rfl rfl ?_
  refine s_box (ss := [[_]]) [1] hE hM rfl rfl rfl rfl ?_; clear hE a; intro a b2 w1 hE hM'
  clear hM; have hM := hM'; clear hM'
  refine s_assign hE rfl rfl ?_; clear hE a; intro a hE
  refine s_assign hE rfl rfl ?_; clear hE a; intro a hE
  refine q_nil ?_
  replace hE : Env a 38 [(1, _), (2, _), (4, _), (5, _)] := hE.sel [1, 2, 4, 5] rfl
  refine hK1 _ _ ?_
  refine wp_seq_k (fun K2 hK2 => ?_)
  refine wp_seq_k (fun K3 hK3 => ?_)
  refine wp_plain [true, false, true] rfl rfl ?_
  refine s_load1 hE rfl (hM.get 0 rfl) rfl one29 (by intro X h; cases h) rfl ?_; clear hE a; intro a hE
  refine s_call hE rfl Tryd.call30 (tis_c b h k v l c _ (blkR_blk (hM.get 1 rfl)) hl_k ho_l hh hn) rfl ?_
  rintro e w2 ⟨rfl, hN⟩
  refine ⟨_, rfl, trivial, ?_⟩; clear hE a; intro a hE
  replace hM : Mem _ _ w2 [_, _, _] := hM.call0 hN trivial; clear hN
  refine s_not hE rfl rfl ?_; clear hE a; intro a hE
  replace hE := hE.cast 10 rfl (show _ = Value.bool false from rfl)
  refine q_nil ?_
  replace hE : Env a 38 [(1, _), (2, _), (4, _), (5, _), (10, _)] := hE.sel [1, 2, 4, 5, 10] rfl
  refine hK3 _ _ ?_
  refine wp_cond_false (hE.eval rfl) ?_
  refine wp_skip ?_
  refine hK2 _ _ ?_
  refine wp_seq_k (fun K4 hK4 => ?_)
  refine wp_seq_k (fun K5 hK5 => ?_)
  refine wp_plain [true, true, true, true, true, true, true, true, true, true, true] rfl rfl ?_
  refine s_move hE rfl rfl ?_; clear hE a; intro a hE
  refine s_bin hE rfl rfl bin_lss rfl ?_; clear hE a; intro a hE
  refine s_move hE rfl rfl ?_; clear hE a; intro a hE
  refine hE.split 13 rfl (fun hb13 hE' => ?_) (fun hb13 hE' => ?_)
  · replace hE := hE'; clear hE'
    replace hb13 := of_decide_eq_true hb13
    refine g_no (b := true) hE rfl rfl rfl ?_; clear hE a; intro a hE
    refine g_no (b := true) hE rfl rfl rfl ?_; clear hE a; intro a hE
    refine g_no (b := true) hE rfl rfl rfl ?_; clear hE a; intro a hE
    refine g_no (b := true) hE rfl rfl rfl ?_; clear hE a; intro a hE
    refine g_no (b := true) hE rfl rfl rfl ?_; clear hE a; intro a hE
    refine g_no (b := true) hE rfl rfl rfl ?_; clear hE a; intro a hE
    refine g_no (b := true) hE rfl rfl rfl ?_; clear hE a; intro a hE
    refine s_pickt hE rfl rfl rfl ?_; clear hE a; intro a hE
    refine q_nil ?_
    replace hE : Env a 38 [(1, _), (2, _), (4, _), (5, _), (10, _), (21, _)] := hE.sel [1, 2, 4, 5, 10, 21] rfl
    refine hK5 _ _ ?_
    refine wp_cond_true (hE.eval rfl) ?_
    refine wp_seq_k (fun K6 hK6 => ?_)
    refine wp_plain [true, true] rfl rfl ?_
    refine s_assign hE rfl rfl ?_; clear hE a; intro a hE
    refine s_assign hE rfl rfl ?_; clear hE a; intro a hE
    refine q_nil ?_
    refine hK6 _ _ ?_
    refine wp_ret ?_
    refine q_then_r ?_
    refine post_M (f_ret2 hE rfl rfl rfl ?_)
    replace hM := hM.addNil 64
    replace hM := hM.ownEq (m' := ([] : List (List UInt8)).length) (cs' := ([] : List (List UInt8)).flatMap bv) rfl rfl
    exact ⟨_, (by first | rfl | (simp; done)), hM.pick [0] rfl⟩
  · replace hE := hE'; clear hE'
    replace hb13 := of_decide_eq_false hb13
    refine g_yes hE rfl rfl ?_
    refine s_move hE rfl rfl ?_; clear hE a; intro a hE
    refine g_yes hE rfl rfl ?_
    refine s_load1 hE rfl (hM.get 0 rfl) rfl one29 (by intro X h; cases h) rfl ?_; clear hE a; intro a hE
    refine g_yes hE rfl rfl ?_
    refine s_nilCheck hE rfl rfl ?_; clear hE a; intro a hE
    refine g_yes hE rfl rfl ?_
    refine s_fieldAddr hE rfl fo73_1 rfl ?_; clear hE a; intro a hE
    refine g_yes hE rfl rfl ?_
    refine s_load1 hE rfl (blkR_blk (hM.get 1 rfl)) rfl one3 (by intro X h; cases h) rfl ?_; clear hE a; intro a hE
    refine g_yes hE rfl rfl ?_
    refine s_bin hE rfl rfl (bin_one_shl (by omega)) rfl ?_; clear hE a; intro a hE
    refine g_yes hE rfl rfl ?_
    refine s_bin hE rfl rfl bin_geq rfl ?_; clear hE a; intro a hE
    refine s_pickf hE rfl rfl rfl ?_; clear hE a; intro a hE
    refine q_nil ?_
    replace hE : Env a 38 [(1, _), (2, _), (4, _), (5, _), (10, _), (21, _)] := hE.sel [1, 2, 4, 5, 10, 21] rfl
    refine hK5 _ _ ?_
    replace hE := hE.cast 21 rfl (show _ = Value.bool true from (congrArg Value.bool (decide_eq_true (by omega))))
    refine wp_cond_true (hE.eval rfl) ?_
    refine wp_seq_k (fun K6 hK6 => ?_)
    refine wp_plain [true, true] rfl rfl ?_
    refine s_assign hE rfl rfl ?_; clear hE a; intro a hE
    refine s_assign hE rfl rfl ?_; clear hE a; intro a hE
    refine q_nil ?_
    refine hK6 _ _ ?_
    refine wp_ret ?_
    refine q_then_r ?_
    refine post_M (f_ret2 hE rfl rfl rfl ?_)
    replace hM := hM.addNil 64
    replace hM := hM.ownEq (m' := ([] : List (List UInt8)).length) (cs' := ([] : List (List UInt8)).flatMap bv) rfl rfl
    exact ⟨_, (by first | rfl | (simp; done)), hM.pick [0] rfl⟩
theorem tproofI_c (b h : Nat) (k : List UInt8) (v : Value) (l : List (List UInt8)) (c : Nat) (z : Int) (w : World) (hB : (blk b [bv k, [.int .i64 (h : Int)], [v]] [32, 1, 1] 73).holds w) (hS : (rd v 32 l.length c (l.flatMap bv)).holds w) (hl_k : k.length = 32) (ho_l : ∀ x, x ∈ l → x.length = 32) (hh : 1 ≤ h ∧ h ≤ 12) (hn : l.length = 2 * 2 ^ h) : Calls Tryd.prog 14 #[.pointer (some ⟨b, 0, none⟩), .int .i64 z] w fun e w' => ∃ u, e = .returned (.tuple #[u, .int .i64 ((eZ 0 (2 ^ h) z : Nat) : Int)]) ∧ Mem w [] w' [own u 64 (proofZ l h z).length ((proofZ l h z).flatMap bv)] := by
  have hpw := two_pow_le hh
  have hpw2 := hpw.2
  by_cases hz : inN 0 (2 ^ h) z
  · obtain ⟨q, rfl⟩ : ∃ q : Nat, z = (q : Int) := ⟨z.toNat, by omega⟩
    rw [proofZ_in hz, eZ_in hz]
    exact tproof_c b h k v l c q w hB hS hl_k ho_l hh hn (by omega)
  · rw [proofZ_out hz, eZ_out hz]
    exact tproof_no b h k v l c z w hB hS hl_k ho_l hh hn hz
theorem tpath_no1 (y : Int) (z : Int) (w : World) (hh : ¬ (1 ≤ y ∧ y ≤ 12)) : Calls Tryd.prog 15 #[.int .i64 y, .int .i64 z] w fun e w' => ∃ v'0, e = .returned (v'0) ∧ Mem w [] w' [own v'0 1 (([] : List Nat).length) (([] : List Nat).flatMap intC)] := by
  have hM := Mem.start0 w
  refine f_enter 27 Tryd.func15 rfl rfl rfl ?_
  intro a hE
  replace hE : Env a 27 [(0, _), (1, _)] := hE
  refine wp_seq_k (fun K1 hK1 => ?_)
  refine wp_plain [true] rfl rfl ?_
  refine s_assign hE rfl rfl ?_; clear hE a; intro a hE
  refine q_nil ?_
  refine hK1 _ _ ?_
  refine wp_seq_k (fun K2 hK2 => ?_)
  refine wp_seq_k (fun K3 hK3 => ?_)
  refine wp_plain [true, true, true, true, true, true, true, true, true, true, true, true, true, true, true, true] rfl rfl ?_
  refine s_move hE rfl rfl ?_; clear hE a; intro a hE
  refine s_bin hE rfl rfl bin_lss rfl ?_; clear hE a; intro a hE
  refine s_move hE rfl rfl ?_; clear hE a; intro a hE
  refine hE.split 7 rfl (fun hb7 hE' => ?_) (fun hb7 hE' => ?_)
  · replace hE := hE'; clear hE'
    replace hb7 := of_decide_eq_true hb7
    refine g_no (b := true) hE rfl rfl rfl ?_; clear hE a; intro a hE
    refine g_no (b := true) hE rfl rfl rfl ?_; clear hE a; intro a hE
    refine s_pickt hE rfl rfl rfl ?_; clear hE a; intro a hE
    refine s_move hE rfl rfl ?_; clear hE a; intro a hE
    refine g_no (b := true) hE rfl rfl rfl ?_; clear hE a; intro a hE
    refine g_no (b := true) hE rfl rfl rfl ?_; clear hE a; intro a hE
    refine s_pickt hE rfl rfl rfl ?_; clear hE a; intro a hE
    refine s_move hE rfl rfl ?_; clear hE a; intro a hE
    refine g_no (b := true) hE rfl rfl rfl ?_; clear hE a; intro a hE
    refine g_no (b := true) hE rfl rfl rfl ?_; clear hE a; intro a hE
    refine g_no (b := true) hE rfl rfl rfl ?_; clear hE a; intro a hE
    refine g_no (b := true) hE rfl rfl rfl ?_; clear hE a; intro a hE
    refine s_pickt hE rfl rfl rfl ?_; clear hE a; intro a hE
    refine q_nil ?_
    replace hE : Env a 27 [(0, _), (1, _), (4, _), (20, _)] := hE.sel [0, 1, 4, 20] rfl
    refine hK3 _ _ ?_
    refine wp_cond_true (hE.eval rfl) ?_
    refine wp_seq_k (fun K4 hK4 => ?_)
    refine wp_plain [true] rfl rfl ?_
    refine s_assign hE rfl rfl ?_; clear hE a; intro a hE
    refine q_nil ?_
    refine hK4 _ _ ?_
    refine wp_ret ?_
    refine q_then_r ?_
    refine f_ret1 hE rfl rfl ?_
    replace hM := hM.addNil 1
    replace hM := hM.ownEq (m' := ([] : List Nat).length) (cs' := ([] : List Nat).flatMap intC) rfl rfl
    exact ⟨_, (by first | rfl | (simp; done)), hM.pick [0] rfl⟩
  · replace hE := hE'; clear hE'
    replace hb7 := of_decide_eq_false hb7
    refine g_yes hE rfl rfl ?_
    refine s_move hE rfl rfl ?_; clear hE a; intro a hE
    refine g_yes hE rfl rfl ?_
    refine s_bin hE rfl rfl bin_gtr rfl ?_; clear hE a; intro a hE
    refine s_pickf hE rfl rfl rfl ?_; clear hE a; intro a hE
    refine s_move hE rfl rfl ?_; clear hE a; intro a hE
    replace hE := hE.cast 11 rfl (show _ = Value.bool true from (congrArg Value.bool (decide_eq_true (by omega))))
    refine g_no (b := true) hE rfl rfl rfl ?_; clear hE a; intro a hE
    refine g_no (b := true) hE rfl rfl rfl ?_; clear hE a; intro a hE
    refine s_pickt hE rfl rfl rfl ?_; clear hE a; intro a hE
    refine s_move hE rfl rfl ?_; clear hE a; intro a hE
    refine g_no (b := true) hE rfl rfl rfl ?_; clear hE a; intro a hE
    refine g_no (b := true) hE rfl rfl rfl ?_; clear hE a; intro a hE
    refine g_no (b := true) hE rfl rfl rfl ?_; clear hE a; intro a hE
    refine g_no (b := true) hE rfl rfl rfl ?_; clear hE a; intro a hE
    refine s_pickt hE rfl rfl rfl ?_; clear hE a; intro a hE
    refine q_nil ?_
    replace hE : Env a 27 [(0, _), (1, _), (4, _), (20, _)] := hE.sel [0, 1, 4, 20] rfl
    refine hK3 _ _ ?_
    refine wp_cond_true (hE.eval rfl) ?_
    refine wp_seq_k (fun K4 hK4 => ?_)
    refine wp_plain [true] rfl rfl ?_
    refine s_assign hE rfl rfl ?_; clear hE a; intro a hE
    refine q_nil ?_
    refine hK4 _ _ ?_
    refine wp_ret ?_
    refine q_then_r ?_
    refine f_ret1 hE rfl rfl ?_
    replace hM := hM.addNil 1
    replace hM := hM.ownEq (m' := ([] : List Nat).length) (cs' := ([] : List Nat).flatMap intC) rfl rfl
    exact ⟨_, (by first | rfl | (simp; done)), hM.pick [0] rfl⟩
theorem tpath_no2 (h : Nat) (z : Int) (w : World) (hh : 1 ≤ h ∧ h ≤ 12) (hz : ¬ inN 0 (2 ^ h) z) : Calls Tryd.prog 15 #[.int .i64 (h : Int), .int .i64 z] w fun e w' => ∃ v'0, e = .returned (v'0) ∧ Mem w [] w' [own v'0 1 (([] : List Nat).length) (([] : List Nat).flatMap intC)] := by
  have hpw := two_pow_le hh
  have hpw1 := hpw.1
  have hpw2 := hpw.2
  have hM := Mem.start0 w
  refine f_enter 27 Tryd.func15 rfl rfl rfl ?_
  intro a hE
  replace hE : Env a 27 [(0, _), (1, _)] := hE
  refine wp_seq_k (fun K1 hK1 => ?_)
  refine wp_plain [true] rfl rfl ?_
  refine s_assign hE rfl rfl ?_; clear hE a; intro a hE
  refine q_nil ?_
  refine hK1 _ _ ?_
  refine wp_seq_k (fun K2 hK2 => ?_)
  refine wp_seq_k (fun K3 hK3 => ?_)
  refine wp_plain [true, true, true, true, true, true, true, true, true, true, true, true, true, true, true, true] rfl rfl ?_
  refine s_move hE rfl rfl ?_; clear hE a; intro a hE
  refine s_bin hE rfl rfl bin_lss rfl ?_; clear hE a; intro a hE
  refine s_move hE rfl rfl ?_; clear hE a; intro a hE
  replace hE := hE.cast 7 rfl (show _ = Value.bool false from (congrArg Value.bool (decide_eq_false (by omega))))
  refine g_yes hE rfl rfl ?_
  refine s_move hE rfl rfl ?_; clear hE a; intro a hE
  refine g_yes hE rfl rfl ?_
  refine s_bin hE rfl rfl bin_gtr rfl ?_; clear hE a; intro a hE
  refine s_pickf hE rfl rfl rfl ?_; clear hE a; intro a hE
  refine s_move hE rfl rfl ?_; clear hE a; intro a hE
  replace hE := hE.cast 11 rfl (show _ = Value.bool false from (congrArg Value.bool (decide_eq_false (by omega))))
  refine g_yes hE rfl rfl ?_
  refine s_move hE rfl rfl ?_; clear hE a; intro a hE
  refine g_yes hE rfl rfl ?_
  refine s_bin hE rfl rfl bin_lss rfl ?_; clear hE a; intro a hE
  refine s_pickf hE rfl rfl rfl ?_; clear hE a; intro a hE
  refine s_move hE rfl rfl ?_; clear hE a; intro a hE
  refine hE.split 15 rfl (fun hb15 hE' => ?_) (fun hb15 hE' => ?_)
  · replace hE := hE'; clear hE'
    replace hb15 := of_decide_eq_true hb15
    refine g_no (b := true) hE rfl rfl rfl ?_; clear hE a; intro a hE
    refine g_no (b := true) hE rfl rfl rfl ?_; clear hE a; intro a hE
    refine g_no (b := true) hE rfl rfl rfl ?_; clear hE a; intro a hE
    refine g_no (b := true) hE rfl rfl rfl ?_; clear hE a; intro a hE
    refine s_pickt hE rfl rfl rfl ?_; clear hE a; intro a hE
    refine q_nil ?_
    replace hE : Env a 27 [(0, _), (1, _), (4, _), (20, _)] := hE.sel [0, 1, 4, 20] rfl
    refine hK3 _ _ ?_
    refine wp_cond_true (hE.eval rfl) ?_
    refine wp_seq_k (fun K4 hK4 => ?_)
    refine wp_plain [true] rfl rfl ?_
    refine s_assign hE rfl rfl ?_; clear hE a; intro a hE
    refine q_nil ?_
    refine hK4 _ _ ?_
    refine wp_ret ?_
    refine q_then_r ?_
    refine f_ret1 hE rfl rfl ?_
    replace hM := hM.addNil 1
    replace hM := hM.ownEq (m' := ([] : List Nat).length) (cs' := ([] : List Nat).flatMap intC) rfl rfl
    exact ⟨_, (by first | rfl | (simp; done)), hM.pick [0] rfl⟩
  · replace hE := hE'; clear hE'
    replace hb15 := of_decide_eq_false hb15
    refine g_yes hE rfl rfl ?_
    refine s_move hE rfl rfl ?_; clear hE a; intro a hE
    refine g_yes hE rfl rfl ?_
    refine s_move hE rfl rfl ?_; clear hE a; intro a hE
    refine g_yes hE rfl rfl ?_
    refine s_bin hE rfl rfl (bin_one_shl (by omega)) rfl ?_; clear hE a; intro a hE
    refine g_yes hE rfl rfl ?_
    refine s_bin hE rfl rfl bin_geq rfl ?_; clear hE a; intro a hE
    refine s_pickf hE rfl rfl rfl ?_; clear hE a; intro a hE
    refine q_nil ?_
    replace hE : Env a 27 [(0, _), (1, _), (4, _), (20, _)] := hE.sel [0, 1, 4, 20] rfl
    refine hK3 _ _ ?_
    replace hE := hE.cast 20 rfl (show _ = Value.bool true from (congrArg Value.bool (decide_eq_true (by omega))))
    refine wp_cond_true (hE.eval rfl) ?_
    refine wp_seq_k (fun K4 hK4 => ?_)
    refine wp_plain [true] rfl rfl ?_
    refine s_assign hE rfl rfl ?_; clear hE a; intro a hE
    refine q_nil ?_
    refine hK4 _ _ ?_
    refine wp_ret ?_
    refine q_then_r ?_
    refine f_ret1 hE rfl rfl ?_
    replace hM := hM.addNil 1
    replace hM := hM.ownEq (m' := ([] : List Nat).length) (cs' := ([] : List Nat).flatMap intC) rfl rfl
    exact ⟨_, (by first | rfl | (simp; done)), hM.pick [0] rfl⟩
theorem tpathI_c (y z : Int) (w : World) : Calls Tryd.prog 15 #[.int .i64 y, .int .i64 z] w fun e w' => ∃ u, e = .returned u ∧ Mem w [] w' [own u 1 (pathZ y z).length ((pathZ y z).flatMap intC)] := by
  by_cases hh : 1 ≤ y ∧ y ≤ 12
  · obtain ⟨h, rfl⟩ : ∃ h : Nat, y = (h : Int) := ⟨y.toNat, by omega⟩
    have hh' : 1 ≤ h ∧ h ≤ 12 := by omega
    by_cases hz : inN 0 (2 ^ h) z
    · obtain ⟨q, rfl⟩ : ∃ q : Nat, z = (q : Int) := ⟨z.toNat, by omega⟩
      rw [pathZ_in hh' hz]
      exact tpath_c h q w hh' (by omega)
    · rw [pathZ_out2 hz]
      exact tpath_no2 h z w hh' hz
  · rw [pathZ_out1 hh]
    exact tpath_no1 y z w hh
theorem tset_no (b h : Nat) (k : List UInt8) (v : Value) (l : List (List UInt8)) (c : Nat) (z : Int) (tg : List UInt8) (w : World) (hB : (blk b [bv k, [.int .i64 ((h : Nat) : Int)], [v]] [32, 1, 1] 73).holds w) (hS : (rd v 32 l.length c (l.flatMap bv)).holds w) (hl_tg : tg.length = 32) (hl_k : k.length = 32) (ho_l : ∀ x, x ∈ l → x.length = 32) (hh : 1 ≤ h ∧ h ≤ 12) (hn : l.length = 2 * 2 ^ h) (hz : ¬ inN 0 (2 ^ h) z) : Calls Tryd.prog 11 #[.pointer (some ⟨b, 0, none⟩), .int .i64 z, .agg (bv tg).toArray] w fun e w' => ∃ v'0, e = .returned (.tuple #[v'0, .int .i64 2]) ∧ Mem w [] w' [own v'0 1 (([] : List Nat).length) (([] : List Nat).flatMap intC)] := by
  have hpw := two_pow_le hh
  have hpw1 := hpw.1
  have hpw2 := hpw.2
  have hM : Mem w [] w [blkR b [bv k, [.int .i64 ((h : Nat) : Int)], [v]] [32, 1, 1] 73, rd v 32 l.length c (l.flatMap bv)] := Mem.startR w (fun g hg => by
    simp only [List.mem_cons, List.not_mem_nil, or_false] at hg
    rcases hg with rfl | rfl
    · exact ⟨hB, rfl⟩
    · exact ⟨hS, rfl⟩)
  refine f_enterM 82 Tryd.func11 rfl rfl rfl ?_
  intro a hE
  replace hE : Env a 82 [(0, _), (1, _), (2, _)] := hE
  refine wp_seq_k (fun K1 hK1 => ?_)
  refine wp_plain [false, false, true, true] rfl rfl ?_
  refine s_box (ss := [[_]]) [1] hE hM rfl rfl rfl rfl ?_; clear hE a; intro a b3 w1 hE hM'
  clear hM; have hM := hM'; clear hM'
  refine s_box (ss := [bv tg]) [32] hE hM rfl (by simp [Value.cells]) (by simp [*]) rfl ?_; clear hE a; intro a b5 w2 hE hM'
  clear hM; have hM := hM'; clear hM'
  refine s_assign hE rfl rfl ?_; clear hE a; intro a hE
  refine s_assign hE rfl rfl ?_; clear hE a; intro a hE
  refine q_nil ?_
  replace hE : Env a 82 [(1, _), (3, _), (5, _), (6, _), (7, _)] := hE.sel [1, 3, 5, 6, 7] rfl
  refine hK1 _ _ ?_
  refine wp_seq_k (fun K2 hK2 => ?_)
  refine wp_seq_k (fun K3 hK3 => ?_)
  refine wp_plain [true, false, true] rfl rfl ?_
  refine s_load1 hE rfl (hM.get 1 rfl) rfl one29 (by intro X h; cases h) rfl ?_; clear hE a; intro a hE
  refine s_call hE rfl Tryd.call30 (tis_c b h k v l c _ (blkR_blk (hM.get 2 rfl)) hl_k ho_l hh hn) rfl ?_
  rintro e w3 ⟨rfl, hN⟩
  refine ⟨_, rfl, trivial, ?_⟩; clear hE a; intro a hE
  replace hM : Mem _ _ w3 [_, _, _, _] := hM.call0 hN trivial; clear hN
  refine s_not hE rfl rfl ?_; clear hE a; intro a hE
  replace hE := hE.cast 14 rfl (show _ = Value.bool false from rfl)
  refine q_nil ?_
  replace hE : Env a 82 [(1, _), (3, _), (5, _), (6, _), (7, _), (14, _)] := hE.sel [1, 3, 5, 6, 7, 14] rfl
  refine hK3 _ _ ?_
  refine wp_cond_false (hE.eval rfl) ?_
  refine wp_skip ?_
  refine hK2 _ _ ?_
  refine wp_seq_k (fun K4 hK4 => ?_)
  refine wp_seq_k (fun K5 hK5 => ?_)
  refine wp_plain [true, true, true, true, true, true, true, true, true, true, true] rfl rfl ?_
  refine s_move hE rfl rfl ?_; clear hE a; intro a hE
  refine s_bin hE rfl rfl bin_lss rfl ?_; clear hE a; intro a hE
  refine s_move hE rfl rfl ?_; clear hE a; intro a hE
  refine hE.split 17 rfl (fun hb17 hE' => ?_) (fun hb17 hE' => ?_)
  · replace hE := hE'; clear hE'
    replace hb17 := of_decide_eq_true hb17
    refine g_no (b := true) hE rfl rfl rfl ?_; clear hE a; intro a hE
    refine g_no (b := true) hE rfl rfl rfl ?_; clear hE a; intro a hE
    refine g_no (b := true) hE rfl rfl rfl ?_; clear hE a; intro a hE
    refine g_no (b := true) hE rfl rfl rfl ?_; clear hE a; intro a hE
    refine g_no (b := true) hE rfl rfl rfl ?_; clear hE a; intro a hE
    refine g_no (b := true) hE rfl rfl rfl ?_; clear hE a; intro a hE
    refine g_no (b := true) hE rfl rfl rfl ?_; clear hE a; intro a hE
    refine s_pickt hE rfl rfl rfl ?_; clear hE a; intro a hE
    refine q_nil ?_
    replace hE : Env a 82 [(1, _), (3, _), (5, _), (6, _), (7, _), (14, _), (25, _)] := hE.sel [1, 3, 5, 6, 7, 14, 25] rfl
    refine hK5 _ _ ?_
    refine wp_cond_true (hE.eval rfl) ?_
    refine wp_seq_k (fun K6 hK6 => ?_)
    refine wp_plain [true, true] rfl rfl ?_
    refine s_assign hE rfl rfl ?_; clear hE a; intro a hE
    refine s_assign hE rfl rfl ?_; clear hE a; intro a hE
    refine q_nil ?_
    refine hK6 _ _ ?_
    refine wp_ret ?_
    refine q_then_r ?_
    refine post_M (f_ret2 hE rfl rfl rfl ?_)
    replace hM := hM.addNil 1
    replace hM := hM.ownEq (m' := ([] : List Nat).length) (cs' := ([] : List Nat).flatMap intC) rfl rfl
    exact ⟨_, (by first | rfl | (simp; done)), hM.pick [0] rfl⟩
  · replace hE := hE'; clear hE'
    replace hb17 := of_decide_eq_false hb17
    refine g_yes hE rfl rfl ?_
    refine s_move hE rfl rfl ?_; clear hE a; intro a hE
    refine g_yes hE rfl rfl ?_
    refine s_load1 hE rfl (hM.get 1 rfl) rfl one29 (by intro X h; cases h) rfl ?_; clear hE a; intro a hE
    refine g_yes hE rfl rfl ?_
    refine s_nilCheck hE rfl rfl ?_; clear hE a; intro a hE
    refine g_yes hE rfl rfl ?_
    refine s_fieldAddr hE rfl fo73_1 rfl ?_; clear hE a; intro a hE
    refine g_yes hE rfl rfl ?_
    refine s_load1 hE rfl (blkR_blk (hM.get 2 rfl)) rfl one3 (by intro X h; cases h) rfl ?_; clear hE a; intro a hE
    refine g_yes hE rfl rfl ?_
    refine s_bin hE rfl rfl (bin_one_shl (by omega)) rfl ?_; clear hE a; intro a hE
    refine g_yes hE rfl rfl ?_
    refine s_bin hE rfl rfl bin_geq rfl ?_; clear hE a; intro a hE
    refine s_pickf hE rfl rfl rfl ?_; clear hE a; intro a hE
    refine q_nil ?_
    replace hE : Env a 82 [(1, _), (3, _), (5, _), (6, _), (7, _), (14, _), (25, _)] := hE.sel [1, 3, 5, 6, 7, 14, 25] rfl
    refine hK5 _ _ ?_
    replace hE := hE.cast 25 rfl (show _ = Value.bool true from (congrArg Value.bool (decide_eq_true (by omega))))
    refine wp_cond_true (hE.eval rfl) ?_
    refine wp_seq_k (fun K6 hK6 => ?_)
    refine wp_plain [true, true] rfl rfl ?_
    refine s_assign hE rfl rfl ?_; clear hE a; intro a hE
    refine s_assign hE rfl rfl ?_; clear hE a; intro a hE
    refine q_nil ?_
    refine hK6 _ _ ?_
    refine wp_ret ?_
    refine q_then_r ?_
    refine post_M (f_ret2 hE rfl rfl rfl ?_)
    replace hM := hM.addNil 1
    replace hM := hM.ownEq (m' := ([] : List Nat).length) (cs' := ([] : List Nat).flatMap intC) rfl rfl
    exact ⟨_, (by first | rfl | (simp; done)), hM.pick [0] rfl⟩
theorem tsetI_c (b h : Nat) (k tg : List UInt8) (v : Value) (lv : List (List UInt8)) (z : Int) (w : World) (hG : (glb 0).holds w) (hB : (blk b [bv k, [.int .i64 (h : Int)], [v]] [32, 1, 1] 73).holds w) (hS : (own v 32 (allT k (2 ^ h) lv).length ((allT k (2 ^ h) lv).flatMap bv)).holds w) (hap : ∀ x, x ∈ valBlocks v → x ∉ [b]) (hag : ∀ x, x ∈ valBlocks v → x ∉ (glb 0).ro) (hl_k : k.length = 32) (ho_lv : ∀ x, x ∈ lv → x.length = 32) (hh : 1 ≤ h ∧ h ≤ 12) (hn : lv.length = 2 ^ h) (hl_tg : tg.length = 32) :
    Calls Tryd.prog 11 #[.pointer (some ⟨b, 0, none⟩), .int .i64 z, .agg (bv tg).toArray] w fun e w' => ∃ u, e = .returned (.tuple #[u, .int .i64 ((eZ 0 (2 ^ h) z : Nat) : Int)]) ∧ Mem w (valBlocks v) w' [own u 1 (chgZ k h lv z tg).length ((chgZ k h lv z tg).flatMap intC), own v 32 (allT k (2 ^ h) (lvZ lv h z tg)).length ((allT k (2 ^ h) (lvZ lv h z tg)).flatMap bv)] := by
  by_cases hz : inN 0 (2 ^ h) z
  · obtain ⟨q, rfl⟩ : ∃ q : Nat, z = (q : Int) := ⟨z.toNat, by omega⟩
    have hq : q < 2 ^ h := by omega
    have he := setT_all (k := k) (t := tg) hn hq
    rw [chgZ_in hz, lvZ_in hz, eZ_in hz, ← he.2.1, ← he.1]
    exact tset_c b h q k tg v _ w hG hB hS hap hag hl_k (OkTs.all ho_lv) hh (allT_len (by omega)) hl_tg hq
  · rw [chgZ_out hz, lvZ_out hz, eZ_out hz]
    obtain ⟨c, hc⟩ := own_rd hS
    refine Calls.mono (tset_no b h k v _ c z tg w hB hc hl_tg hl_k (OkTs.all ho_lv) hh (allT_len (by omega)) hz) fun e w' he => ?_
    obtain ⟨u, h1, h2⟩ := he
    exact ⟨u, h1, Mem.keepO h2 rfl hS rfl⟩
theorem tnew_c (k : List UInt8) (h : Nat) (v : Value) (ls : List (List UInt8)) (c : Nat) (w : World) (hG : (glb 0).holds w) (hr_ls : (rd v 32 ls.length c (ls.flatMap bv)).holds w) (hl_k : k.length = 32) (ho_ls : ∀ x, x ∈ ls → x.length = 32) (hh : 1 ≤ h ∧ h ≤ 12) (hls : ls.length ≤ 2 ^ h) : Calls Tryd.prog 10 #[.agg (bv k).toArray, .int .i64 (h : Int), v] w fun e w' => ∃ b u, e = .returned (.tuple #[.pointer (some ⟨b, 0, none⟩), .int .i64 0]) ∧ Mem w [] w' [blk b [bv k, [.int .i64 (h : Int)], [u]] [32, 1, 1] 73, own u 32 (allT k (2 ^ h) (padL (2 ^ h) ls)).length ((allT k (2 ^ h) (padL (2 ^ h) ls)).flatMap bv)] := by
  have hM : Mem w [] w [glb 0, rd v 32 ls.length c (ls.flatMap bv)] := Mem.startR2 hG hr_ls rfl rfl
  have hpw := two_pow_le hh
  have hpw1 := hpw.1
  have hpw2 := hpw.2
  have hbl := base_length hls
  refine f_enter 59 Tryd.func10 rfl rfl rfl ?_
  intro a hE
  replace hE : Env a 59 [(0, _), (1, _), (2, _)] := hE
  refine wp_seq_k (fun K1 hK1 => ?_)
  refine wp_plain [false, true, true] rfl rfl ?_
  refine s_box (ss := [bv k]) [32] hE hM rfl (by simp [Value.cells]) (by simp [*]) rfl ?_; clear hE a; intro a b3 w1 hE hM'
  clear hM; have hM := hM'; clear hM'
  refine s_assign hE rfl rfl ?_; clear hE a; intro a hE
  refine s_assign hE rfl rfl ?_; clear hE a; intro a hE
  refine q_nil ?_
  replace hE : Env a 59 [(1, _), (2, _), (3, _), (6, _), (7, _)] := hE.sel [1, 2, 3, 6, 7] rfl
  refine hK1 _ _ ?_
  refine wp_seq_k (fun K2 hK2 => ?_)
  refine wp_seq_k (fun K3 hK3 => ?_)
  refine wp_plain [true, true, true, true, true, true, true, true, true, true, true, true, true] rfl rfl ?_
  refine s_move hE rfl rfl ?_; clear hE a; intro a hE
  refine s_bin hE rfl rfl bin_lss rfl ?_; clear hE a; intro a hE
  refine s_move hE rfl rfl ?_; clear hE a; intro a hE
  replace hE := hE.cast 12 rfl (show _ = Value.bool false from (congrArg Value.bool (decide_eq_false (by omega))))
  refine g_yes hE rfl rfl ?_
  refine s_move hE rfl rfl ?_; clear hE a; intro a hE
  refine g_yes hE rfl rfl ?_
  refine s_bin hE rfl rfl bin_gtr rfl ?_; clear hE a; intro a hE
  refine s_pickf hE rfl rfl rfl ?_; clear hE a; intro a hE
  refine s_move hE rfl rfl ?_; clear hE a; intro a hE
  replace hE := hE.cast 16 rfl (show _ = Value.bool false from (congrArg Value.bool (decide_eq_false (by omega))))
  refine g_yes hE rfl rfl ?_
  refine s_move hE rfl rfl ?_; clear hE a; intro a hE
  refine g_yes hE rfl rfl ?_
  refine s_len hE rfl Tryd.underlying24 (rd_slice (hM.get 2 rfl)) rfl ?_; clear hE a; intro a hE
  refine g_yes hE rfl rfl ?_
  refine s_move hE rfl rfl ?_; clear hE a; intro a hE
  refine g_yes hE rfl rfl ?_
  refine s_bin hE rfl rfl (bin_one_shl (by omega)) rfl ?_; clear hE a; intro a hE
  refine g_yes hE rfl rfl ?_
  refine s_bin hE rfl rfl bin_gtr rfl ?_; clear hE a; intro a hE
  refine s_pickf hE rfl rfl rfl ?_; clear hE a; intro a hE
  refine q_nil ?_
  replace hE : Env a 59 [(1, _), (2, _), (3, _), (6, _), (7, _), (22, _)] := hE.sel [1, 2, 3, 6, 7, 22] rfl
  refine hK3 _ _ ?_
  replace hE := hE.cast 22 rfl (show _ = Value.bool false from (congrArg Value.bool (decide_eq_false (by omega))))
  refine wp_cond_false (hE.eval rfl) ?_
  refine wp_skip ?_
  refine hK2 _ _ ?_
  refine wp_seq_k (fun K4 hK4 => ?_)
  refine wp_drawnM hM (by kernel_rfl) (fun _ => False) [(0, true), (1, true), (2, true), (3, true), (4, false), (5, true), (6, false), (7, true)] [(4, [(5, 4), (6, 5), (7, 4)]), (6, [(7, 6)])] (by kernel_rfl) rfl ?_
  intro w2 hM' hww2; clear hM; have hM := hM'; clear hM'
  refine s_loadN hE rfl (hM.get 0 rfl) row23 rfl (by intro X h; cases h; simp) rfl ?_; clear hE a; intro a hE
  refine s_move hE rfl rfl ?_; clear hE a; intro a hE
  refine s_move hE rfl rfl ?_; clear hE a; intro a hE
  refine s_bin hE rfl rfl (bin_shl1 (c := 2) rfl (by omega) (by decide)) rfl ?_; clear hE a; intro a hE
  refine s_makeSlice (m := 2 * 2 ^ h) (zc := bv zTg) hE rfl rfl hM sl24 ⟨.agg ([bv (List.replicate 32 0)] : List (List Value)).flatten.toArray, by kernel_rfl, rfl⟩ rfl rfl (by first | decide | omega) (by first | decide | omega) (by decide) rfl ?_; clear hE a; intro a v27 w3 hE hM'; clear hM; have hM := hM'; clear hM'
  replace hM := hM.ownEq (m' := (List.replicate (2 * 2 ^ h) zTg).length) (cs' := (List.replicate (2 * 2 ^ h) zTg).flatMap bv) List.length_replicate.symm (rep_flat rfl)
  have hbq58_0 : k.length = 32 := hl_k
  refine s_buildS [bv k, [.int .i64 ((h : Nat) : Int)], [v27]] hE rfl zero73 rfl fpl73 (by have ho := (own_one (hM.get 0 rfl)).1; simp only [Value.cells] at ho; simp [PartsOk, Value.cells, *]) rfl ?_; clear hE a; intro a hE
  replace hE := hE.cast 28 rfl (show _ = Value.agg ([bv k, [.int .i64 ((h : Nat) : Int)], [v27]] : List (List Value)).flatten.toArray from (by first | rfl | simp [setAll]))
  refine s_box (ss := [bv k, [.int .i64 ((h : Nat) : Int)], [v27]]) [32, 1, 1] hE hM rfl rfl (by simp [*]) rfl ?_; clear hE a; intro a b29 w4 hE hM'
  clear hM; have hM := hM'; clear hM'
  refine s_assign hE rfl rfl ?_; clear hE a; intro a hE
  refine q_nil ?_
  replace hE : Env a 59 [(1, _), (2, _), (3, _), (6, _), (7, _), (8, _), (22, _)] := hE.sel [1, 2, 3, 6, 7, 8, 22] rfl
  refine hK4 _ _ ?_
  refine wp_seq_k (fun K5 hK5 => ?_)
  refine wp_treeM hM (by kernel_rfl) (fun _ => True) (fun _ => True) (.re [(0, true), (1, true), (2, true), (4, true), (5, true), (7, true), (3, true), (6, true), (8, false)] (.fl 6 (.weak (.fl 2 (.cut (.or 8 (.cut (.re [] (.weak (.leaf 0)))) (.stop))))))) [(0, true), (1, true), (2, true), (4, true), (5, true), (7, true), (3, true), (6, true), (8, false)] [(1, [(2, 1), (3, 2), (6, 3), (8, 6)]), (2, [(3, 2), (6, 3), (8, 6)]), (3, [(6, 3), (8, 6)]), (5, [(6, 5), (8, 6)]), (6, [(8, 6)]), (8, [])] (by kernel_rfl) ?_
  intro w5 hM' hww5; clear hM; have hM := hM'; clear hM'
  refine o_re ?_
  refine o_fl rfl ?_
  refine s_move hE rfl rfl ?_; clear hE a; intro a hE
  refine s_nilCheck hE rfl rfl ?_; clear hE a; intro a hE
  refine s_fieldAddr hE rfl fo73_2 rfl ?_; clear hE a; intro a hE
  refine s_move hE rfl rfl ?_; clear hE a; intro a hE
  refine s_bin hE rfl rfl (bin_one_shl (by omega)) rfl ?_; clear hE a; intro a hE
  refine s_move hE rfl rfl ?_; clear hE a; intro a hE
  refine q_nil (q_nx ?_)
  refine o_weak (fun _ => False) (fun _ _ => trivial) ?_
  refine o_fl rfl ?_
  refine s_load1 hE rfl (hM.get 0 rfl) rfl one24 (by intro X h; cases h; simp) rfl ?_; clear hE a; intro a hE
  refine s_tailRows (j := 2 ^ h) hE rfl (hM.get 1 rfl) slt24 ⟨_, rfl⟩ (by simp only [List.length_replicate]; omega) rfl ?_; clear hE a; intro a hE
  refine q_nil (q_nx ?_)
  refine o_cut (fun b => b ∈ valBlocks v27) ?_
  refine o_or rfl ?_ ?_
  · replace hM : Mem _ _ w5 [_, _, _, _, _] := hM.pick [1, 0, 2, 3, 4] rfl
    refine s_copyRows (j := 2 ^ h) (q := ls.length) hE rfl rfl hM (hM.get 4 rfl) (by simp only [List.length_replicate]; omega) (by simp only [List.length_replicate]; omega) (bvs_one _) sl24 (by intro X h; cases h; exact fun _ hb => hb) rfl ?_; clear hE a; intro a w6 hE hM'; clear hM; have hM := hM'; clear hM'
    replace hM := Mem.rowsPut (src := ls) (ls := List.replicate (2 * 2 ^ h) zTg) (j := 2 ^ h) hM rfl (ok_rep zTg_len) ho_ls (by simp only [List.length_replicate]; omega)
    replace hM := Mem.ownRowsEq (f := bv) (ls := putR (List.replicate (2 * 2 ^ h) zTg) (2 ^ h) ls) (ms := base (2 ^ h) ls) hM (putR_base hls)
    refine q_nil (q_nx ?_)
    refine o_cut (fun _ => True) ?_
    refine o_re ?_
    refine o_weak (fun _ => False) (fun _ _ => trivial) ?_
    refine o_leaf rfl rfl ?_
    refine q_nil (q_ph (q_nil ?_))
    replace hE : Env a 59 [(1, _), (2, _), (3, _), (6, _), (7, _), (8, _), (22, _)] := hE.sel [1, 2, 3, 6, 7, 8, 22] rfl
    refine hK5 _ _ ?_
    refine wp_seq_k (fun K6 hK6 => ?_)
    refine wp_seq_k (fun K7 hK7 => ?_)
    refine wp_plain [true, true, true, true] rfl rfl ?_
    refine s_move hE rfl rfl ?_; clear hE a; intro a hE
    refine s_bin hE rfl rfl (bin_one_shl (by omega)) rfl ?_; clear hE a; intro a hE
    refine s_bin hE rfl rfl (show Bin _ _ _ _ _ (.int .i64 (((2 ^ h) - 1 : Nat) : Int)) from bin_sub (by rw [wrap_i64 (by omega) (by omega)]; omega)) rfl ?_; clear hE a; intro a hE
    refine s_assign hE rfl rfl ?_; clear hE a; intro a hE
    refine q_nil ?_
    replace hE : Env a 59 [(1, _), (2, _), (3, _), (6, _), (7, _), (8, _), (9, _), (22, _)] := hE.sel [1, 2, 3, 6, 7, 8, 9, 22] rfl
    refine hK7 _ _ ?_
    refine wp_block ?_
    replace hM := Mem.ownRowsEq (f := bv) (ls := base (2 ^ h) ls) (ms := bld k (2 ^ h) (base (2 ^ h) ls) 0) hM rfl
    replace hE := hE.cast 9 rfl (show _ = Value.int .i64 ((2 ^ h - 1 - 0 : Nat) : Int) from (by first | rfl | simp))
    refine c_loop (fun (i : Nat) a w' => i ≤ 2 ^ h - 1 ∧ Env a 59 [(1, .int .i64 ((h : Nat) : Int)), (2, v), (3, .pointer (some ⟨b3, 0, none⟩)), (6, .pointer none), (7, .int .i64 0), (8, .pointer (some ⟨b29, 0, none⟩)), (9, .int .i64 ((2 ^ h - 1 - i : Nat) : Int)), (22, .bool false)] ∧ Mem w [] w' [own v27 32 ((bld k (2 ^ h) (base (2 ^ h) ls) i).length) ((bld k (2 ^ h) (base (2 ^ h) ls) i).flatMap bv), blk b29 [bv k, [.int .i64 ((h : Nat) : Int)], [v27]] [32, 1, 1] 73, blk b3 [bv k] [32] 23, glb 0, rd v 32 ls.length c (ls.flatMap bv)]) (fun i => 2 ^ h - 1 - i) 0 ⟨Nat.zero_le _, hE.sel [1, 2, 3, 6, 7, 8, 9, 22] rfl, hM⟩ ?_
    clear hE hM a; rintro i a w7 ⟨hi, hE, hM⟩
    refine wp_seq_k (fun K8 hK8 => ?_)
    refine wp_seq_k (fun K9 hK9 => ?_)
    refine wp_plain [true, true] rfl rfl ?_
    refine s_move hE rfl rfl ?_; clear hE a; intro a hE
    refine s_bin hE rfl rfl bin_geq rfl ?_; clear hE a; intro a hE
    refine q_nil ?_
    replace hE : Env a 59 [(1, _), (2, _), (3, _), (6, _), (7, _), (8, _), (9, _), (22, _), (43, _)] := hE.sel [1, 2, 3, 6, 7, 8, 9, 22, 43] rfl
    refine hK9 _ _ ?_
    refine hE.split 43 rfl (fun hb43 hE' => ?_) (fun hb43 hE' => ?_)
    · replace hE := hE'; clear hE'
      replace hb43 := of_decide_eq_true hb43
      replace hb43 : 1 ≤ (2 ^ h - 1 - i) := by omega
      replace hb43 : i < 2 ^ h - 1 := by omega
      refine wp_cond_true (hE.eval rfl) ?_
      refine wp_skip ?_
      refine hK8 _ _ ?_
      refine wp_seq_k (fun K10 hK10 => ?_)
      refine wp_block ?_
      refine wp_treeM hM (by kernel_rfl) (fun _ => True) (fun _ => True) (.re [(0, true), (1, true), (2, true), (4, true), (6, true), (7, true), (8, true), (3, true), (5, true), (9, false), (10, false), (11, true), (12, false)] (.fl 7 (.weak (.fl 2 (.or 9 (.re [(10, false), (11, true), (12, false)] (.fl 0 (.fl 0 (.or 10 (.cut (.re [(11, true), (12, false)] (.fl 1 (.fl 0 (.weak (.or 12 (.cut (.re [] (.weak (.leaf 0)))) (.stop))))))) (.stop))))) (.stop)))))) [(0, true), (1, true), (2, true), (4, true), (6, true), (7, true), (8, true), (3, true), (5, true), (9, false), (10, false), (11, true), (12, false)] [(1, [(2, 1), (3, 2), (11, 1), (12, 1)]), (2, [(3, 2), (11, 2), (12, 2)]), (3, [(11, 3), (12, 3)]), (5, [(10, 5), (11, 5), (12, 5)]), (9, [(10, 9), (11, 9), (12, 9)]), (10, [(11, 10), (12, 10)]), (11, [(12, 11)]), (12, [])] (by kernel_rfl) ?_
      intro w8 hM' hww8; clear hM; have hM := hM'; clear hM'
      refine o_re ?_
      refine o_fl rfl ?_
      refine s_move hE rfl rfl ?_; clear hE a; intro a hE
      refine s_nilCheck hE rfl rfl ?_; clear hE a; intro a hE
      refine s_fieldAddr hE rfl fo73_2 rfl ?_; clear hE a; intro a hE
      refine s_move hE rfl rfl ?_; clear hE a; intro a hE
      refine s_move hE rfl rfl ?_; clear hE a; intro a hE
      refine s_move hE rfl rfl ?_; clear hE a; intro a hE
      refine s_move hE rfl rfl ?_; clear hE a; intro a hE
      refine q_nil (q_nx ?_)
      refine o_weak (fun _ => False) (fun _ _ => trivial) ?_
      refine o_fl rfl ?_
      refine s_load1 hE rfl (hM.get 1 rfl) rfl one24 (by intro X h; cases h; simp) rfl ?_; clear hE a; intro a hE
      refine s_loadN hE rfl (hM.get 2 rfl) row23 rfl (by intro X h; cases h; simp) rfl ?_; clear hE a; intro a hE
      refine q_nil (q_nx ?_)
      refine o_or rfl ?_ ?_
      · obtain ⟨cs55, hs55⟩ := own_rd (hM.get 0 rfl)
        refine s_call hE rfl Tryd.call29 (tsector_c b29 h k v27 (bld k (2 ^ h) (base (2 ^ h) ls) i) cs55 (2 ^ h - 1 - i) _ (hM.get 1 rfl) hs55 hl_k (OkTs.bld (OkTs.base ho_ls) _) hh (by simp only [bld_length, hbl]) (by omega)) rfl ?_
        rintro e w9 ⟨rfl, hN⟩
        refine ⟨_, rfl, hN.sta0 _, ?_⟩; clear hE a; intro a hE
        replace hM : Mem _ _ w9 [_, _, _, _, _] := hM.call0 hN trivial; clear hN
        refine q_nil (q_nx ?_)
        refine o_re ?_
        refine o_fl rfl ?_
        refine q_nil (q_nx ?_)
        refine o_fl rfl ?_
        refine q_nil (q_nx ?_)
        refine o_or rfl ?_ ?_
        · refine s_call hE rfl Tryd.call17 (tnode_c k ((2 ^ h - 1 - i : Nat) : Int) (secA (bld k (2 ^ h) (base (2 ^ h) ls) i) (2 ^ h - 1 - i)) _ (hM.get 3 rfl) hl_k (secA_len (OkTs.bld (OkTs.base ho_ls) _) (2 ^ h - 1 - i))) rfl ?_
          rintro e w10 ⟨rfl, hN⟩
          refine ⟨_, rfl, hN.sta0 _, ?_⟩; clear hE a; intro a hE
          replace hM : Mem _ _ w10 [_, _, _, _, _] := hM.call0 hN trivial; clear hN
          replace hE := hE.cast 56 rfl (show _ = Value.agg (bv (nd k (2 ^ h - 1 - i) (secA (bld k (2 ^ h) (base (2 ^ h) ls) i) (2 ^ h - 1 - i)))).toArray from rfl)
          refine q_nil (q_nx ?_)
          refine o_cut (fun _ => True) ?_
          refine o_re ?_
          refine o_fl rfl ?_
          have hlj57 : 2 ^ h - 1 - i < (bld k (2 ^ h) (base (2 ^ h) ls) i).length := (by simp only [bld_length, hbl]; omega)
          refine s_indexOwn (j := 2 ^ h - 1 - i) hE rfl (hM.get 0 rfl) rfl slt24 (by first | rfl | omega) hlj57 rfl ?_; clear hE a; intro a hE hc57
          refine q_nil (q_nx ?_)
          refine o_fl rfl ?_
          refine q_nil (q_nx ?_)
          refine o_weak (fun b => b ∈ valBlocks v27) (fun _ _ => trivial) ?_
          refine o_or rfl ?_ ?_
          · have hls57 : (nd k (2 ^ h - 1 - i) (secA (bld k (2 ^ h) (base (2 ^ h) ls) i) (2 ^ h - 1 - i))).length = 32 := (nd_len ..)
            refine s_storeOwn (vs := bv (nd k (2 ^ h - 1 - i) (secA (bld k (2 ^ h) (base (2 ^ h) ls) i) (2 ^ h - 1 - i)))) hE rfl rfl hM rfl sz34 ((bv_length _).trans hls57) (bv_one _) (by rw [bv_length, hls57]; have := hlj57; omega) (by have := hlj57; omega) (by intro X h; cases h; exact fun _ hb => hb) ?_; intro w11 hM'; clear hM; have hM := hM'; clear hM'
            replace hM := Mem.rowPut (ls := bld k (2 ^ h) (base (2 ^ h) ls) i) (x := nd k (2 ^ h - 1 - i) (secA (bld k (2 ^ h) (base (2 ^ h) ls) i) (2 ^ h - 1 - i))) (j := 2 ^ h - 1 - i) hM rfl (OkTs.bld (OkTs.base ho_ls) _) hls57 hlj57
            refine q_nil (q_nx ?_)
            refine o_cut (fun _ => True) ?_
            refine o_re ?_
            refine o_weak (fun _ => False) (fun _ _ => trivial) ?_
            refine o_leaf rfl rfl ?_
            refine q_nil (q_ph (q_nil ?_))
            replace hE : Env a 59 [(1, _), (2, _), (3, _), (6, _), (7, _), (8, _), (9, _), (22, _), (43, _)] := hE.sel [1, 2, 3, 6, 7, 8, 9, 22, 43] rfl
            refine q_block_n ?_
            refine hK10 _ _ ?_
            refine wp_plain [true, true, true] rfl rfl ?_
            refine s_move hE rfl rfl ?_; clear hE a; intro a hE
            refine s_bin hE rfl rfl (show Bin _ _ _ _ _ (.int .i64 (((2 ^ h - 1 - i) - 1 : Nat) : Int)) from bin_sub (by rw [wrap_i64 (by omega) (by omega)]; omega)) rfl ?_; clear hE a; intro a hE
            refine s_assign hE rfl rfl ?_; clear hE a; intro a hE
            refine q_nil ?_
            replace hE : Env a 59 [(1, _), (2, _), (3, _), (6, _), (7, _), (8, _), (9, _), (22, _), (43, _)] := hE.sel [1, 2, 3, 6, 7, 8, 9, 22, 43] rfl
            replace hE := hE.cast 9 rfl (show _ = Value.int .i64 ((2 ^ h - 1 - (i + 1) : Nat) : Int) from (congrArg _ (by omega)))
            replace hM := Mem.ownRowsEq (f := bv) (ls := (bld k (2 ^ h) (base (2 ^ h) ls) i).set (2 ^ h - 1 - i) (nd k (2 ^ h - 1 - i) (secA (bld k (2 ^ h) (base (2 ^ h) ls) i) (2 ^ h - 1 - i)))) (ms := bld k (2 ^ h) (base (2 ^ h) ls) (i + 1)) hM (by simp only [bld, stepB])
            replace hM : Mem _ _ w11 [_, _, _, _, _] := hM.pick [0, 1, 2, 3, 4] rfl
            exact ⟨i + 1, ⟨by omega, hE.sel [1, 2, 3, 6, 7, 8, 9, 22] rfl, hM⟩, by omega⟩
          trivial
        trivial
      trivial
    · replace hE := hE'; clear hE'
      replace hb43 := of_decide_eq_false hb43
      replace hb43 : ¬ (1 ≤ (2 ^ h - 1 - i)) := by omega
      obtain rfl : 2 ^ h - 1 = i := by omega
      refine wp_cond_false (hE.eval rfl) ?_
      refine wp_exit ?_
      refine q_then_e ?_
      refine q_then_e ?_
      refine q_block_x ?_
      refine hK6 _ _ ?_
      refine wp_seq_k (fun K10 hK10 => ?_)
      refine wp_plain [true, true, true] rfl rfl ?_
      refine s_move hE rfl rfl ?_; clear hE a; intro a hE
      refine s_assign hE rfl rfl ?_; clear hE a; intro a hE
      refine s_assign hE rfl rfl ?_; clear hE a; intro a hE
      refine q_nil ?_
      replace hE : Env a 59 [(1, _), (2, _), (3, _), (6, _), (7, _), (8, _), (9, _), (22, _), (43, _)] := hE.sel [1, 2, 3, 6, 7, 8, 9, 22, 43] rfl
      refine hK10 _ _ ?_
      refine wp_ret ?_
      refine f_ret2 hE rfl rfl rfl ?_
      replace hM := Mem.ownRowsEq (f := bv) (ls := bld k (2 ^ h) (base (2 ^ h) ls) (2 ^ h - 1)) (ms := allT k (2 ^ h) (padL (2 ^ h) ls)) hM ((allT_pad hls).symm)
      exact ⟨_, _, rfl, hM.pick [1, 0] rfl⟩
  trivial
theorem tnew_no1 (k : List UInt8) (y : Int) (v : Value) (ls : List (List UInt8)) (c : Nat) (w : World) (hl_k : k.length = 32) (hr_ls : (rd v 32 ls.length c (ls.flatMap bv)).holds w) (ho_ls : ∀ x, x ∈ ls → x.length = 32) (hh : ¬ (1 ≤ y ∧ y ≤ 12)) : Calls Tryd.prog 10 #[.agg (bv k).toArray, .int .i64 y, v] w fun e w' => e = .returned (.tuple #[.pointer none, .int .i64 2]) ∧ Mem w [] w' [] := by
  have hM : Mem w [] w [rd v 32 ls.length c (ls.flatMap bv)] := Mem.startR w (fun g hg => by
    simp only [List.mem_cons, List.not_mem_nil, or_false] at hg
    rcases hg with rfl
    · exact ⟨hr_ls, rfl⟩)
  refine f_enter 59 Tryd.func10 rfl rfl rfl ?_
  intro a hE
  replace hE : Env a 59 [(0, _), (1, _), (2, _)] := hE
  refine wp_seq_k (fun K1 hK1 => ?_)
  refine wp_plain [false, true, true] rfl rfl ?_
  refine s_box (ss := [bv k]) [32] hE hM rfl (by simp [Value.cells]) (by simp [*]) rfl ?_; clear hE a; intro a b3 w1 hE hM'
  clear hM; have hM := hM'; clear hM'
  refine s_assign hE rfl rfl ?_; clear hE a; intro a hE
  refine s_assign hE rfl rfl ?_; clear hE a; intro a hE
  refine q_nil ?_
  replace hE : Env a 59 [(1, _), (2, _), (3, _), (6, _), (7, _)] := hE.sel [1, 2, 3, 6, 7] rfl
  refine hK1 _ _ ?_
  refine wp_seq_k (fun K2 hK2 => ?_)
  refine wp_seq_k (fun K3 hK3 => ?_)
  refine wp_plain [true, true, true, true, true, true, true, true, true, true, true, true, true] rfl rfl ?_
  refine s_move hE rfl rfl ?_; clear hE a; intro a hE
  refine s_bin hE rfl rfl bin_lss rfl ?_; clear hE a; intro a hE
  refine s_move hE rfl rfl ?_; clear hE a; intro a hE
  refine hE.split 12 rfl (fun hb12 hE' => ?_) (fun hb12 hE' => ?_)
  · replace hE := hE'; clear hE'
    replace hb12 := of_decide_eq_true hb12
    refine g_no (b := true) hE rfl rfl rfl ?_; clear hE a; intro a hE
    refine g_no (b := true) hE rfl rfl rfl ?_; clear hE a; intro a hE
    refine s_pickt hE rfl rfl rfl ?_; clear hE a; intro a hE
    refine s_move hE rfl rfl ?_; clear hE a; intro a hE
    refine g_no (b := true) hE rfl rfl rfl ?_; clear hE a; intro a hE
    refine g_no (b := true) hE rfl rfl rfl ?_; clear hE a; intro a hE
    refine g_no (b := true) hE rfl rfl rfl ?_; clear hE a; intro a hE
    refine g_no (b := true) hE rfl rfl rfl ?_; clear hE a; intro a hE
    refine g_no (b := true) hE rfl rfl rfl ?_; clear hE a; intro a hE
    refine s_pickt hE rfl rfl rfl ?_; clear hE a; intro a hE
    refine q_nil ?_
    replace hE : Env a 59 [(1, _), (2, _), (3, _), (6, _), (7, _), (22, _)] := hE.sel [1, 2, 3, 6, 7, 22] rfl
    refine hK3 _ _ ?_
    refine wp_cond_true (hE.eval rfl) ?_
    refine wp_seq_k (fun K4 hK4 => ?_)
    refine wp_plain [true, true] rfl rfl ?_
    refine s_assign hE rfl rfl ?_; clear hE a; intro a hE
    refine s_assign hE rfl rfl ?_; clear hE a; intro a hE
    refine q_nil ?_
    refine hK4 _ _ ?_
    refine wp_ret ?_
    refine q_then_r ?_
    refine f_ret2 hE rfl rfl rfl ?_
    exact ⟨(by first | rfl | (simp; done)), hM.pick [] rfl⟩
  · replace hE := hE'; clear hE'
    replace hb12 := of_decide_eq_false hb12
    refine g_yes hE rfl rfl ?_
    refine s_move hE rfl rfl ?_; clear hE a; intro a hE
    refine g_yes hE rfl rfl ?_
    refine s_bin hE rfl rfl bin_gtr rfl ?_; clear hE a; intro a hE
    refine s_pickf hE rfl rfl rfl ?_; clear hE a; intro a hE
    refine s_move hE rfl rfl ?_; clear hE a; intro a hE
    replace hE := hE.cast 16 rfl (show _ = Value.bool true from (congrArg Value.bool (decide_eq_true (by omega))))
    refine g_no (b := true) hE rfl rfl rfl ?_; clear hE a; intro a hE
    refine g_no (b := true) hE rfl rfl rfl ?_; clear hE a; intro a hE
    refine g_no (b := true) hE rfl rfl rfl ?_; clear hE a; intro a hE
    refine g_no (b := true) hE rfl rfl rfl ?_; clear hE a; intro a hE
    refine g_no (b := true) hE rfl rfl rfl ?_; clear hE a; intro a hE
    refine s_pickt hE rfl rfl rfl ?_; clear hE a; intro a hE
    refine q_nil ?_
    replace hE : Env a 59 [(1, _), (2, _), (3, _), (6, _), (7, _), (22, _)] := hE.sel [1, 2, 3, 6, 7, 22] rfl
    refine hK3 _ _ ?_
    refine wp_cond_true (hE.eval rfl) ?_
    refine wp_seq_k (fun K4 hK4 => ?_)
    refine wp_plain [true, true] rfl rfl ?_
    refine s_assign hE rfl rfl ?_; clear hE a; intro a hE
    refine s_assign hE rfl rfl ?_; clear hE a; intro a hE
    refine q_nil ?_
    refine hK4 _ _ ?_
    refine wp_ret ?_
    refine q_then_r ?_
    refine f_ret2 hE rfl rfl rfl ?_
    exact ⟨(by first | rfl | (simp; done)), hM.pick [] rfl⟩
theorem tnew_no2 (k : List UInt8) (h : Nat) (v : Value) (ls : List (List UInt8)) (c : Nat) (w : World) (hl_k : k.length = 32) (hr_ls : (rd v 32 ls.length c (ls.flatMap bv)).holds w) (ho_ls : ∀ x, x ∈ ls → x.length = 32) (hh : 1 ≤ h ∧ h ≤ 12) (hz : ¬ ls.length ≤ 2 ^ h) : Calls Tryd.prog 10 #[.agg (bv k).toArray, .int .i64 (h : Int), v] w fun e w' => e = .returned (.tuple #[.pointer none, .int .i64 2]) ∧ Mem w [] w' [] := by
  have hpw := two_pow_le hh
  have hpw1 := hpw.1
  have hpw2 := hpw.2
  have hM : Mem w [] w [rd v 32 ls.length c (ls.flatMap bv)] := Mem.startR w (fun g hg => by
    simp only [List.mem_cons, List.not_mem_nil, or_false] at hg
    rcases hg with rfl
    · exact ⟨hr_ls, rfl⟩)
  refine f_enter 59 Tryd.func10 rfl rfl rfl ?_
  intro a hE
  replace hE : Env a 59 [(0, _), (1, _), (2, _)] := hE
  refine wp_seq_k (fun K1 hK1 => ?_)
  refine wp_plain [false, true, true] rfl rfl ?_
  refine s_box (ss := [bv k]) [32] hE hM rfl (by simp [Value.cells]) (by simp [*]) rfl ?_; clear hE a; intro a b3 w1 hE hM'
  clear hM; have hM := hM'; clear hM'
  refine s_assign hE rfl rfl ?_; clear hE a; intro a hE
  refine s_assign hE rfl rfl ?_; clear hE a; intro a hE
  refine q_nil ?_
  replace hE : Env a 59 [(1, _), (2, _), (3, _), (6, _), (7, _)] := hE.sel [1, 2, 3, 6, 7] rfl
  refine hK1 _ _ ?_
  refine wp_seq_k (fun K2 hK2 => ?_)
  refine wp_seq_k (fun K3 hK3 => ?_)
  refine wp_plain [true, true, true, true, true, true, true, true, true, true, true, true, true] rfl rfl ?_
  refine s_move hE rfl rfl ?_; clear hE a; intro a hE
  refine s_bin hE rfl rfl bin_lss rfl ?_; clear hE a; intro a hE
  refine s_move hE rfl rfl ?_; clear hE a; intro a hE
  replace hE := hE.cast 12 rfl (show _ = Value.bool false from (congrArg Value.bool (decide_eq_false (by omega))))
  refine g_yes hE rfl rfl ?_
  refine s_move hE rfl rfl ?_; clear hE a; intro a hE
  refine g_yes hE rfl rfl ?_
  refine s_bin hE rfl rfl bin_gtr rfl ?_; clear hE a; intro a hE
  refine s_pickf hE rfl rfl rfl ?_; clear hE a; intro a hE
  refine s_move hE rfl rfl ?_; clear hE a; intro a hE
  replace hE := hE.cast 16 rfl (show _ = Value.bool false from (congrArg Value.bool (decide_eq_false (by omega))))
  refine g_yes hE rfl rfl ?_
  refine s_move hE rfl rfl ?_; clear hE a; intro a hE
  refine g_yes hE rfl rfl ?_
  refine s_len hE rfl Tryd.underlying24 (rd_slice (hM.get 1 rfl)) rfl ?_; clear hE a; intro a hE
  refine g_yes hE rfl rfl ?_
  refine s_move hE rfl rfl ?_; clear hE a; intro a hE
  refine g_yes hE rfl rfl ?_
  refine s_bin hE rfl rfl (bin_one_shl (by omega)) rfl ?_; clear hE a; intro a hE
  refine g_yes hE rfl rfl ?_
  refine s_bin hE rfl rfl bin_gtr rfl ?_; clear hE a; intro a hE
  refine s_pickf hE rfl rfl rfl ?_; clear hE a; intro a hE
  refine q_nil ?_
  replace hE : Env a 59 [(1, _), (2, _), (3, _), (6, _), (7, _), (22, _)] := hE.sel [1, 2, 3, 6, 7, 22] rfl
  refine hK3 _ _ ?_
  replace hE := hE.cast 22 rfl (show _ = Value.bool true from (congrArg Value.bool (decide_eq_true (by omega))))
  refine wp_cond_true (hE.eval rfl) ?_
  refine wp_seq_k (fun K4 hK4 => ?_)
  refine wp_plain [true, true] rfl rfl ?_
  refine s_assign hE rfl rfl ?_; clear hE a; intro a hE
  refine s_assign hE rfl rfl ?_; clear hE a; intro a hE
  refine q_nil ?_
  refine hK4 _ _ ?_
  refine wp_ret ?_
  refine q_then_r ?_
  refine f_ret2 hE rfl rfl rfl ?_
  exact ⟨(by first | rfl | (simp; done)), hM.pick [] rfl⟩
theorem tcheck_c (k : List UInt8) (q : Nat) (tg : List UInt8) (v : Value) (ps : List (List UInt8)) (c : Nat) (tp : List UInt8) (w : World) (hG : (glb 0).holds w) (hl_k : k.length = 32) (hl_tg : tg.length = 32) (hr_ps : (rd v 64 ps.length c (ps.flatMap bv)).holds w) (ho_ps : ∀ x, x ∈ ps → x.length = 64) (hl_tp : tp.length = 32) (hh : 1 ≤ ps.length ∧ ps.length ≤ 12) (hq : q < 2 ^ ps.length) : Calls Tryd.prog 16 #[.agg (bv k).toArray, .int .i64 (q : Int), .agg (bv tg).toArray, v, .agg (bv tp).toArray] w fun e w' => e = .returned (.bool (chkT k (2 ^ ps.length + q) tg ps tp)) ∧ Mem w [] w' [] := by
  have hpw := two_pow_le hh
  have hpw1 := hpw.1
  have hpw2 := hpw.2
  have hM : Mem w [] w [rd v 64 ps.length c (ps.flatMap bv), glb 0] := Mem.startR w (fun g hg => by
    simp only [List.mem_cons, List.not_mem_nil, or_false] at hg
    rcases hg with rfl | rfl
    · exact ⟨hr_ps, rfl⟩
    · exact ⟨hG, rfl⟩)
  refine f_enter 78 Tryd.func16 rfl rfl rfl ?_
  intro a hE
  replace hE : Env a 78 [(0, _), (1, _), (2, _), (3, _), (4, _)] := hE
  refine wp_seq_k (fun K1 hK1 => ?_)
  refine wp_plain [false, false, false, true] rfl rfl ?_
  refine s_box (ss := [bv k]) [32] hE hM rfl (by simp [Value.cells]) (by simp [*]) rfl ?_; clear hE a; intro a b5 w1 hE hM'
  clear hM; have hM := hM'; clear hM'
  refine s_box (ss := [bv tg]) [32] hE hM rfl (by simp [Value.cells]) (by simp [*]) rfl ?_; clear hE a; intro a b7 w2 hE hM'
  clear hM; have hM := hM'; clear hM'
  refine s_box (ss := [bv tp]) [32] hE hM rfl (by simp [Value.cells]) (by simp [*]) rfl ?_; clear hE a; intro a b9 w3 hE hM'
  clear hM; have hM := hM'; clear hM'
  refine s_assign hE rfl rfl ?_; clear hE a; intro a hE
  refine q_nil ?_
  replace hE : Env a 78 [(1, _), (3, _), (5, _), (7, _), (9, _), (10, _)] := hE.sel [1, 3, 5, 7, 9, 10] rfl
  refine hK1 _ _ ?_
  refine wp_seq_k (fun K2 hK2 => ?_)
  refine wp_plain [true, true, true] rfl rfl ?_
  refine s_move hE rfl rfl ?_; clear hE a; intro a hE
  refine s_len hE rfl Tryd.underlying44 (rd_slice (hM.get 3 rfl)) rfl ?_; clear hE a; intro a hE
  refine s_assign hE rfl rfl ?_; clear hE a; intro a hE
  refine q_nil ?_
  replace hE : Env a 78 [(1, _), (3, _), (5, _), (7, _), (9, _), (10, _), (11, _)] := hE.sel [1, 3, 5, 7, 9, 10, 11] rfl
  refine hK2 _ _ ?_
  refine wp_seq_k (fun K3 hK3 => ?_)
  refine wp_seq_k (fun K4 hK4 => ?_)
  refine wp_plain [true, true, true, true, true, true, true, true, true, true, true, true, true, true, true, true] rfl rfl ?_
  refine s_move hE rfl rfl ?_; clear hE a; intro a hE
  refine s_bin hE rfl rfl bin_lss rfl ?_; clear hE a; intro a hE
  refine s_move hE rfl rfl ?_; clear hE a; intro a hE
  replace hE := hE.cast 21 rfl (show _ = Value.bool false from (congrArg Value.bool (decide_eq_false (by omega))))
  refine g_yes hE rfl rfl ?_
  refine s_move hE rfl rfl ?_; clear hE a; intro a hE
  refine g_yes hE rfl rfl ?_
  refine s_bin hE rfl rfl bin_gtr rfl ?_; clear hE a; intro a hE
  refine s_pickf hE rfl rfl rfl ?_; clear hE a; intro a hE
  refine s_move hE rfl rfl ?_; clear hE a; intro a hE
  replace hE := hE.cast 25 rfl (show _ = Value.bool false from (congrArg Value.bool (decide_eq_false (by omega))))
  refine g_yes hE rfl rfl ?_
  refine s_move hE rfl rfl ?_; clear hE a; intro a hE
  refine g_yes hE rfl rfl ?_
  refine s_bin hE rfl rfl bin_lss rfl ?_; clear hE a; intro a hE
  refine s_pickf hE rfl rfl rfl ?_; clear hE a; intro a hE
  refine s_move hE rfl rfl ?_; clear hE a; intro a hE
  replace hE := hE.cast 29 rfl (show _ = Value.bool false from (congrArg Value.bool (decide_eq_false (by omega))))
  refine g_yes hE rfl rfl ?_
  refine s_move hE rfl rfl ?_; clear hE a; intro a hE
  refine g_yes hE rfl rfl ?_
  refine s_move hE rfl rfl ?_; clear hE a; intro a hE
  refine g_yes hE rfl rfl ?_
  refine s_bin hE rfl rfl (bin_one_shl (by omega)) rfl ?_; clear hE a; intro a hE
  refine g_yes hE rfl rfl ?_
  refine s_bin hE rfl rfl bin_geq rfl ?_; clear hE a; intro a hE
  refine s_pickf hE rfl rfl rfl ?_; clear hE a; intro a hE
  refine q_nil ?_
  replace hE : Env a 78 [(1, _), (3, _), (5, _), (7, _), (9, _), (10, _), (11, _), (34, _)] := hE.sel [1, 3, 5, 7, 9, 10, 11, 34] rfl
  refine hK4 _ _ ?_
  replace hE := hE.cast 34 rfl (show _ = Value.bool false from (congrArg Value.bool (decide_eq_false (by omega))))
  refine wp_cond_false (hE.eval rfl) ?_
  refine wp_skip ?_
  refine hK3 _ _ ?_
  refine wp_seq_k (fun K5 hK5 => ?_)
  refine wp_plain [true, true, true, true, true] rfl rfl ?_
  refine s_move hE rfl rfl ?_; clear hE a; intro a hE
  refine s_bin hE rfl rfl (bin_one_shl (by omega)) rfl ?_; clear hE a; intro a hE
  refine s_move hE rfl rfl ?_; clear hE a; intro a hE
  refine s_bin hE rfl rfl (show Bin _ _ _ _ _ (.int .i64 (((2 ^ ps.length) + q : Nat) : Int)) from bin_add (by rw [wrap_i64 (by omega) (by omega)]; omega)) rfl ?_; clear hE a; intro a hE
  refine s_assign hE rfl rfl ?_; clear hE a; intro a hE
  refine q_nil ?_
  replace hE : Env a 78 [(1, _), (3, _), (5, _), (7, _), (9, _), (10, _), (11, _), (12, _), (34, _)] := hE.sel [1, 3, 5, 7, 9, 10, 11, 12, 34] rfl
  refine hK5 _ _ ?_
  refine wp_seq_k (fun K6 hK6 => ?_)
  refine wp_seq_k (fun K7 hK7 => ?_)
  refine wp_plain [true, true, true] rfl rfl ?_
  refine s_move hE rfl rfl ?_; clear hE a; intro a hE
  refine s_len hE rfl Tryd.underlying44 (rd_slice (hM.get 3 rfl)) rfl ?_; clear hE a; intro a hE
  refine s_move hE rfl rfl ?_; clear hE a; intro a hE
  refine q_nil ?_
  refine hK7 _ _ ?_
  refine wp_block ?_
  replace hM : Mem _ _ w3 [_, _, _, _, _] := hM.pick [1, 0, 2, 3, 4] rfl
  replace hM := Mem.blkEq (ss := [bv tg]) (ss' := [bv (tgI k (2 ^ ps.length + q) tg ps 0)]) hM rfl
  replace hM : Mem _ _ w3 [_, _, _, _, _] := hM.pick [1, 0, 2, 3, 4] rfl
  replace hE := hE.cast 12 rfl (show _ = Value.int .i64 (((2 ^ ps.length + q) / 2 ^ 0 : Nat) : Int) from (by rw [Nat.pow_zero, Nat.div_one]))
  refine c_loop (fun (i : Nat) a w' => i ≤ ps.length ∧ (∀ j, j < i → mtI k (2 ^ ps.length + q) tg ps j = true) ∧ Env a 78 [(1, .int .i64 ((q : Nat) : Int)), (3, v), (5, .pointer (some ⟨b5, 0, none⟩)), (7, .pointer (some ⟨b7, 0, none⟩)), (9, .pointer (some ⟨b9, 0, none⟩)), (10, .bool false), (11, .int .i64 ((ps.length : Nat) : Int)), (12, .int .i64 (((2 ^ ps.length + q) / 2 ^ i : Nat) : Int)), (34, .bool false), (39, v), (40, .int .i64 ((ps.length : Nat) : Int)), (41, .int .i64 ((i : Nat) : Int))] ∧ Mem w [] w' [blk b9 [bv tp] [32] 34, blk b7 [bv (tgI k (2 ^ ps.length + q) tg ps i)] [32] 34, blk b5 [bv k] [32] 23, rd v 64 ps.length c (ps.flatMap bv), glb 0]) (fun i => ps.length - i) 0 ⟨Nat.zero_le _, (fun j hj => absurd hj (by omega)), hE.sel [1, 3, 5, 7, 9, 10, 11, 12, 34, 39, 40, 41] rfl, hM⟩ ?_
  clear hE hM a; rintro i a w4 ⟨hi, hpre, hE, hM⟩
  refine wp_seq_k (fun K8 hK8 => ?_)
  refine wp_plain [true] rfl rfl ?_
  refine s_bin hE rfl rfl bin_lss rfl ?_; clear hE a; intro a hE
  refine q_nil ?_
  refine hK8 _ _ ?_
  refine wp_seq_k (fun K9 hK9 => ?_)
  refine hE.split 42 rfl (fun hb42 hE' => ?_) (fun hb42 hE' => ?_)
  · replace hE := hE'; clear hE'
    replace hb42 := of_decide_eq_true hb42
    replace hb42 : i < ps.length := by omega
    replace hb42 : i < ps.length := by omega
    have hdl : (2 ^ ps.length + q) / 2 ^ i ≤ (2 ^ ps.length + q) := Nat.div_le_self _ _
    have hdz : (0 : Int) ≤ (((2 ^ ps.length + q) / 2 ^ i : Nat) : Int) := Int.natCast_nonneg _
    refine wp_cond_true (hE.eval rfl) ?_
    refine wp_skip ?_
    refine hK9 _ _ ?_
    refine wp_seq_k (fun K10 hK10 => ?_)
    refine wp_block ?_
    refine wp_seq_k (fun K11 hK11 => ?_)
    refine wp_plain [true, true, false, false] rfl rfl ?_
    refine s_indexRd (j := i) hE rfl (hM.get 3 rfl) rfl slt44 (by first | rfl | omega) (by first | omega | (simp; omega) | (simp [*]; omega)) rfl ?_; clear hE a; intro a p43 hE hc43 hp43
    have hlj43 : i < ps.length := (by first | omega | (simp; omega))
    have hok43 := ho_ps _ (getD_mem (d := zSc) hlj43)
    rw [flat_elem (d := zSc) (fun x hx => ((bv_length _).trans (ho_ps x hx))) hlj43] at hc43
    refine s_loadAtN hE rfl hc43 (by rw [((bv_length _).trans hok43)]; exact row52) (by intro X h; cases h) rfl ?_; clear hE a; intro a hE
    replace hE := hE.cast 44 rfl (show _ = Value.agg (bv (ps.getD i zSc)).toArray from rfl)
    refine s_alloc [64] hE hM zero52 rfl rfl ?_; clear hE a; intro a b14 w5 hE hM'
    clear hM; have hM := hM'; clear hM'
    refine s_storeSeg 0 hE rfl rfl hM rfl sz52 ((bv_length _).trans hok43) (bv_one _) rfl ((bv_length _).trans (by first | (simp; done) | (simp [*]; done) | (simp; omega))) rfl (by intro X h; cases h) ?_; intro w6 hM'; clear hM; have hM := hM'; clear hM'
    simp only [List.set_cons_zero, List.set_cons_succ] at hM
    refine q_nil ?_
    replace hE : Env a 78 [(1, _), (3, _), (5, _), (7, _), (9, _), (10, _), (11, _), (12, _), (14, _), (34, _), (39, _), (40, _), (41, _), (42, _)] := hE.sel [1, 3, 5, 7, 9, 10, 11, 12, 14, 34, 39, 40, 41, 42] rfl
    refine hK11 _ _ ?_
    refine wp_seq_k (fun K12 hK12 => ?_)
    refine wp_plain [true, false, true, true, true, false, false, false, false] rfl rfl ?_
    refine s_loadN hE rfl (hM.get 0 rfl) row52 rfl (by intro X h; cases h) rfl ?_; clear hE a; intro a hE
    refine s_call hE rfl Tryd.call33 (bsplit_c (ps.getD i zSc) _ hok43) rfl ?_
    rintro e w7 ⟨rfl, hN⟩
    refine ⟨_, rfl, trivial, ?_⟩; clear hE a; intro a hE
    replace hM : Mem _ _ w7 [_, _, _, _, _, _] := hM.call0 hN trivial; clear hN
    refine s_move hE rfl rfl ?_; clear hE a; intro a hE
    refine s_extract hE rfl rfl rfl ?_; clear hE a; intro a hE
    refine s_extract hE rfl rfl rfl ?_; clear hE a; intro a hE
    refine s_alloc [32] hE hM zero34 rfl rfl ?_; clear hE a; intro a b15 w8 hE hM'
    clear hM; have hM := hM'; clear hM'
    refine s_alloc [32] hE hM zero34 rfl rfl ?_; clear hE a; intro a b16 w9 hE hM'
    clear hM; have hM := hM'; clear hM'
    replace hM : Mem _ _ w9 [_, _, _, _, _, _, _, _] := hM.pick [1, 0, 2, 3, 4, 5, 6, 7] rfl
    refine s_storeSeg 0 hE rfl rfl hM rfl sz34 ((bv_length _).trans (by have hl_x : (ps.getD i zSc).length = 64 := hok43; simp [*])) (bv_one _) rfl ((bv_length _).trans (by first | (simp; done) | (simp [*]; done) | (simp; omega))) rfl (by intro X h; cases h) ?_; intro w10 hM'; clear hM; have hM := hM'; clear hM'
    simp only [List.set_cons_zero, List.set_cons_succ] at hM
    replace hM : Mem _ _ w10 [_, _, _, _, _, _, _, _] := hM.pick [1, 0, 2, 3, 4, 5, 6, 7] rfl
    refine s_storeSeg 0 hE rfl rfl hM rfl sz34 ((bv_length _).trans (by have hl_x : (ps.getD i zSc).length = 64 := hok43; simp [*])) (bv_one _) rfl ((bv_length _).trans (by first | (simp; done) | (simp [*]; done) | (simp; omega))) rfl (by intro X h; cases h) ?_; intro w11 hM'; clear hM; have hM := hM'; clear hM'
    simp only [List.set_cons_zero, List.set_cons_succ] at hM
    refine q_nil ?_
    replace hE : Env a 78 [(1, _), (3, _), (5, _), (7, _), (9, _), (10, _), (11, _), (12, _), (14, _), (15, _), (16, _), (34, _), (39, _), (40, _), (41, _), (42, _)] := hE.sel [1, 3, 5, 7, 9, 10, 11, 12, 14, 15, 16, 34, 39, 40, 41, 42] rfl
    refine hK12 _ _ ?_
    refine wp_seq_k (fun K13 hK13 => ?_)
    refine wp_seq_k (fun K14 hK14 => ?_)
    refine wp_plain [true, true, true, true, true, true, true, true, true, true, true, true, true, true, true, true, true, true] rfl rfl ?_
    refine s_move hE rfl rfl ?_; clear hE a; intro a hE
    refine s_bin hE rfl rfl (bin_rem_nat (m := ((2 ^ ps.length + q) / 2 ^ i)) (s := 2) (by decide)) rfl ?_; clear hE a; intro a hE
    refine s_bin hE rfl rfl bin_eql rfl ?_; clear hE a; intro a hE
    refine s_move hE rfl rfl ?_; clear hE a; intro a hE
    refine hE.split 53 rfl (fun hb53 hE' => ?_) (fun hb53 hE' => ?_)
    · replace hE := hE'; clear hE'
      replace hb53 := of_decide_eq_true hb53
      replace hb53 : (((2 ^ ps.length + q) / 2 ^ i) % 2) = 0 := by omega
      have hev : (2 ^ ps.length + q) / 2 ^ i % 2 = 0 := by omega
      refine g_yes hE rfl rfl ?_
      refine s_loadN hE rfl (hM.get 1 rfl) row34 rfl (by intro X h; cases h) rfl ?_; clear hE a; intro a hE
      refine g_yes hE rfl rfl ?_
      refine s_loadN hE rfl (hM.get 4 rfl) row34 rfl (by intro X h; cases h) rfl ?_; clear hE a; intro a hE
      refine g_yes hE rfl rfl ?_
      refine s_bin hE rfl rfl (eqa34 (by have hl_x : (ps.getD i zSc).length = 64 := hok43; simp [*]) (tgI_len hl_tg _)).2 rfl ?_; clear hE a; intro a hE
      refine s_pickt hE rfl rfl rfl ?_; clear hE a; intro a hE
      refine s_move hE rfl rfl ?_; clear hE a; intro a hE
      refine hE.split 58 rfl (fun hb58 hE' => ?_) (fun hb58 hE' => ?_)
      · replace hE := hE'; clear hE'
        replace hb58 := of_decide_eq_false (not_true hb58)
        have hne : mtI k (2 ^ ps.length + q) tg ps i = false := by rw [mt_even hev]; exact decide_eq_false (fun e => hb58 e)
        refine g_no (b := true) hE rfl rfl rfl ?_; clear hE a; intro a hE
        refine g_no (b := true) hE rfl rfl rfl ?_; clear hE a; intro a hE
        refine g_no (b := true) hE rfl rfl rfl ?_; clear hE a; intro a hE
        refine g_no (b := true) hE rfl rfl rfl ?_; clear hE a; intro a hE
        refine g_und hE rfl rfl rfl ?_; clear hE a; intro a hE
        refine g_und hE rfl rfl rfl ?_; clear hE a; intro a hE
        refine g_und hE rfl rfl rfl ?_; clear hE a; intro a hE
        refine g_no (b := true) hE rfl rfl rfl ?_; clear hE a; intro a hE
        refine s_pickt hE rfl rfl rfl ?_; clear hE a; intro a hE
        refine q_nil ?_
        replace hE : Env a 78 [(1, _), (3, _), (5, _), (7, _), (9, _), (10, _), (11, _), (12, _), (14, _), (15, _), (16, _), (34, _), (39, _), (40, _), (41, _), (42, _), (67, _)] := hE.sel [1, 3, 5, 7, 9, 10, 11, 12, 14, 15, 16, 34, 39, 40, 41, 42, 67] rfl
        refine hK14 _ _ ?_
        refine wp_cond_true (hE.eval rfl) ?_
        refine wp_seq_k (fun K15 hK15 => ?_)
        refine wp_plain [true] rfl rfl ?_
        refine s_assign hE rfl rfl ?_; clear hE a; intro a hE
        refine q_nil ?_
        refine hK15 _ _ ?_
        refine wp_ret ?_
        refine q_then_r ?_
        refine q_block_r ?_
        refine q_then_r ?_
        refine q_then_r ?_
        refine q_block_r ?_
        refine q_then_r ?_
        refine f_ret1 hE rfl rfl ?_
        exact ⟨(by rw [chkT_no (by assumption) hne]), hM.pick [] rfl⟩
      · replace hE := hE'; clear hE'
        replace hb58 := of_decide_eq_true (not_false' hb58)
        have hyes : mtI k (2 ^ ps.length + q) tg ps i = true := by rw [mt_even hev]; exact decide_eq_true hb58
        refine g_yes hE rfl rfl ?_
        refine s_move hE rfl rfl ?_; clear hE a; intro a hE
        refine g_yes hE rfl rfl ?_
        refine s_bin hE rfl rfl (bin_rem_nat (m := ((2 ^ ps.length + q) / 2 ^ i)) (s := 2) (by decide)) rfl ?_; clear hE a; intro a hE
        refine g_yes hE rfl rfl ?_
        refine s_bin hE rfl rfl bin_eql rfl ?_; clear hE a; intro a hE
        refine g_yes hE rfl rfl ?_
        refine s_move hE rfl rfl ?_; clear hE a; intro a hE
        replace hE := hE.cast 62 rfl (show _ = Value.bool false from (congrArg Value.bool (decide_eq_false (by omega))))
        refine g_no (b := false) hE rfl rfl rfl ?_; clear hE a; intro a hE
        refine g_no (b := false) hE rfl rfl rfl ?_; clear hE a; intro a hE
        refine g_no (b := false) hE rfl rfl rfl ?_; clear hE a; intro a hE
        refine g_yes hE rfl rfl ?_
        refine s_pickf hE rfl rfl rfl ?_; clear hE a; intro a hE
        refine s_pickf hE rfl rfl rfl ?_; clear hE a; intro a hE
        refine q_nil ?_
        replace hE : Env a 78 [(1, _), (3, _), (5, _), (7, _), (9, _), (10, _), (11, _), (12, _), (14, _), (15, _), (16, _), (34, _), (39, _), (40, _), (41, _), (42, _), (67, _)] := hE.sel [1, 3, 5, 7, 9, 10, 11, 12, 14, 15, 16, 34, 39, 40, 41, 42, 67] rfl
        refine hK14 _ _ ?_
        refine wp_cond_false (hE.eval rfl) ?_
        refine wp_skip ?_
        refine hK13 _ _ ?_
        refine wp_seq_k (fun K15 hK15 => ?_)
        refine wp_plain [true, true, true] rfl rfl ?_
        refine s_move hE rfl rfl ?_; clear hE a; intro a hE
        refine s_bin hE rfl rfl (bin_quo_nat (m := ((2 ^ ps.length + q) / 2 ^ i)) (s := 2) (by decide) (wrap_i64 (by omega) (by omega))) rfl ?_; clear hE a; intro a hE
        refine s_assign hE rfl rfl ?_; clear hE a; intro a hE
        refine q_nil ?_
        replace hE : Env a 78 [(1, _), (3, _), (5, _), (7, _), (9, _), (10, _), (11, _), (12, _), (14, _), (15, _), (16, _), (34, _), (39, _), (40, _), (41, _), (42, _), (67, _)] := hE.sel [1, 3, 5, 7, 9, 10, 11, 12, 14, 15, 16, 34, 39, 40, 41, 42, 67] rfl
        refine hK15 _ _ ?_
        refine wp_plain [true, true, true, false, false] rfl rfl ?_
        refine s_loadN hE rfl (hM.get 5 rfl) row23 rfl (by intro X h; cases h) rfl ?_; clear hE a; intro a hE
        refine s_move hE rfl rfl ?_; clear hE a; intro a hE
        refine s_loadN hE rfl (hM.get 2 rfl) row52 rfl (by intro X h; cases h) rfl ?_; clear hE a; intro a hE
        refine s_call hE rfl Tryd.call17 (tnode_c k ((((2 ^ ps.length + q) / 2 ^ i) / 2 : Nat) : Int) (ps.getD i zSc) _ (hM.get 7 rfl) hl_k hok43) rfl ?_
        rintro e w12 ⟨rfl, hN⟩
        refine ⟨_, rfl, trivial, ?_⟩; clear hE a; intro a hE
        replace hM : Mem _ _ w12 [_, _, _, _, _, _, _, _] := hM.call0 hN trivial; clear hN
        replace hE := hE.cast 73 rfl (show _ = Value.agg (bv (nd k (((2 ^ ps.length + q) / 2 ^ i) / 2) (ps.getD i zSc))).toArray from rfl)
        replace hM : Mem _ _ w12 [_, _, _, _, _, _, _, _] := hM.pick [4, 0, 1, 2, 3, 5, 6, 7] rfl
        refine s_storeSeg 0 hE rfl rfl hM rfl sz34 ((bv_length _).trans (nd_len ..)) (bv_one _) rfl ((bv_length _).trans (tgI_len hl_tg _)) rfl (by intro X h; cases h) ?_; intro w13 hM'; clear hM; have hM := hM'; clear hM'
        simp only [List.set_cons_zero, List.set_cons_succ] at hM
        refine q_nil ?_
        replace hE : Env a 78 [(1, _), (3, _), (5, _), (7, _), (9, _), (10, _), (11, _), (12, _), (14, _), (15, _), (16, _), (34, _), (39, _), (40, _), (41, _), (42, _), (67, _)] := hE.sel [1, 3, 5, 7, 9, 10, 11, 12, 14, 15, 16, 34, 39, 40, 41, 42, 67] rfl
        refine q_block_n ?_
        refine hK10 _ _ ?_
        refine wp_plain [true, true] rfl rfl ?_
        refine s_bin hE rfl rfl (show Bin _ _ _ _ _ (.int .i64 ((i + 1 : Nat) : Int)) from bin_add (by rw [wrap_i64 (by omega) (by omega)]; omega)) rfl ?_; clear hE a; intro a hE
        refine s_move hE rfl rfl ?_; clear hE a; intro a hE
        refine q_nil ?_
        replace hE : Env a 78 [(1, _), (3, _), (5, _), (7, _), (9, _), (10, _), (11, _), (12, _), (14, _), (15, _), (16, _), (34, _), (39, _), (40, _), (41, _), (42, _), (67, _)] := hE.sel [1, 3, 5, 7, 9, 10, 11, 12, 14, 15, 16, 34, 39, 40, 41, 42, 67] rfl
        replace hE := hE.cast 12 rfl (show _ = Value.int .i64 (((2 ^ ps.length + q) / 2 ^ (i + 1) : Nat) : Int) from (by rw [div_step]))
        replace hE := hE.cast 41 rfl (show _ = Value.int .i64 (((i + 1) : Nat) : Int) from (congrArg _ (by omega)))
        replace hM := Mem.blkEq (ss := [bv (nd k (((2 ^ ps.length + q) / 2 ^ i) / 2) (ps.getD i zSc))]) (ss' := [bv (tgI k (2 ^ ps.length + q) tg ps (i + 1))]) hM (by simp only [tgI, div_step]; rfl)
        replace hM : Mem _ _ w13 [_, _, _, _, _] := hM.pick [0, 4, 5, 6, 7] rfl
        replace hM : Mem _ _ w13 [_, _, _, _, _] := hM.pick [1, 0, 2, 3, 4] rfl
        exact ⟨i + 1, ⟨by omega, mt_snoc hpre hyes, hE.sel [1, 3, 5, 7, 9, 10, 11, 12, 34, 39, 40, 41] rfl, hM⟩, by omega⟩
    · replace hE := hE'; clear hE'
      replace hb53 := of_decide_eq_false hb53
      replace hb53 : ¬ ((((2 ^ ps.length + q) / 2 ^ i) % 2) = 0) := by omega
      have hev : ¬ (2 ^ ps.length + q) / 2 ^ i % 2 = 0 := by omega
      refine g_no (b := false) hE rfl rfl rfl ?_; clear hE a; intro a hE
      refine g_no (b := false) hE rfl rfl rfl ?_; clear hE a; intro a hE
      refine g_no (b := false) hE rfl rfl rfl ?_; clear hE a; intro a hE
      refine s_pickf hE rfl rfl rfl ?_; clear hE a; intro a hE
      refine s_move hE rfl rfl ?_; clear hE a; intro a hE
      refine g_yes hE rfl rfl ?_
      refine s_move hE rfl rfl ?_; clear hE a; intro a hE
      refine g_yes hE rfl rfl ?_
      refine s_bin hE rfl rfl (bin_rem_nat (m := ((2 ^ ps.length + q) / 2 ^ i)) (s := 2) (by decide)) rfl ?_; clear hE a; intro a hE
      refine g_yes hE rfl rfl ?_
      refine s_bin hE rfl rfl bin_eql rfl ?_; clear hE a; intro a hE
      refine g_yes hE rfl rfl ?_
      refine s_move hE rfl rfl ?_; clear hE a; intro a hE
      replace hE := hE.cast 62 rfl (show _ = Value.bool true from (congrArg Value.bool (decide_eq_true (by omega))))
      refine g_yes hE rfl rfl ?_
      refine s_loadN hE rfl (hM.get 0 rfl) row34 rfl (by intro X h; cases h) rfl ?_; clear hE a; intro a hE
      refine g_yes hE rfl rfl ?_
      refine s_loadN hE rfl (hM.get 4 rfl) row34 rfl (by intro X h; cases h) rfl ?_; clear hE a; intro a hE
      refine g_yes hE rfl rfl ?_
      refine s_bin hE rfl rfl (eqa34 (by have hl_x : (ps.getD i zSc).length = 64 := hok43; simp [*]) (tgI_len hl_tg _)).2 rfl ?_; clear hE a; intro a hE
      refine g_yes hE rfl rfl ?_
      refine s_pickt hE rfl rfl rfl ?_; clear hE a; intro a hE
      refine s_pickf hE rfl rfl rfl ?_; clear hE a; intro a hE
      refine q_nil ?_
      replace hE : Env a 78 [(1, _), (3, _), (5, _), (7, _), (9, _), (10, _), (11, _), (12, _), (14, _), (15, _), (16, _), (34, _), (39, _), (40, _), (41, _), (42, _), (67, _)] := hE.sel [1, 3, 5, 7, 9, 10, 11, 12, 14, 15, 16, 34, 39, 40, 41, 42, 67] rfl
      refine hK14 _ _ ?_
      refine hE.split 67 rfl (fun hb67 hE' => ?_) (fun hb67 hE' => ?_)
      · replace hE := hE'; clear hE'
        replace hb67 := of_decide_eq_false (not_true hb67)
        have hne : mtI k (2 ^ ps.length + q) tg ps i = false := by rw [mt_odd hev]; exact decide_eq_false (fun e => hb67 e)
        refine wp_cond_true (hE.eval rfl) ?_
        refine wp_seq_k (fun K15 hK15 => ?_)
        refine wp_plain [true] rfl rfl ?_
        refine s_assign hE rfl rfl ?_; clear hE a; intro a hE
        refine q_nil ?_
        refine hK15 _ _ ?_
        refine wp_ret ?_
        refine q_then_r ?_
        refine q_block_r ?_
        refine q_then_r ?_
        refine q_then_r ?_
        refine q_block_r ?_
        refine q_then_r ?_
        refine f_ret1 hE rfl rfl ?_
        exact ⟨(by rw [chkT_no (by assumption) hne]), hM.pick [] rfl⟩
      · replace hE := hE'; clear hE'
        replace hb67 := of_decide_eq_true (not_false' hb67)
        have hyes : mtI k (2 ^ ps.length + q) tg ps i = true := by rw [mt_odd hev]; exact decide_eq_true hb67
        refine wp_cond_false (hE.eval rfl) ?_
        refine wp_skip ?_
        refine hK13 _ _ ?_
        refine wp_seq_k (fun K15 hK15 => ?_)
        refine wp_plain [true, true, true] rfl rfl ?_
        refine s_move hE rfl rfl ?_; clear hE a; intro a hE
        refine s_bin hE rfl rfl (bin_quo_nat (m := ((2 ^ ps.length + q) / 2 ^ i)) (s := 2) (by decide) (wrap_i64 (by omega) (by omega))) rfl ?_; clear hE a; intro a hE
        refine s_assign hE rfl rfl ?_; clear hE a; intro a hE
        refine q_nil ?_
        replace hE : Env a 78 [(1, _), (3, _), (5, _), (7, _), (9, _), (10, _), (11, _), (12, _), (14, _), (15, _), (16, _), (34, _), (39, _), (40, _), (41, _), (42, _), (67, _)] := hE.sel [1, 3, 5, 7, 9, 10, 11, 12, 14, 15, 16, 34, 39, 40, 41, 42, 67] rfl
        refine hK15 _ _ ?_
        refine wp_plain [true, true, true, false, false] rfl rfl ?_
        refine s_loadN hE rfl (hM.get 5 rfl) row23 rfl (by intro X h; cases h) rfl ?_; clear hE a; intro a hE
        refine s_move hE rfl rfl ?_; clear hE a; intro a hE
        refine s_loadN hE rfl (hM.get 2 rfl) row52 rfl (by intro X h; cases h) rfl ?_; clear hE a; intro a hE
        refine s_call hE rfl Tryd.call17 (tnode_c k ((((2 ^ ps.length + q) / 2 ^ i) / 2 : Nat) : Int) (ps.getD i zSc) _ (hM.get 7 rfl) hl_k hok43) rfl ?_
        rintro e w12 ⟨rfl, hN⟩
        refine ⟨_, rfl, trivial, ?_⟩; clear hE a; intro a hE
        replace hM : Mem _ _ w12 [_, _, _, _, _, _, _, _] := hM.call0 hN trivial; clear hN
        replace hE := hE.cast 73 rfl (show _ = Value.agg (bv (nd k (((2 ^ ps.length + q) / 2 ^ i) / 2) (ps.getD i zSc))).toArray from rfl)
        replace hM : Mem _ _ w12 [_, _, _, _, _, _, _, _] := hM.pick [4, 0, 1, 2, 3, 5, 6, 7] rfl
        refine s_storeSeg 0 hE rfl rfl hM rfl sz34 ((bv_length _).trans (nd_len ..)) (bv_one _) rfl ((bv_length _).trans (tgI_len hl_tg _)) rfl (by intro X h; cases h) ?_; intro w13 hM'; clear hM; have hM := hM'; clear hM'
        simp only [List.set_cons_zero, List.set_cons_succ] at hM
        refine q_nil ?_
        replace hE : Env a 78 [(1, _), (3, _), (5, _), (7, _), (9, _), (10, _), (11, _), (12, _), (14, _), (15, _), (16, _), (34, _), (39, _), (40, _), (41, _), (42, _), (67, _)] := hE.sel [1, 3, 5, 7, 9, 10, 11, 12, 14, 15, 16, 34, 39, 40, 41, 42, 67] rfl
        refine q_block_n ?_
        refine hK10 _ _ ?_
        refine wp_plain [true, true] rfl rfl ?_
        refine s_bin hE rfl rfl (show Bin _ _ _ _ _ (.int .i64 ((i + 1 : Nat) : Int)) from bin_add (by rw [wrap_i64 (by omega) (by omega)]; omega)) rfl ?_; clear hE a; intro a hE
        refine s_move hE rfl rfl ?_; clear hE a; intro a hE
        refine q_nil ?_
        replace hE : Env a 78 [(1, _), (3, _), (5, _), (7, _), (9, _), (10, _), (11, _), (12, _), (14, _), (15, _), (16, _), (34, _), (39, _), (40, _), (41, _), (42, _), (67, _)] := hE.sel [1, 3, 5, 7, 9, 10, 11, 12, 14, 15, 16, 34, 39, 40, 41, 42, 67] rfl
        replace hE := hE.cast 12 rfl (show _ = Value.int .i64 (((2 ^ ps.length + q) / 2 ^ (i + 1) : Nat) : Int) from (by rw [div_step]))
        replace hE := hE.cast 41 rfl (show _ = Value.int .i64 (((i + 1) : Nat) : Int) from (congrArg _ (by omega)))
        replace hM := Mem.blkEq (ss := [bv (nd k (((2 ^ ps.length + q) / 2 ^ i) / 2) (ps.getD i zSc))]) (ss' := [bv (tgI k (2 ^ ps.length + q) tg ps (i + 1))]) hM (by simp only [tgI, div_step]; rfl)
        replace hM : Mem _ _ w13 [_, _, _, _, _] := hM.pick [0, 4, 5, 6, 7] rfl
        replace hM : Mem _ _ w13 [_, _, _, _, _] := hM.pick [1, 0, 2, 3, 4] rfl
        exact ⟨i + 1, ⟨by omega, mt_snoc hpre hyes, hE.sel [1, 3, 5, 7, 9, 10, 11, 12, 34, 39, 40, 41] rfl, hM⟩, by omega⟩
  · replace hE := hE'; clear hE'
    replace hb42 := of_decide_eq_false hb42
    replace hb42 : ¬ (i < ps.length) := by omega
    have hie : i = ps.length := by omega
    refine wp_cond_false (hE.eval rfl) ?_
    refine wp_exit ?_
    refine q_then_e ?_
    refine q_then_e ?_
    refine q_block_x ?_
    refine hK6 _ _ ?_
    refine wp_seq_k (fun K10 hK10 => ?_)
    refine wp_plain [true, true, true, true] rfl rfl ?_
    refine s_loadN hE rfl (hM.get 1 rfl) row34 rfl (by intro X h; cases h) rfl ?_; clear hE a; intro a hE
    refine s_loadN hE rfl (hM.get 0 rfl) row34 rfl (by intro X h; cases h) rfl ?_; clear hE a; intro a hE
    refine s_bin hE rfl rfl (eqa34 (tgI_len hl_tg _) hl_tp).1 rfl ?_; clear hE a; intro a hE
    refine s_assign hE rfl rfl ?_; clear hE a; intro a hE
    refine q_nil ?_
    replace hE : Env a 78 [(1, _), (3, _), (5, _), (7, _), (10, _), (11, _), (12, _), (34, _), (39, _), (40, _), (41, _), (42, _)] := hE.sel [1, 3, 5, 7, 10, 11, 12, 34, 39, 40, 41, 42] rfl
    refine hK10 _ _ ?_
    refine wp_ret ?_
    refine f_ret1 hE rfl rfl ?_
    exact ⟨(by rw [chkT_yes (fun j hj => hpre j (by omega)), hie]), hM.pick [] rfl⟩
theorem tcheck_no1 (k : List UInt8) (z : Int) (tg : List UInt8) (v : Value) (ps : List (List UInt8)) (c : Nat) (tp : List UInt8) (w : World) (hl_k : k.length = 32) (hl_tg : tg.length = 32) (hr_ps : (rd v 64 ps.length c (ps.flatMap bv)).holds w) (ho_ps : ∀ x, x ∈ ps → x.length = 64) (hl_tp : tp.length = 32) (hh : ¬ (1 ≤ ps.length ∧ ps.length ≤ 12)) : Calls Tryd.prog 16 #[.agg (bv k).toArray, .int .i64 z, .agg (bv tg).toArray, v, .agg (bv tp).toArray] w fun e w' => e = .returned (.bool false) ∧ Mem w [] w' [] := by
  have hM : Mem w [] w [rd v 64 ps.length c (ps.flatMap bv)] := Mem.startR w (fun g hg => by
    simp only [List.mem_cons, List.not_mem_nil, or_false] at hg
    rcases hg with rfl
    · exact ⟨hr_ps, rfl⟩)
  refine f_enter 78 Tryd.func16 rfl rfl rfl ?_
  intro a hE
  replace hE : Env a 78 [(0, _), (1, _), (2, _), (3, _), (4, _)] := hE
  refine wp_seq_k (fun K1 hK1 => ?_)
  refine wp_plain [false, false, false, true] rfl rfl ?_
  refine s_box (ss := [bv k]) [32] hE hM rfl (by simp [Value.cells]) (by simp [*]) rfl ?_; clear hE a; intro a b5 w1 hE hM'
  clear hM; have hM := hM'; clear hM'
  refine s_box (ss := [bv tg]) [32] hE hM rfl (by simp [Value.cells]) (by simp [*]) rfl ?_; clear hE a; intro a b7 w2 hE hM'
  clear hM; have hM := hM'; clear hM'
  refine s_box (ss := [bv tp]) [32] hE hM rfl (by simp [Value.cells]) (by simp [*]) rfl ?_; clear hE a; intro a b9 w3 hE hM'
  clear hM; have hM := hM'; clear hM'
  refine s_assign hE rfl rfl ?_; clear hE a; intro a hE
  refine q_nil ?_
  replace hE : Env a 78 [(1, _), (3, _), (5, _), (7, _), (9, _), (10, _)] := hE.sel [1, 3, 5, 7, 9, 10] rfl
  refine hK1 _ _ ?_
  refine wp_seq_k (fun K2 hK2 => ?_)
  refine wp_plain [true, true, true] rfl rfl ?_
  refine s_move hE rfl rfl ?_; clear hE a; intro a hE
  refine s_len hE rfl Tryd.underlying44 (rd_slice (hM.get 3 rfl)) rfl ?_; clear hE a; intro a hE
  refine s_assign hE rfl rfl ?_; clear hE a; intro a hE
  refine q_nil ?_
  replace hE : Env a 78 [(1, _), (3, _), (5, _), (7, _), (9, _), (10, _), (11, _)] := hE.sel [1, 3, 5, 7, 9, 10, 11] rfl
  refine hK2 _ _ ?_
  refine wp_seq_k (fun K3 hK3 => ?_)
  refine wp_seq_k (fun K4 hK4 => ?_)
  refine wp_plain [true, true, true, true, true, true, true, true, true, true, true, true, true, true, true, true] rfl rfl ?_
  refine s_move hE rfl rfl ?_; clear hE a; intro a hE
  refine s_bin hE rfl rfl bin_lss rfl ?_; clear hE a; intro a hE
  refine s_move hE rfl rfl ?_; clear hE a; intro a hE
  refine hE.split 21 rfl (fun hb21 hE' => ?_) (fun hb21 hE' => ?_)
  · replace hE := hE'; clear hE'
    replace hb21 := of_decide_eq_true hb21
    replace hb21 : ps.length < 1 := by omega
    refine g_no (b := true) hE rfl rfl rfl ?_; clear hE a; intro a hE
    refine g_no (b := true) hE rfl rfl rfl ?_; clear hE a; intro a hE
    refine s_pickt hE rfl rfl rfl ?_; clear hE a; intro a hE
    refine s_move hE rfl rfl ?_; clear hE a; intro a hE
    refine g_no (b := true) hE rfl rfl rfl ?_; clear hE a; intro a hE
    refine g_no (b := true) hE rfl rfl rfl ?_; clear hE a; intro a hE
    refine s_pickt hE rfl rfl rfl ?_; clear hE a; intro a hE
    refine s_move hE rfl rfl ?_; clear hE a; intro a hE
    refine g_no (b := true) hE rfl rfl rfl ?_; clear hE a; intro a hE
    refine g_no (b := true) hE rfl rfl rfl ?_; clear hE a; intro a hE
    refine g_no (b := true) hE rfl rfl rfl ?_; clear hE a; intro a hE
    refine g_no (b := true) hE rfl rfl rfl ?_; clear hE a; intro a hE
    refine s_pickt hE rfl rfl rfl ?_; clear hE a; intro a hE
    refine q_nil ?_
    replace hE : Env a 78 [(1, _), (3, _), (5, _), (7, _), (9, _), (10, _), (11, _), (34, _)] := hE.sel [1, 3, 5, 7, 9, 10, 11, 34] rfl
    refine hK4 _ _ ?_
    refine wp_cond_true (hE.eval rfl) ?_
    refine wp_seq_k (fun K5 hK5 => ?_)
    refine wp_plain [true] rfl rfl ?_
    refine s_assign hE rfl rfl ?_; clear hE a; intro a hE
    refine q_nil ?_
    refine hK5 _ _ ?_
    refine wp_ret ?_
    refine q_then_r ?_
    refine f_ret1 hE rfl rfl ?_
    exact ⟨(by first | rfl | (simp; done)), hM.pick [] rfl⟩
  · replace hE := hE'; clear hE'
    replace hb21 := of_decide_eq_false hb21
    replace hb21 : ¬ (ps.length < 1) := by omega
    refine g_yes hE rfl rfl ?_
    refine s_move hE rfl rfl ?_; clear hE a; intro a hE
    refine g_yes hE rfl rfl ?_
    refine s_bin hE rfl rfl bin_gtr rfl ?_; clear hE a; intro a hE
    refine s_pickf hE rfl rfl rfl ?_; clear hE a; intro a hE
    refine s_move hE rfl rfl ?_; clear hE a; intro a hE
    replace hE := hE.cast 25 rfl (show _ = Value.bool true from (congrArg Value.bool (decide_eq_true (by omega))))
    refine g_no (b := true) hE rfl rfl rfl ?_; clear hE a; intro a hE
    refine g_no (b := true) hE rfl rfl rfl ?_; clear hE a; intro a hE
    refine s_pickt hE rfl rfl rfl ?_; clear hE a; intro a hE
    refine s_move hE rfl rfl ?_; clear hE a; intro a hE
    refine g_no (b := true) hE rfl rfl rfl ?_; clear hE a; intro a hE
    refine g_no (b := true) hE rfl rfl rfl ?_; clear hE a; intro a hE
    refine g_no (b := true) hE rfl rfl rfl ?_; clear hE a; intro a hE
    refine g_no (b := true) hE rfl rfl rfl ?_; clear hE a; intro a hE
    refine s_pickt hE rfl rfl rfl ?_; clear hE a; intro a hE
    refine q_nil ?_
    replace hE : Env a 78 [(1, _), (3, _), (5, _), (7, _), (9, _), (10, _), (11, _), (34, _)] := hE.sel [1, 3, 5, 7, 9, 10, 11, 34] rfl
    refine hK4 _ _ ?_
    refine wp_cond_true (hE.eval rfl) ?_
    refine wp_seq_k (fun K5 hK5 => ?_)
    refine wp_plain [true] rfl rfl ?_
    refine s_assign hE rfl rfl ?_; clear hE a; intro a hE
    refine q_nil ?_
    refine hK5 _ _ ?_
    refine wp_ret ?_
    refine q_then_r ?_
    refine f_ret1 hE rfl rfl ?_
    exact ⟨(by first | rfl | (simp; done)), hM.pick [] rfl⟩
theorem tcheck_no2 (k : List UInt8) (z : Int) (tg : List UInt8) (v : Value) (ps : List (List UInt8)) (c : Nat) (tp : List UInt8) (w : World) (hl_k : k.length = 32) (hl_tg : tg.length = 32) (hr_ps : (rd v 64 ps.length c (ps.flatMap bv)).holds w) (ho_ps : ∀ x, x ∈ ps → x.length = 64) (hl_tp : tp.length = 32) (hh : 1 ≤ ps.length ∧ ps.length ≤ 12) (hz : ¬ inN 0 (2 ^ ps.length) z) : Calls Tryd.prog 16 #[.agg (bv k).toArray, .int .i64 z, .agg (bv tg).toArray, v, .agg (bv tp).toArray] w fun e w' => e = .returned (.bool false) ∧ Mem w [] w' [] := by
  have hpw := two_pow_le hh
  have hpw1 := hpw.1
  have hpw2 := hpw.2
  have hM : Mem w [] w [rd v 64 ps.length c (ps.flatMap bv)] := Mem.startR w (fun g hg => by
    simp only [List.mem_cons, List.not_mem_nil, or_false] at hg
    rcases hg with rfl
    · exact ⟨hr_ps, rfl⟩)
  refine f_enter 78 Tryd.func16 rfl rfl rfl ?_
  intro a hE
  replace hE : Env a 78 [(0, _), (1, _), (2, _), (3, _), (4, _)] := hE
  refine wp_seq_k (fun K1 hK1 => ?_)
  refine wp_plain [false, false, false, true] rfl rfl ?_
  refine s_box (ss := [bv k]) [32] hE hM rfl (by simp [Value.cells]) (by simp [*]) rfl ?_; clear hE a; intro a b5 w1 hE hM'
  clear hM; have hM := hM'; clear hM'
  refine s_box (ss := [bv tg]) [32] hE hM rfl (by simp [Value.cells]) (by simp [*]) rfl ?_; clear hE a; intro a b7 w2 hE hM'
  clear hM; have hM := hM'; clear hM'
  refine s_box (ss := [bv tp]) [32] hE hM rfl (by simp [Value.cells]) (by simp [*]) rfl ?_; clear hE a; intro a b9 w3 hE hM'
  clear hM; have hM := hM'; clear hM'
  refine s_assign hE rfl rfl ?_; clear hE a; intro a hE
  refine q_nil ?_
  replace hE : Env a 78 [(1, _), (3, _), (5, _), (7, _), (9, _), (10, _)] := hE.sel [1, 3, 5, 7, 9, 10] rfl
  refine hK1 _ _ ?_
  refine wp_seq_k (fun K2 hK2 => ?_)
  refine wp_plain [true, true, true] rfl rfl ?_
  refine s_move hE rfl rfl ?_; clear hE a; intro a hE
  refine s_len hE rfl Tryd.underlying44 (rd_slice (hM.get 3 rfl)) rfl ?_; clear hE a; intro a hE
  refine s_assign hE rfl rfl ?_; clear hE a; intro a hE
  refine q_nil ?_
  replace hE : Env a 78 [(1, _), (3, _), (5, _), (7, _), (9, _), (10, _), (11, _)] := hE.sel [1, 3, 5, 7, 9, 10, 11] rfl
  refine hK2 _ _ ?_
  refine wp_seq_k (fun K3 hK3 => ?_)
  refine wp_seq_k (fun K4 hK4 => ?_)
  refine wp_plain [true, true, true, true, true, true, true, true, true, true, true, true, true, true, true, true] rfl rfl ?_
  refine s_move hE rfl rfl ?_; clear hE a; intro a hE
  refine s_bin hE rfl rfl bin_lss rfl ?_; clear hE a; intro a hE
  refine s_move hE rfl rfl ?_; clear hE a; intro a hE
  replace hE := hE.cast 21 rfl (show _ = Value.bool false from (congrArg Value.bool (decide_eq_false (by omega))))
  refine g_yes hE rfl rfl ?_
  refine s_move hE rfl rfl ?_; clear hE a; intro a hE
  refine g_yes hE rfl rfl ?_
  refine s_bin hE rfl rfl bin_gtr rfl ?_; clear hE a; intro a hE
  refine s_pickf hE rfl rfl rfl ?_; clear hE a; intro a hE
  refine s_move hE rfl rfl ?_; clear hE a; intro a hE
  replace hE := hE.cast 25 rfl (show _ = Value.bool false from (congrArg Value.bool (decide_eq_false (by omega))))
  refine g_yes hE rfl rfl ?_
  refine s_move hE rfl rfl ?_; clear hE a; intro a hE
  refine g_yes hE rfl rfl ?_
  refine s_bin hE rfl rfl bin_lss rfl ?_; clear hE a; intro a hE
  refine s_pickf hE rfl rfl rfl ?_; clear hE a; intro a hE
  refine s_move hE rfl rfl ?_; clear hE a; intro a hE
  refine hE.split 29 rfl (fun hb29 hE' => ?_) (fun hb29 hE' => ?_)
  · replace hE := hE'; clear hE'
    replace hb29 := of_decide_eq_true hb29
    refine g_no (b := true) hE rfl rfl rfl ?_; clear hE a; intro a hE
    refine g_no (b := true) hE rfl rfl rfl ?_; clear hE a; intro a hE
    refine g_no (b := true) hE rfl rfl rfl ?_; clear hE a; intro a hE
    refine g_no (b := true) hE rfl rfl rfl ?_; clear hE a; intro a hE
    refine s_pickt hE rfl rfl rfl ?_; clear hE a; intro a hE
    refine q_nil ?_
    replace hE : Env a 78 [(1, _), (3, _), (5, _), (7, _), (9, _), (10, _), (11, _), (34, _)] := hE.sel [1, 3, 5, 7, 9, 10, 11, 34] rfl
    refine hK4 _ _ ?_
    refine wp_cond_true (hE.eval rfl) ?_
    refine wp_seq_k (fun K5 hK5 => ?_)
    refine wp_plain [true] rfl rfl ?_
    refine s_assign hE rfl rfl ?_; clear hE a; intro a hE
    refine q_nil ?_
    refine hK5 _ _ ?_
    refine wp_ret ?_
    refine q_then_r ?_
    refine f_ret1 hE rfl rfl ?_
    exact ⟨(by first | rfl | (simp; done)), hM.pick [] rfl⟩
  · replace hE := hE'; clear hE'
    replace hb29 := of_decide_eq_false hb29
    refine g_yes hE rfl rfl ?_
    refine s_move hE rfl rfl ?_; clear hE a; intro a hE
    refine g_yes hE rfl rfl ?_
    refine s_move hE rfl rfl ?_; clear hE a; intro a hE
    refine g_yes hE rfl rfl ?_
    refine s_bin hE rfl rfl (bin_one_shl (by omega)) rfl ?_; clear hE a; intro a hE
    refine g_yes hE rfl rfl ?_
    refine s_bin hE rfl rfl bin_geq rfl ?_; clear hE a; intro a hE
    refine s_pickf hE rfl rfl rfl ?_; clear hE a; intro a hE
    refine q_nil ?_
    replace hE : Env a 78 [(1, _), (3, _), (5, _), (7, _), (9, _), (10, _), (11, _), (34, _)] := hE.sel [1, 3, 5, 7, 9, 10, 11, 34] rfl
    refine hK4 _ _ ?_
    replace hE := hE.cast 34 rfl (show _ = Value.bool true from (congrArg Value.bool (decide_eq_true (by omega))))
    refine wp_cond_true (hE.eval rfl) ?_
    refine wp_seq_k (fun K5 hK5 => ?_)
    refine wp_plain [true] rfl rfl ?_
    refine s_assign hE rfl rfl ?_; clear hE a; intro a hE
    refine q_nil ?_
    refine hK5 _ _ ?_
    refine wp_ret ?_
    refine q_then_r ?_
    refine f_ret1 hE rfl rfl ?_
    exact ⟨(by first | rfl | (simp; done)), hM.pick [] rfl⟩
theorem tcheckI_c (k : List UInt8) (z : Int) (tg : List UInt8) (v : Value) (ps : List (List UInt8)) (c : Nat) (tp : List UInt8) (w : World) (hG : (glb 0).holds w) (hl_k : k.length = 32) (hl_tg : tg.length = 32) (hr_ps : (rd v 64 ps.length c (ps.flatMap bv)).holds w) (ho_ps : ∀ x, x ∈ ps → x.length = 64) (hl_tp : tp.length = 32) : Calls Tryd.prog 16 #[.agg (bv k).toArray, .int .i64 z, .agg (bv tg).toArray, v, .agg (bv tp).toArray] w fun e w' => e = .returned (.bool (chkZ k z tg ps tp)) ∧ Mem w [] w' [] := by
  by_cases hh : 1 ≤ ps.length ∧ ps.length ≤ 12
  · have hpw := two_pow_le hh
    by_cases hz : inN 0 (2 ^ ps.length) z
    · obtain ⟨q, rfl⟩ : ∃ q : Nat, z = (q : Int) := ⟨z.toNat, by omega⟩
      rw [chkZ_in hh hz]
      exact tcheck_c k q tg v ps c tp w hG hl_k hl_tg hr_ps ho_ps hl_tp hh (by omega)
    · rw [chkZ_out2 hz]
      exact tcheck_no2 k z tg v ps c tp w hl_k hl_tg hr_ps ho_ps hl_tp hh hz
  · rw [chkZ_out1 hh]
    exact tcheck_no1 k z tg v ps c tp w hl_k hl_tg hr_ps ho_ps hl_tp hh
end Go.Proofs.YtacebdngbalkmaaDoor
