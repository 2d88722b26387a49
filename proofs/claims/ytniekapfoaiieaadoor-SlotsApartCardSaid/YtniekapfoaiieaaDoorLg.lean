/- Walks of functions of the given program that the claim reaches. -/
import Derived.Test.YtniekapfoaiieaaDoorLf
set_option linter.unusedSimpArgs false
set_option linter.unusedVariables false
namespace Go.Proofs.YtniekapfoaiieaaDoor
open Go Go.Kx

theorem keyw_c (v u : Value) (pass salt : List UInt8) (c cu r size : Nat) (w : World) (hG : (glb 1).holds w) (hr : (rd v 1 pass.length c (bv pass)).holds w) (hu : (rd u 1 salt.length cu (bv salt)).holds w) (hk : pass.length ≤ 100000) (hf : salt.length ≤ 100000) (h1 : 1 ≤ r) (hrr : r ≤ 4096) (h3 : 1 ≤ size) (h4 : size ≤ 128) : Calls Tryd.prog 31 #[v,u,.int .i64 (r : Int),.int .i64 (size : Int)] w fun e w' => ∃ v',e = .returned (.tuple #[v',.int .i64 0]) ∧ Mem w [] w' [ownW v' 1 (keyW pass salt r size).length (bv (keyW pass salt r size))] := by
 have hM : Mem w [] w [rd v 1 pass.length c (bv pass),rd u 1 salt.length cu (bv salt),glb 1] := Mem.startR w (fun g hg => by
  simp only [List.mem_cons,List.not_mem_nil,or_false] at hg
  rcases hg with rfl | rfl | rfl
  ·exact ⟨hr,rfl⟩
  ·exact ⟨hu,rfl⟩
  ·exact ⟨hG,rfl⟩)
 refine ve 45 Tryd.func31 rfl rfl rfl ?_
 intro a hE
 replace hE : Env a 45 [(0,_),(1,_),(2,_),(3,_)] := hE
 refine ww1 fun _ K1=>wpp (sas hE rfl fun a hE=>sas hE rfl fun a hE=>qa (K1 (ww1 fun _ K2=>ww1 fun _ K3=>wpp (sm hE rfl fun a hE=>?_))))
 refine sb hE rfl rfl bin_lss fun a hE=>sm hE rfl fun a hE=>?_
 replace hE := hE.cast 15 rfl (show _ = Value.bool false from (congrArg Value.bool (by first | (with_reducible exact decide_eq_true rfl) | exact decide_eq_false (by omega) | (rw [decide_eq_true (by omega)];rfl) | (rw [decide_eq_false (by omega)];rfl) | rfl | decide | (simp;done) | (simp;omega) | (simp [*];done))))
 refine gy hE rfl (sm hE rfl fun a hE=>gy hE rfl (sb hE rfl rfl bin_gtr fun a hE=>pkf hE rfl fun a hE=>sm hE rfl fun a hE=>?_))
 replace hE := hE.cast 19 rfl (show _ = Value.bool false from (congrArg Value.bool (by first | (with_reducible exact decide_eq_true rfl) | exact decide_eq_false (by omega) | (rw [decide_eq_true (by omega)];rfl) | (rw [decide_eq_false (by omega)];rfl) | rfl | decide | (simp;done) | (simp;omega) | (simp [*];done))))
 refine gy hE rfl (sm hE rfl fun a hE=>gy hE rfl (sb hE rfl rfl bin_lss fun a hE=>pkf hE rfl fun a hE=>sm hE rfl fun a hE=>?_))
 replace hE := hE.cast 23 rfl (show _ = Value.bool false from (congrArg Value.bool (by first | (with_reducible exact decide_eq_true rfl) | exact decide_eq_false (by omega) | (rw [decide_eq_true (by omega)];rfl) | (rw [decide_eq_false (by omega)];rfl) | rfl | decide | (simp;done) | (simp;omega) | (simp [*];done))))
 refine gy hE rfl (sm hE rfl fun a hE=>gy hE rfl (sb hE rfl rfl bin_gtr fun a hE=>pkf hE rfl fun a hE=>qa (K3 ?_)))
 replace hE := hE.cast 26 rfl (show _ = Value.bool false from (congrArg Value.bool (by first | (with_reducible exact decide_eq_true rfl) | exact decide_eq_false (by omega) | (rw [decide_eq_true (by omega)];rfl) | (rw [decide_eq_false (by omega)];rfl) | rfl | decide | (simp;done) | (simp;omega) | (simp [*];done))))
 refine wcf hE rfl (wp_skip (K2 (ww1 fun _ K4=>wpp (sas hE rfl fun a hE=>qa (K4 (ww1 fun _ K5=>ww1 fun _ K6=>?_))))))
 refine wpp (sas hE rfl fun a hE=>qa (K6 (wp_block ?_)))
 replace hM := hM.addNil 1
 replace hM := hM.ownEq (m' := ([] : List UInt8).length) (cs' := bv []) rfl rfl
 replace hM := Mem.ownB (p := ([] : List UInt8)) (q := keyP pass salt r 0) hM (by first | with_reducible rfl | (simp;done) | (simp [*];done) | rfl)
 replace hE := hE.cast 11 rfl (show _ = Value.int .u8 ((UInt8.ofNat (0 + 1)).toNat : Int) from (by first | rfl | simp))
 refine c_loop (fun (j : Nat) a w' => j ≤ ((size + 31) / 32) ∧ ∃ vl10,Env a 45 [(0,v),(1,u),(2,.int .i64 ((r : Nat) : Int)),(3,.int .i64 ((size : Nat) : Int)),(8,.slice none 0 0),(9,.int .i64 0),(10,vl10),(11,.int .u8 ((UInt8.ofNat (j + 1)).toNat : Int)),(26,.bool false)] ∧ Mem w [] w' [own vl10 1 (keyP pass salt r j).length (bv (keyP pass salt r j)),rd v 1 pass.length c (bv pass),rd u 1 salt.length cu (bv salt),glb 1]) (fun j => ((size + 31) / 32) - j) 0 ⟨Nat.zero_le _,_,hE.sel [0,1,2,3,8,9,10,11,26] rfl,hM⟩ ?_
 rintro j a w1 ⟨hj,vl10,hE,hM⟩
 refine ww1 fun _ K7=>ww1 fun _ K8=>wpp (sm hE rfl fun a hE=>s_len hE rfl Tryd.underlying42 (own_slice (hM.get 0 rfl)) rfl fun a hE=>?_)
 replace hE := hE.cast 28 rfl (show _ = Value.int .i64 ((32 * j : Nat) : Int) from (congrArg (fun n : Nat => Value.int .i64 (n : Int)) (by first | (simp;done) | (simp [*];done) | (simp;omega))))
 refine sm hE rfl fun a hE=>sb hE rfl rfl bin_lss fun a hE=>qa (K8 ?_)
 refine hE.split 30 rfl (fun hb30 hE=>?_) (fun hb30 hE=>?_)
 ·replace hb30 := of_decide_eq_true hb30
  replace hb30 : (32 * j) < size := by omega
  replace hb30 : j < ((size + 31) / 32) := by omega
  refine wct hE rfl (wp_skip (K7 (ww1 fun _ K9=>wp_block (ww1 fun _ K10=>wpp (sm hE rfl fun a hE=>sm hE rfl fun a hE=>sm hE rfl fun a hE=>?_)))))
  refine sm hE rfl fun a hE=>qn hE rfl Tryd.call57 (block_c _ _ pass salt _ _ r (UInt8.ofNat (j + 1)) _ (hM.get 3 rfl) (hM.get 1 rfl) (hM.get 2 rfl) (by first | omega | assumption | (simp;done) | (simp;omega) | decide) (by first | omega | assumption | (simp;done) | (simp;omega) | decide) (by first | omega | assumption | (simp;done) | (simp;omega) | decide)) rfl ?_
  rintro e w2 ⟨rfl,hN⟩
  refine ⟨_,rfl,trivial,fun a hE=>?_⟩
  replace hM : Mem _ _ w2 [_,_,_,_] := hM.call0 hN trivial;clear hN
  refine qo [32] hE hM zero22 rfl rfl fun a b12 w3 hE hM=>qr 0 hE rfl rfl hM rfl sz22 (by simp) (vc _) rfl (by simp) rfl (by intro X h;cases h) fun w4 hM=>?_
  simp only [List.set_cons_zero,List.set_cons_succ] at hM
  refine qa (K10 (wpp (sm hE rfl fun a hE=>s_sliceArr (l := 0) (h := 32) (mx' := 32) hE rfl arr22 rfl rfl rfl (by simp) (by omega) (by omega) (by omega) rfl fun a hE=>?_)))
  replace hE := hE.cast 39 rfl (show _ = Value.slice (some ⟨b12,0,none⟩) 32 32 from rfl)
  replace hM : Mem _ _ w4 [_,_,_,_,_] := hM.pick [1,0,2,3,4] rfl
  refine qw hE rfl rfl hM sl42 (Src.rd Tryd.underlying42 (rd_of_arr (hM.get 1 rfl) (by first | (simp;done) | (simp [*];done) | (simp;omega))) (vc _)) (len47 (by have hl_x : (keyP pass salt r j).length = 32 * j := (by first | (simp;done) | (simp [*];done) | (simp;omega));have hl_y : (oW pass salt (UInt8.ofNat (j + 1)) r).length = 32 := (by first | (simp;done) | (simp [*];done) | (simp;omega));first | omega | (simp;done) | (simp;omega))) (by have hl_x : (keyP pass salt r j).length = 32 * j := (by first | (simp;done) | (simp [*];done) | (simp;omega));have hl_y : (oW pass salt (UInt8.ofNat (j + 1)) r).length = 32 := (by first | (simp;done) | (simp [*];done) | (simp;omega));first | omega | (simp;done) | (simp;omega)) (by intro X h;cases h) rfl ?_;intro a v40 w5 hE hM
  replace hM := Mem.ownApp (p := keyP pass salt r j) (q := oW pass salt (UInt8.ofNat (j + 1)) r) hM (by first | rfl | (simp;done))
  refine sas hE rfl fun a hE=>qa (qe (K9 (wpp (sm hE rfl fun a hE=>sb hE rfl rfl (bin_inc_u8 (b := UInt8.ofNat (j + 1))) fun a hE=>sas hE rfl fun a hE=>qa ?_))))
  replace hE := hE.cast 11 rfl (show _ = Value.int .u8 ((UInt8.ofNat ((j + 1) + 1)).toNat : Int) from (by rw [UInt8.ofNat_add (j + 1) 1];rfl))
  replace hM := Mem.ownB (p := (keyP pass salt r j) ++ (oW pass salt (UInt8.ofNat (j + 1)) r)) (q := keyP pass salt r (j + 1)) hM rfl
  replace hM : Mem _ _ w5 [_,_,_,_] := hM.pick [0,2,3,4] rfl
  exact ⟨j + 1,⟨by omega,_,hE.sel [0,1,2,3,8,9,10,11,26] rfl,hM⟩,by omega⟩
 ·replace hb30 := of_decide_eq_false hb30
  replace hb30 : ¬ ((32 * j) < size) := by omega
  obtain rfl : ((size + 31) / 32) = j := by omega
  refine wcf hE rfl (wp_exit (qc (qc (qg (K5 (ww1 fun _ K9=>wpp (sm hE rfl fun a hE=>sm hE rfl fun a hE=>?_)))))))
  refine sm hE rfl fun a hE=>?_
  refine s_slice3 (l := size) hE rfl (hM.get 0 rfl) slt42 rfl rfl (by have hl_ : (keyP pass salt r ((size + 31) / 32)).length = 32 * ((size + 31) / 32) := (by first | (simp;done) | (simp [*];done) | (simp;omega));first | omega | (simp;omega)) rfl fun a hE=>?_
  replace hM := hM.cutOwn (l := size) (by have hl_ : (keyP pass salt r ((size + 31) / 32)).length = 32 * ((size + 31) / 32) := (by first | (simp;done) | (simp [*];done) | (simp;omega));first | omega | (simp;omega))
  replace hM := hM.ownWEq (m' := ((keyP pass salt r ((size + 31) / 32)).take size).length) (cs' := bv ((keyP pass salt r ((size + 31) / 32)).take size)) (by have hl_ : (keyP pass salt r ((size + 31) / 32)).length = 32 * ((size + 31) / 32) := (by first | (simp;done) | (simp [*];done) | (simp;omega));simp;omega) (by simp [bv])
  exact sas hE rfl fun a hE=>sas hE rfl fun a hE=>qa (K9 (wp_ret (qj hE rfl rfl rfl ⟨_,rfl,hM.pick [0] rfl⟩)))
end Go.Proofs.YtniekapfoaiieaaDoor
