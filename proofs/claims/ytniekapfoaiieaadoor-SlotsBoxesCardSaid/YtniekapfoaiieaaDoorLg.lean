/- Walks of functions of the given program that the claim reaches. -/
import Derived.Test.YtniekapfoaiieaaDoorLf
set_option linter.unusedSimpArgs false
set_option linter.unusedVariables false
namespace Go.Proofs.YtniekapfoaiieaaDoor
open Go Go.Kx

theorem keyw_c (v u : Value) (pass salt : List UInt8) (c cu r size : Nat) (w : World) (hG : (glb 1).holds w) (hr : (rd v 1 pass.length c (bv pass)).holds w) (hu : (rd u 1 salt.length cu (bv salt)).holds w) (hk : pass.length ≤ 100000) (hf : salt.length ≤ 100000) (h1 : 1 ≤ r) (hrr : r ≤ 4096) (h3 : 1 ≤ size) (h4 : size ≤ 128) : Calls Tryd.prog 31 #[v,u,.int .i64 (r : Int),.int .i64 (size : Int)] w fun e w' => ∃ v',e = .returned (.tuple #[v',.int .i64 0]) ∧ Mem w [] w' [ownW v' 1 (keyW pass salt r size).length (bv (keyW pass salt r size))] := by
 have hM : Mem w [] w [rd v 1 pass.length c (bv pass),rd u 1 salt.length cu (bv salt),glb 1] := Mem.startR w (fun g hg => by
  simp only [List.mem_cons,List.not_mem_nil,or_false] at hg
  rcases hg with rfl | rfl | rfl
  ·exact ⟨hr,rfl⟩
  ·exact ⟨hu,rfl⟩
  ·exact ⟨hG,rfl⟩)
 refine f_enter 45 Tryd.func31 rfl rfl rfl ?_
 intro a hE
 replace hE : Env a 45 [(0,_),(1,_),(2,_),(3,_)] := hE
 refine wp_seq_k (fun K1 hK1 => ?_)
 refine wp_plain [true,true] rfl rfl ?_
 refine s_assign hE rfl rfl ?_;clear hE a;intro a hE
 refine s_assign hE rfl rfl ?_;clear hE a;intro a hE
 refine q_nil ?_
 refine hK1 _ _ ?_
 refine wp_seq_k (fun K2 hK2 => ?_)
 refine wp_seq_k (fun K3 hK3 => ?_)
 refine wp_plain [true,true,true,true,true,true,true,true,true,true,true,true,true,true] rfl rfl ?_
 refine s_move hE rfl rfl ?_;clear hE a;intro a hE
 refine s_bin hE rfl rfl bin_lss rfl ?_;clear hE a;intro a hE
 refine s_move hE rfl rfl ?_;clear hE a;intro a hE
 replace hE := hE.cast 15 rfl (show _ = Value.bool false from (congrArg Value.bool (by first | (with_reducible exact decide_eq_true rfl) | exact decide_eq_false (by omega) | (rw [decide_eq_true (by omega)];rfl) | (rw [decide_eq_false (by omega)];rfl) | rfl | decide | (simp;done) | (simp;omega) | (simp [*];done))))
 refine g_yes hE rfl rfl ?_
 refine s_move hE rfl rfl ?_;clear hE a;intro a hE
 refine g_yes hE rfl rfl ?_
 refine s_bin hE rfl rfl bin_gtr rfl ?_;clear hE a;intro a hE
 refine s_pickf hE rfl rfl rfl ?_;clear hE a;intro a hE
 refine s_move hE rfl rfl ?_;clear hE a;intro a hE
 replace hE := hE.cast 19 rfl (show _ = Value.bool false from (congrArg Value.bool (by first | (with_reducible exact decide_eq_true rfl) | exact decide_eq_false (by omega) | (rw [decide_eq_true (by omega)];rfl) | (rw [decide_eq_false (by omega)];rfl) | rfl | decide | (simp;done) | (simp;omega) | (simp [*];done))))
 refine g_yes hE rfl rfl ?_
 refine s_move hE rfl rfl ?_;clear hE a;intro a hE
 refine g_yes hE rfl rfl ?_
 refine s_bin hE rfl rfl bin_lss rfl ?_;clear hE a;intro a hE
 refine s_pickf hE rfl rfl rfl ?_;clear hE a;intro a hE
 refine s_move hE rfl rfl ?_;clear hE a;intro a hE
 replace hE := hE.cast 23 rfl (show _ = Value.bool false from (congrArg Value.bool (by first | (with_reducible exact decide_eq_true rfl) | exact decide_eq_false (by omega) | (rw [decide_eq_true (by omega)];rfl) | (rw [decide_eq_false (by omega)];rfl) | rfl | decide | (simp;done) | (simp;omega) | (simp [*];done))))
 refine g_yes hE rfl rfl ?_
 refine s_move hE rfl rfl ?_;clear hE a;intro a hE
 refine g_yes hE rfl rfl ?_
 refine s_bin hE rfl rfl bin_gtr rfl ?_;clear hE a;intro a hE
 refine s_pickf hE rfl rfl rfl ?_;clear hE a;intro a hE
 refine q_nil ?_
 replace hE : Env a 45 [(0,_),(1,_),(2,_),(3,_),(8,_),(9,_),(26,_)] := hE.sel [0,1,2,3,8,9,26] rfl
 refine hK3 _ _ ?_
 replace hE := hE.cast 26 rfl (show _ = Value.bool false from (congrArg Value.bool (by first | (with_reducible exact decide_eq_true rfl) | exact decide_eq_false (by omega) | (rw [decide_eq_true (by omega)];rfl) | (rw [decide_eq_false (by omega)];rfl) | rfl | decide | (simp;done) | (simp;omega) | (simp [*];done))))
 refine wp_cond_false (hE.eval rfl) ?_
 refine wp_skip ?_
 refine hK2 _ _ ?_
 refine wp_seq_k (fun K4 hK4 => ?_)
 refine wp_plain [true] rfl rfl ?_
 refine s_assign hE rfl rfl ?_;clear hE a;intro a hE
 refine q_nil ?_
 refine hK4 _ _ ?_
 refine wp_seq_k (fun K5 hK5 => ?_)
 refine wp_seq_k (fun K6 hK6 => ?_)
 refine wp_plain [true] rfl rfl ?_
 refine s_assign hE rfl rfl ?_;clear hE a;intro a hE
 refine q_nil ?_
 refine hK6 _ _ ?_
 refine wp_block ?_
 replace hM := hM.addNil 1
 replace hM := hM.ownEq (m' := ([] : List UInt8).length) (cs' := bv []) rfl rfl
 replace hM := Mem.ownB (p := ([] : List UInt8)) (q := keyP pass salt r 0) hM (by first | with_reducible rfl | (simp;done) | (simp [*];done) | rfl)
 replace hE := hE.cast 11 rfl (show _ = Value.int .u8 ((UInt8.ofNat (0 + 1)).toNat : Int) from (by first | rfl | simp))
 refine c_loop (fun (j : Nat) a w' => j ≤ ((size + 31) / 32) ∧ ∃ vl10,Env a 45 [(0,v),(1,u),(2,.int .i64 ((r : Nat) : Int)),(3,.int .i64 ((size : Nat) : Int)),(8,.slice none 0 0),(9,.int .i64 0),(10,vl10),(11,.int .u8 ((UInt8.ofNat (j + 1)).toNat : Int)),(26,.bool false)] ∧ Mem w [] w' [own vl10 1 (keyP pass salt r j).length (bv (keyP pass salt r j)),rd v 1 pass.length c (bv pass),rd u 1 salt.length cu (bv salt),glb 1]) (fun j => ((size + 31) / 32) - j) 0 ⟨Nat.zero_le _,_,hE.sel [0,1,2,3,8,9,10,11,26] rfl,hM⟩ ?_
 clear hE hM a;rintro j a w1 ⟨hj,vl10,hE,hM⟩
 refine wp_seq_k (fun K7 hK7 => ?_)
 refine wp_seq_k (fun K8 hK8 => ?_)
 refine wp_plain [true,true,true,true] rfl rfl ?_
 refine s_move hE rfl rfl ?_;clear hE a;intro a hE
 refine s_len hE rfl Tryd.underlying42 (own_slice (hM.get 0 rfl)) rfl ?_;clear hE a;intro a hE
 replace hE := hE.cast 28 rfl (show _ = Value.int .i64 ((32 * j : Nat) : Int) from (congrArg (fun n : Nat => Value.int .i64 (n : Int)) (by first | (simp;done) | (simp [*];done) | (simp;omega))))
 refine s_move hE rfl rfl ?_;clear hE a;intro a hE
 refine s_bin hE rfl rfl bin_lss rfl ?_;clear hE a;intro a hE
 refine q_nil ?_
 replace hE : Env a 45 [(0,_),(1,_),(2,_),(3,_),(8,_),(9,_),(10,_),(11,_),(26,_),(30,_)] := hE.sel [0,1,2,3,8,9,10,11,26,30] rfl
 refine hK8 _ _ ?_
 refine hE.split 30 rfl (fun hb30 hE' => ?_) (fun hb30 hE' => ?_)
 ·replace hE := hE';clear hE'
  replace hb30 := of_decide_eq_true hb30
  replace hb30 : (32 * j) < size := by omega
  replace hb30 : j < ((size + 31) / 32) := by omega
  refine wp_cond_true (hE.eval rfl) ?_
  refine wp_skip ?_
  refine hK7 _ _ ?_
  refine wp_seq_k (fun K9 hK9 => ?_)
  refine wp_block ?_
  refine wp_seq_k (fun K10 hK10 => ?_)
  refine wp_plain [true,true,true,true,false,false,false] rfl rfl ?_
  refine s_move hE rfl rfl ?_;clear hE a;intro a hE
  refine s_move hE rfl rfl ?_;clear hE a;intro a hE
  refine s_move hE rfl rfl ?_;clear hE a;intro a hE
  refine s_move hE rfl rfl ?_;clear hE a;intro a hE
  refine s_call hE rfl Tryd.call57 (block_c _ _ pass salt _ _ r (UInt8.ofNat (j + 1)) _ (hM.get 3 rfl) (hM.get 1 rfl) (hM.get 2 rfl) (by first | omega | assumption | (simp;done) | (simp;omega) | decide) (by first | omega | assumption | (simp;done) | (simp;omega) | decide) (by first | omega | assumption | (simp;done) | (simp;omega) | decide)) rfl ?_
  rintro e w2 ⟨rfl,hN⟩
  refine ⟨_,rfl,trivial,?_⟩;clear hE a;intro a hE
  replace hM : Mem _ _ w2 [_,_,_,_] := hM.call0 hN trivial;clear hN
  refine s_alloc [32] hE hM zero22 rfl rfl ?_;clear hE a;intro a b12 w3 hE hM'
  clear hM;have hM := hM';clear hM'
  refine s_storeSeg 0 hE rfl rfl hM rfl sz22 (by simp) (bv_one _) rfl (by simp) rfl (by intro X h;cases h) ?_;intro w4 hM';clear hM;have hM := hM';clear hM'
  simp only [List.set_cons_zero,List.set_cons_succ] at hM
  refine q_nil ?_
  replace hE : Env a 45 [(0,_),(1,_),(2,_),(3,_),(8,_),(9,_),(10,_),(11,_),(12,_),(26,_),(30,_)] := hE.sel [0,1,2,3,8,9,10,11,12,26,30] rfl
  refine hK10 _ _ ?_
  refine wp_plain [true,true,false,true] rfl rfl ?_
  refine s_move hE rfl rfl ?_;clear hE a;intro a hE
  refine s_sliceArr (l := 0) (h := 32) (mx' := 32) hE rfl arr22 rfl rfl rfl (by simp) (by omega) (by omega) (by omega) rfl ?_;clear hE a;intro a hE
  replace hE := hE.cast 39 rfl (show _ = Value.slice (some ⟨b12,0,none⟩) 32 32 from rfl)
  replace hM : Mem _ _ w4 [_,_,_,_,_] := hM.pick [1,0,2,3,4] rfl
  refine s_append hE rfl rfl hM sl42 (Src.rd Tryd.underlying42 (rd_of_arr (hM.get 1 rfl) (by first | (simp;done) | (simp [*];done) | (simp;omega))) (bv_one _)) (len47 (by have hl_x : (keyP pass salt r j).length = 32 * j := (by first | (simp;done) | (simp [*];done) | (simp;omega));have hl_y : (oW pass salt (UInt8.ofNat (j + 1)) r).length = 32 := (by first | (simp;done) | (simp [*];done) | (simp;omega));first | omega | (simp;done) | (simp;omega))) (by have hl_x : (keyP pass salt r j).length = 32 * j := (by first | (simp;done) | (simp [*];done) | (simp;omega));have hl_y : (oW pass salt (UInt8.ofNat (j + 1)) r).length = 32 := (by first | (simp;done) | (simp [*];done) | (simp;omega));first | omega | (simp;done) | (simp;omega)) (by intro X h;cases h) rfl ?_;clear hE a;intro a v40 w5 hE hM';clear hM;have hM := hM';clear hM'
  replace hM := Mem.ownApp (p := keyP pass salt r j) (q := oW pass salt (UInt8.ofNat (j + 1)) r) hM (by first | rfl | (simp;done))
  refine s_assign hE rfl rfl ?_;clear hE a;intro a hE
  refine q_nil ?_
  replace hE : Env a 45 [(0,_),(1,_),(2,_),(3,_),(8,_),(9,_),(10,_),(11,_),(12,_),(26,_),(30,_)] := hE.sel [0,1,2,3,8,9,10,11,12,26,30] rfl
  refine q_block_n ?_
  refine hK9 _ _ ?_
  refine wp_plain [true,true,true] rfl rfl ?_
  refine s_move hE rfl rfl ?_;clear hE a;intro a hE
  refine s_bin hE rfl rfl (bin_inc_u8 (b := UInt8.ofNat (j + 1))) rfl ?_;clear hE a;intro a hE
  refine s_assign hE rfl rfl ?_;clear hE a;intro a hE
  refine q_nil ?_
  replace hE : Env a 45 [(0,_),(1,_),(2,_),(3,_),(8,_),(9,_),(10,_),(11,_),(12,_),(26,_),(30,_)] := hE.sel [0,1,2,3,8,9,10,11,12,26,30] rfl
  replace hE := hE.cast 11 rfl (show _ = Value.int .u8 ((UInt8.ofNat ((j + 1) + 1)).toNat : Int) from (by rw [UInt8.ofNat_add (j + 1) 1];rfl))
  replace hM := Mem.ownB (p := (keyP pass salt r j) ++ (oW pass salt (UInt8.ofNat (j + 1)) r)) (q := keyP pass salt r (j + 1)) hM rfl
  replace hM : Mem _ _ w5 [_,_,_,_] := hM.pick [0,2,3,4] rfl
  exact ⟨j + 1,⟨by omega,_,hE.sel [0,1,2,3,8,9,10,11,26] rfl,hM⟩,by omega⟩
 ·replace hE := hE';clear hE'
  replace hb30 := of_decide_eq_false hb30
  replace hb30 : ¬ ((32 * j) < size) := by omega
  obtain rfl : ((size + 31) / 32) = j := by omega
  refine wp_cond_false (hE.eval rfl) ?_
  refine wp_exit ?_
  refine q_then_e ?_
  refine q_then_e ?_
  refine q_block_x ?_
  refine hK5 _ _ ?_
  refine wp_seq_k (fun K9 hK9 => ?_)
  refine wp_plain [true,true,true,true,true,true] rfl rfl ?_
  refine s_move hE rfl rfl ?_;clear hE a;intro a hE
  refine s_move hE rfl rfl ?_;clear hE a;intro a hE
  refine s_move hE rfl rfl ?_;clear hE a;intro a hE
  refine s_slice3 (l := size) hE rfl (hM.get 0 rfl) slt42 rfl rfl (by have hl_ : (keyP pass salt r ((size + 31) / 32)).length = 32 * ((size + 31) / 32) := (by first | (simp;done) | (simp [*];done) | (simp;omega));first | omega | (simp;omega)) rfl ?_;clear hE a;intro a hE
  replace hM := hM.cutOwn (l := size) (by have hl_ : (keyP pass salt r ((size + 31) / 32)).length = 32 * ((size + 31) / 32) := (by first | (simp;done) | (simp [*];done) | (simp;omega));first | omega | (simp;omega))
  replace hM := hM.ownWEq (m' := ((keyP pass salt r ((size + 31) / 32)).take size).length) (cs' := bv ((keyP pass salt r ((size + 31) / 32)).take size)) (by have hl_ : (keyP pass salt r ((size + 31) / 32)).length = 32 * ((size + 31) / 32) := (by first | (simp;done) | (simp [*];done) | (simp;omega));simp;omega) (by simp [bv])
  refine s_assign hE rfl rfl ?_;clear hE a;intro a hE
  refine s_assign hE rfl rfl ?_;clear hE a;intro a hE
  refine q_nil ?_
  replace hE : Env a 45 [(0,_),(1,_),(2,_),(3,_),(8,_),(9,_),(10,_),(11,_),(26,_),(30,_)] := hE.sel [0,1,2,3,8,9,10,11,26,30] rfl
  refine hK9 _ _ ?_
  refine wp_ret ?_
  refine f_ret2 hE rfl rfl rfl ?_
  exact ⟨_,rfl,hM.pick [0] rfl⟩
end Go.Proofs.YtniekapfoaiieaaDoor
