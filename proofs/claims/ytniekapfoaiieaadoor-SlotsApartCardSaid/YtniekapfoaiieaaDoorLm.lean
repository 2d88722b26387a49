/- Walks of functions of the given program that the claim reaches. -/
import Derived.Test.YtniekapfoaiieaaDoorLk
set_option linter.unusedSimpArgs false
set_option linter.unusedVariables false
namespace Go.Proofs.YtniekapfoaiieaaDoor
open Go Go.Kx
theorem slt77 : slT Tryd.prog 77 = some 1 := by kernel_rfl
theorem eqa57 : ∀ {a b : List UInt8},a.length = 16 → b.length = 16 → Bin Tryd.prog .eql 57 (.agg (bv a).toArray) (.agg (bv b).toArray) (.bool (decide (a = b))) ∧ Bin Tryd.prog .neq 57 (.agg (bv a).toArray) (.agg (bv b).toArray) (.bool (!decide (a = b))) := fun ha hb => bins_arr8 Tryd.underlying57 (by kernel_rfl) Tryd.underlying5 (by kernel_rfl) (by kernel_rfl) ha hb
theorem zeroL62 : Zero Tryd.prog 62 [[.int .i64 0],[.int .i64 0],[.bool false],[.int .u64 0],bv (List.replicate 32 0),bv (List.replicate 32 0),[.bool false],[.int .u64 0],bv (List.replicate 32 0),bv (List.replicate 32 0),[.bool false],[.int .i64 0],bv (List.replicate 16 0),bv (List.replicate 32 0),bv (List.replicate 32 0),[.bool false],[.int .i64 0],bv (List.replicate 16 0),bv (List.replicate 32 0),bv (List.replicate 32 0),[.bool false],[.int .i64 0],bv (List.replicate 16 0),bv (List.replicate 32 0),bv (List.replicate 32 0),[.bool false],[.int .i64 0],bv (List.replicate 16 0),bv (List.replicate 32 0),bv (List.replicate 32 0)] := ⟨.agg ([[.int .i64 0],[.int .i64 0],[.bool false],[.int .u64 0],bv (List.replicate 32 0),bv (List.replicate 32 0),[.bool false],[.int .u64 0],bv (List.replicate 32 0),bv (List.replicate 32 0),[.bool false],[.int .i64 0],bv (List.replicate 16 0),bv (List.replicate 32 0),bv (List.replicate 32 0),[.bool false],[.int .i64 0],bv (List.replicate 16 0),bv (List.replicate 32 0),bv (List.replicate 32 0),[.bool false],[.int .i64 0],bv (List.replicate 16 0),bv (List.replicate 32 0),bv (List.replicate 32 0),[.bool false],[.int .i64 0],bv (List.replicate 16 0),bv (List.replicate 32 0),bv (List.replicate 32 0)] : List (List Value)).flatten.toArray,by kernel_rfl,by kernel_rfl⟩
theorem zero62 : Zero Tryd.prog 62 [([.int .i64 0]) ++ ([.int .i64 0]),(List.replicate 2 (([.bool false]) ++ ([.int .u64 0]) ++ ((bv (List.replicate 32 0)) ++ (bv (List.replicate 32 0))))).flatten,(List.replicate 4 (([.bool false]) ++ ([.int .i64 0]) ++ (bv (List.replicate 16 0)) ++ ((bv (List.replicate 32 0)) ++ (bv (List.replicate 32 0))))).flatten] := ⟨.agg ([([.int .i64 0]) ++ ([.int .i64 0]),(List.replicate 2 (([.bool false]) ++ ([.int .u64 0]) ++ ((bv (List.replicate 32 0)) ++ (bv (List.replicate 32 0))))).flatten,(List.replicate 4 (([.bool false]) ++ ([.int .i64 0]) ++ (bv (List.replicate 16 0)) ++ ((bv (List.replicate 32 0)) ++ (bv (List.replicate 32 0))))).flatten] : List (List Value)).flatten.toArray,by kernel_rfl,by kernel_rfl⟩
theorem fpl62 : fldPl Tryd.prog 62 = some (plc 0 [2,132,328]) := by kernel_rfl
theorem sz62 : (Tryd.prog.info? 62).map (·.size) = some 462 := by kernel_rfl
set_option maxHeartbeats 2000000 in
theorem there_c (h : Hd) (p : List UInt8) (b : List UInt8) (w : World) (hG : (glb 1).holds w) (hT : tabP.holds w) (hk_h : OkHd h) (hl_b : b.length = 16) : Calls Tryd.prog 60 #[.agg ([[.int .i64 h.m],[.int .i64 h.r],[.bool h.v0.1],[.int .u64 ((h.v0.2.1 : Nat) : Int)],bv h.v0.2.2.1,bv h.v0.2.2.2,[.bool h.v1.1],[.int .u64 ((h.v1.2.1 : Nat) : Int)],bv h.v1.2.2.1,bv h.v1.2.2.2,[.bool h.s0.1],[.int .i64 h.s0.2.1],bv h.s0.2.2.1,bv h.s0.2.2.2.1,bv h.s0.2.2.2.2,[.bool h.s1.1],[.int .i64 h.s1.2.1],bv h.s1.2.2.1,bv h.s1.2.2.2.1,bv h.s1.2.2.2.2,[.bool h.s2.1],[.int .i64 h.s2.2.1],bv h.s2.2.2.1,bv h.s2.2.2.2.1,bv h.s2.2.2.2.2,[.bool h.s3.1],[.int .i64 h.s3.2.1],bv h.s3.2.2.1,bv h.s3.2.2.2.1,bv h.s3.2.2.2.2] : List (List Value)).flatten.toArray,.string (str p),.agg (bv b).toArray] w fun e w' => e = .returned (.bool (thereS h p b)) ∧ Mem w [] w' [] := by
 have hul := usedL_len (h := h)
 have hM : Mem w [] w [glb 1,tabP] := Mem.startR w (fun g hg => by
  simp only [List.mem_cons,List.not_mem_nil,or_false] at hg
  rcases hg with rfl | rfl
  ·exact ⟨hG,rfl⟩
  ·exact ⟨hT,rfl⟩)
 refine ve 36 Tryd.func60 rfl rfl rfl ?_
 intro a hE
 replace hE : Env a 36 [(0,_),(1,_),(2,_)] := hE
 refine ww1 fun _ K1=>wpp ?_
 have hbl3_4 : h.v0.2.2.1.length = 32 := hk_h.v0.2.1
 have hbl3_5 : h.v0.2.2.2.length = 32 := hk_h.v0.2.2
 have hbl3_8 : h.v1.2.2.1.length = 32 := hk_h.v1.2.1
 have hbl3_9 : h.v1.2.2.2.length = 32 := hk_h.v1.2.2
 have hbl3_12 : h.s0.2.2.1.length = 16 := hk_h.s0.2.1
 have hbl3_13 : h.s0.2.2.2.1.length = 32 := hk_h.s0.2.2.1
 have hbl3_14 : h.s0.2.2.2.2.length = 32 := hk_h.s0.2.2.2
 have hbl3_17 : h.s1.2.2.1.length = 16 := hk_h.s1.2.1
 have hbl3_18 : h.s1.2.2.2.1.length = 32 := hk_h.s1.2.2.1
 have hbl3_19 : h.s1.2.2.2.2.length = 32 := hk_h.s1.2.2.2
 have hbl3_22 : h.s2.2.2.1.length = 16 := hk_h.s2.2.1
 have hbl3_23 : h.s2.2.2.2.1.length = 32 := hk_h.s2.2.2.1
 have hbl3_24 : h.s2.2.2.2.2.length = 32 := hk_h.s2.2.2.2
 have hbl3_27 : h.s3.2.2.1.length = 16 := hk_h.s3.2.1
 have hbl3_28 : h.s3.2.2.2.1.length = 32 := hk_h.s3.2.2.1
 have hbl3_29 : h.s3.2.2.2.2.length = 32 := hk_h.s3.2.2.2
 refine s_box (ss := [[.int .i64 h.m],[.int .i64 h.r],[.bool h.v0.1],[.int .u64 ((h.v0.2.1 : Nat) : Int)],bv h.v0.2.2.1,bv h.v0.2.2.2,[.bool h.v1.1],[.int .u64 ((h.v1.2.1 : Nat) : Int)],bv h.v1.2.2.1,bv h.v1.2.2.2,[.bool h.s0.1],[.int .i64 h.s0.2.1],bv h.s0.2.2.1,bv h.s0.2.2.2.1,bv h.s0.2.2.2.2,[.bool h.s1.1],[.int .i64 h.s1.2.1],bv h.s1.2.2.1,bv h.s1.2.2.2.1,bv h.s1.2.2.2.2,[.bool h.s2.1],[.int .i64 h.s2.2.1],bv h.s2.2.2.1,bv h.s2.2.2.2.1,bv h.s2.2.2.2.2,[.bool h.s3.1],[.int .i64 h.s3.2.1],bv h.s3.2.2.1,bv h.s3.2.2.2.1,bv h.s3.2.2.2.2]) [1,1,1,1,32,32,1,1,32,32,1,1,16,32,32,1,1,16,32,32,1,1,16,32,32,1,1,16,32,32] hE hM rfl rfl (by simp only [List.map_cons,List.map_nil,vh,List.length_cons,List.length_nil,List.length_replicate,hbl3_4,hbl3_5,hbl3_8,hbl3_9,hbl3_12,hbl3_13,hbl3_14,hbl3_17,hbl3_18,hbl3_19,hbl3_22,hbl3_23,hbl3_24,hbl3_27,hbl3_28,hbl3_29]) rfl fun a b3 w1 hE hM=>?_
 refine s_box (ss := [bv b]) [16] hE hM rfl (by simp [Value.cells]) (by simp [*]) rfl fun a b5 w2 hE hM=>?_
 refine sas hE rfl fun a hE=>qa (K1 (ww1 fun _ K2=>ww1 fun _ K3=>wpp (ql hE rfl (hM.get 1 rfl) row62 rfl (by intro X h;cases h) rfl fun a hE=>?_)))
 replace hE := hE.cast 12 rfl (show _ = Value.agg ([[.int .i64 h.m],[.int .i64 h.r],[.bool h.v0.1],[.int .u64 ((h.v0.2.1 : Nat) : Int)],bv h.v0.2.2.1,bv h.v0.2.2.2,[.bool h.v1.1],[.int .u64 ((h.v1.2.1 : Nat) : Int)],bv h.v1.2.2.1,bv h.v1.2.2.2,[.bool h.s0.1],[.int .i64 h.s0.2.1],bv h.s0.2.2.1,bv h.s0.2.2.2.1,bv h.s0.2.2.2.2,[.bool h.s1.1],[.int .i64 h.s1.2.1],bv h.s1.2.2.1,bv h.s1.2.2.2.1,bv h.s1.2.2.2.2,[.bool h.s2.1],[.int .i64 h.s2.2.1],bv h.s2.2.2.1,bv h.s2.2.2.2.1,bv h.s2.2.2.2.2,[.bool h.s3.1],[.int .i64 h.s3.2.1],bv h.s3.2.2.1,bv h.s3.2.2.2.1,bv h.s3.2.2.2.2] : List (List Value)).flatten.toArray from (by first | rfl | simp only [List.flatten_cons,List.flatten_nil,List.append_nil,List.append_assoc]))
 refine qn hE rfl Tryd.call35 (used_c h _ hk_h) rfl ?_
 rintro e w3 ⟨v13_0,rfl,hN⟩
 refine ⟨_,rfl,trivial,fun a hE=>?_⟩
 replace hM : Mem _ _ w3 [_,_,_,_,_] := hM.call0 hN ⟨rfl,trivial⟩;clear hN
 refine s_len hE rfl Tryd.underlying77 (own_slice (hM.get 0 rfl)) rfl fun a hE=>sm hE rfl fun a hE=>qa (K3 (wp_block (c_loop (fun (i : Nat) a w' => i ≤ (usedL h).length ∧ saltI h b i ∧ Env a 36 [(1,.string (str p)),(3,.pointer (some ⟨b3,0,none⟩)),(5,.pointer (some ⟨b5,0,none⟩)),(6,.bool false),(13,v13_0),(14,.int .i64 (((usedL h).length : Nat) : Int)),(15,.int .i64 ((i : Nat) : Int))] ∧ Mem w [] w' [own v13_0 1 ((usedL h).length) ((usedL h).flatMap intC),blk b5 [bv b] [16] 57,blk b3 [[.int .i64 h.m],[.int .i64 h.r],[.bool h.v0.1],[.int .u64 ((h.v0.2.1 : Nat) : Int)],bv h.v0.2.2.1,bv h.v0.2.2.2,[.bool h.v1.1],[.int .u64 ((h.v1.2.1 : Nat) : Int)],bv h.v1.2.2.1,bv h.v1.2.2.2,[.bool h.s0.1],[.int .i64 h.s0.2.1],bv h.s0.2.2.1,bv h.s0.2.2.2.1,bv h.s0.2.2.2.2,[.bool h.s1.1],[.int .i64 h.s1.2.1],bv h.s1.2.2.1,bv h.s1.2.2.2.1,bv h.s1.2.2.2.2,[.bool h.s2.1],[.int .i64 h.s2.2.1],bv h.s2.2.2.1,bv h.s2.2.2.2.1,bv h.s2.2.2.2.2,[.bool h.s3.1],[.int .i64 h.s3.2.1],bv h.s3.2.2.1,bv h.s3.2.2.2.1,bv h.s3.2.2.2.2] [1,1,1,1,32,32,1,1,32,32,1,1,16,32,32,1,1,16,32,32,1,1,16,32,32,1,1,16,32,32] 62,glb 1,tabP]) (fun i => (usedL h).length - i) 0 ⟨Nat.zero_le _,saltI_zero,hE.sel [1,3,5,6,13,14,15] rfl,hM⟩ ?_)))
 rintro i a w4 ⟨hi,hpre,hE,hM⟩
 refine ww1 fun _ K4=>wpp (sb hE rfl rfl bin_lss fun a hE=>qa (K4 (ww1 fun _ K5=>?_)))
 refine hE.split 16 rfl (fun hb16 hE=>?_) (fun hb16 hE=>?_)
 ·replace hb16 := of_decide_eq_true hb16
  replace hb16 : i < ((usedL h).length) := by omega
  replace hb16 : i < (usedL h).length := by omega
  refine wct hE rfl (wp_skip (K5 (ww1 fun _ K6=>wp_block (ww1 fun _ K7=>wpp ?_))))
  obtain ⟨cx17,hx17⟩ := own_rd (hM.get 0 rfl)
  refine qu (j := i) hE rfl hx17 rfl slt77 (by first | rfl | omega) (by omega) rfl fun a p17 hE hc17 hp17=>?_
  have hlj17 : i < (usedL h).length := (by omega)
  have hok17 := usedL_lt _ (getD_mem (d := 0) hlj17)
  rw [flat_elem (d := 0) (fun x hx => (show (intC _).length = 1 from rfl)) hlj17] at hc17
  replace hc17 : (cellsAt _ [.int .i64 ((((usedL h).getD i 0) : Nat) : Int)]).holds _ := hc17
  refine qt hE rfl hc17 one3 (by intro X h;cases h) rfl fun a hE=>?_
  rcases usedL_four (h := h) (i := i) (by omega) with hcase | hcase | hcase | hcase
  ·replace hE := hE.cast 18 rfl (show _ = Value.int .i64 0 from congrArg (fun q : Nat => Value.int .i64 (q : Int)) hcase)
   refine sas hE rfl fun a hE=>qa (K7 (ww1 fun _ K8=>wp_drawnM hM (by kernel_rfl) (fun _ => False) [(0,true),(1,true),(2,true),(3,true),(4,true),(5,true),(6,true)] [] (by kernel_rfl) rfl ?_))
   intro w5 hM' hww5;replace hM := hM'
   refine sm hE rfl fun a hE=>sf hE rfl fo62_2 fun a hE=>qp (j := 0) hE rfl rfl arr60 rfl (by decide) rfl fun a hE=>?_
   refine sf hE rfl fo59_2 fun a hE=>ql hE rfl (hM.get 2 rfl) row57 rfl (by intro X h;cases h;simp) rfl fun a hE=>?_
   refine ql hE rfl (hM.get 1 rfl) row57 rfl (by intro X h;cases h;simp) rfl fun a hE=>?_
   refine s_bin hE rfl rfl (eqa57 hk_h.s0.2.1 hl_b).1 rfl fun a hE=>qa (K8 ?_)
   refine hE.split 25 rfl (fun hb25 hE=>?_) (fun hb25 hE=>?_)
   ·replace hb25 := of_decide_eq_true hb25
    have hth : thereS h p b = true := there_salt (i := i) (by omega) hcase hb25
    refine wct hE rfl (ww1 fun _ K9=>wpp (sas hE rfl fun a hE=>qa (K9 (wp_ret (qf (qb (qb ?_)))))))
    exact qf (qb (qi hE rfl rfl ⟨(by first | (simp [hth];done) | (simp [thereS,saltS_no hpre];done)),hM.pick [] rfl⟩))
   ·replace hb25 := of_decide_eq_false hb25
    have hst : saltI h b (i + 1) := saltI_succ hpre (by rw [hcase];exact hb25)
    refine wcf hE rfl (wp_skip (qe (K6 (wpp (sb hE rfl rfl (show Bin _ _ _ _ _ (.int .i64 ((i + 1 : Nat) : Int)) from bin_add (by rw [wrap_i64 (by omega) (by omega)];omega)) fun a hE=>?_)))))
    refine sm hE rfl fun a hE=>qa ?_
    replace hE := hE.cast 15 rfl (show _ = Value.int .i64 (((i + 1) : Nat) : Int) from (congrArg _ (by omega)))
    replace hM : Mem _ _ w5 [_,_,_,_,_] := hM.pick [0,1,2,3,4] rfl
    exact ⟨i + 1,⟨by omega,hst,hE.sel [1,3,5,6,13,14,15] rfl,hM⟩,by omega⟩
  ·replace hE := hE.cast 18 rfl (show _ = Value.int .i64 1 from congrArg (fun q : Nat => Value.int .i64 (q : Int)) hcase)
   refine sas hE rfl fun a hE=>qa (K7 (ww1 fun _ K8=>wp_drawnM hM (by kernel_rfl) (fun _ => False) [(0,true),(1,true),(2,true),(3,true),(4,true),(5,true),(6,true)] [] (by kernel_rfl) rfl ?_))
   intro w5 hM' hww5;replace hM := hM'
   refine sm hE rfl fun a hE=>sf hE rfl fo62_2 fun a hE=>qp (j := 1) hE rfl rfl arr60 rfl (by decide) rfl fun a hE=>?_
   refine sf hE rfl fo59_2 fun a hE=>ql hE rfl (hM.get 2 rfl) row57 rfl (by intro X h;cases h;simp) rfl fun a hE=>?_
   refine ql hE rfl (hM.get 1 rfl) row57 rfl (by intro X h;cases h;simp) rfl fun a hE=>?_
   refine s_bin hE rfl rfl (eqa57 hk_h.s1.2.1 hl_b).1 rfl fun a hE=>qa (K8 ?_)
   refine hE.split 25 rfl (fun hb25 hE=>?_) (fun hb25 hE=>?_)
   ·replace hb25 := of_decide_eq_true hb25
    have hth : thereS h p b = true := there_salt (i := i) (by omega) hcase hb25
    refine wct hE rfl (ww1 fun _ K9=>wpp (sas hE rfl fun a hE=>qa (K9 (wp_ret (qf (qb (qb ?_)))))))
    exact qf (qb (qi hE rfl rfl ⟨(by first | (simp [hth];done) | (simp [thereS,saltS_no hpre];done)),hM.pick [] rfl⟩))
   ·replace hb25 := of_decide_eq_false hb25
    have hst : saltI h b (i + 1) := saltI_succ hpre (by rw [hcase];exact hb25)
    refine wcf hE rfl (wp_skip (qe (K6 (wpp (sb hE rfl rfl (show Bin _ _ _ _ _ (.int .i64 ((i + 1 : Nat) : Int)) from bin_add (by rw [wrap_i64 (by omega) (by omega)];omega)) fun a hE=>?_)))))
    refine sm hE rfl fun a hE=>qa ?_
    replace hE := hE.cast 15 rfl (show _ = Value.int .i64 (((i + 1) : Nat) : Int) from (congrArg _ (by omega)))
    replace hM : Mem _ _ w5 [_,_,_,_,_] := hM.pick [0,1,2,3,4] rfl
    exact ⟨i + 1,⟨by omega,hst,hE.sel [1,3,5,6,13,14,15] rfl,hM⟩,by omega⟩
  ·replace hE := hE.cast 18 rfl (show _ = Value.int .i64 2 from congrArg (fun q : Nat => Value.int .i64 (q : Int)) hcase)
   refine sas hE rfl fun a hE=>qa (K7 (ww1 fun _ K8=>wp_drawnM hM (by kernel_rfl) (fun _ => False) [(0,true),(1,true),(2,true),(3,true),(4,true),(5,true),(6,true)] [] (by kernel_rfl) rfl ?_))
   intro w5 hM' hww5;replace hM := hM'
   refine sm hE rfl fun a hE=>sf hE rfl fo62_2 fun a hE=>qp (j := 2) hE rfl rfl arr60 rfl (by decide) rfl fun a hE=>?_
   refine sf hE rfl fo59_2 fun a hE=>ql hE rfl (hM.get 2 rfl) row57 rfl (by intro X h;cases h;simp) rfl fun a hE=>?_
   refine ql hE rfl (hM.get 1 rfl) row57 rfl (by intro X h;cases h;simp) rfl fun a hE=>?_
   refine s_bin hE rfl rfl (eqa57 hk_h.s2.2.1 hl_b).1 rfl fun a hE=>qa (K8 ?_)
   refine hE.split 25 rfl (fun hb25 hE=>?_) (fun hb25 hE=>?_)
   ·replace hb25 := of_decide_eq_true hb25
    have hth : thereS h p b = true := there_salt (i := i) (by omega) hcase hb25
    refine wct hE rfl (ww1 fun _ K9=>wpp (sas hE rfl fun a hE=>qa (K9 (wp_ret (qf (qb (qb ?_)))))))
    exact qf (qb (qi hE rfl rfl ⟨(by first | (simp [hth];done) | (simp [thereS,saltS_no hpre];done)),hM.pick [] rfl⟩))
   ·replace hb25 := of_decide_eq_false hb25
    have hst : saltI h b (i + 1) := saltI_succ hpre (by rw [hcase];exact hb25)
    refine wcf hE rfl (wp_skip (qe (K6 (wpp (sb hE rfl rfl (show Bin _ _ _ _ _ (.int .i64 ((i + 1 : Nat) : Int)) from bin_add (by rw [wrap_i64 (by omega) (by omega)];omega)) fun a hE=>?_)))))
    refine sm hE rfl fun a hE=>qa ?_
    replace hE := hE.cast 15 rfl (show _ = Value.int .i64 (((i + 1) : Nat) : Int) from (congrArg _ (by omega)))
    replace hM : Mem _ _ w5 [_,_,_,_,_] := hM.pick [0,1,2,3,4] rfl
    exact ⟨i + 1,⟨by omega,hst,hE.sel [1,3,5,6,13,14,15] rfl,hM⟩,by omega⟩
  ·replace hE := hE.cast 18 rfl (show _ = Value.int .i64 3 from congrArg (fun q : Nat => Value.int .i64 (q : Int)) hcase)
   refine sas hE rfl fun a hE=>qa (K7 (ww1 fun _ K8=>wp_drawnM hM (by kernel_rfl) (fun _ => False) [(0,true),(1,true),(2,true),(3,true),(4,true),(5,true),(6,true)] [] (by kernel_rfl) rfl ?_))
   intro w5 hM' hww5;replace hM := hM'
   refine sm hE rfl fun a hE=>sf hE rfl fo62_2 fun a hE=>qp (j := 3) hE rfl rfl arr60 rfl (by decide) rfl fun a hE=>?_
   refine sf hE rfl fo59_2 fun a hE=>ql hE rfl (hM.get 2 rfl) row57 rfl (by intro X h;cases h;simp) rfl fun a hE=>?_
   refine ql hE rfl (hM.get 1 rfl) row57 rfl (by intro X h;cases h;simp) rfl fun a hE=>?_
   refine s_bin hE rfl rfl (eqa57 hk_h.s3.2.1 hl_b).1 rfl fun a hE=>qa (K8 ?_)
   refine hE.split 25 rfl (fun hb25 hE=>?_) (fun hb25 hE=>?_)
   ·replace hb25 := of_decide_eq_true hb25
    have hth : thereS h p b = true := there_salt (i := i) (by omega) hcase hb25
    refine wct hE rfl (ww1 fun _ K9=>wpp (sas hE rfl fun a hE=>qa (K9 (wp_ret (qf (qb (qb ?_)))))))
    exact qf (qb (qi hE rfl rfl ⟨(by first | (simp [hth];done) | (simp [thereS,saltS_no hpre];done)),hM.pick [] rfl⟩))
   ·replace hb25 := of_decide_eq_false hb25
    have hst : saltI h b (i + 1) := saltI_succ hpre (by rw [hcase];exact hb25)
    refine wcf hE rfl (wp_skip (qe (K6 (wpp (sb hE rfl rfl (show Bin _ _ _ _ _ (.int .i64 ((i + 1 : Nat) : Int)) from bin_add (by rw [wrap_i64 (by omega) (by omega)];omega)) fun a hE=>?_)))))
    refine sm hE rfl fun a hE=>qa ?_
    replace hE := hE.cast 15 rfl (show _ = Value.int .i64 (((i + 1) : Nat) : Int) from (congrArg _ (by omega)))
    replace hM : Mem _ _ w5 [_,_,_,_,_] := hM.pick [0,1,2,3,4] rfl
    exact ⟨i + 1,⟨by omega,hst,hE.sel [1,3,5,6,13,14,15] rfl,hM⟩,by omega⟩
 ·replace hb16 := of_decide_eq_false hb16
  replace hb16 : ¬ (i < ((usedL h).length)) := by omega
  obtain rfl : (usedL h).length = i := by omega
  refine wcf hE rfl (wp_exit (qc (qc (qg (K2 (ww1 fun _ K6=>wpp (ql hE rfl (hM.get 2 rfl) row62 rfl (by intro X h;cases h) rfl fun a hE=>?_)))))))
  replace hE := hE.cast 28 rfl (show _ = Value.agg ([[.int .i64 h.m],[.int .i64 h.r],[.bool h.v0.1],[.int .u64 ((h.v0.2.1 : Nat) : Int)],bv h.v0.2.2.1,bv h.v0.2.2.2,[.bool h.v1.1],[.int .u64 ((h.v1.2.1 : Nat) : Int)],bv h.v1.2.2.1,bv h.v1.2.2.2,[.bool h.s0.1],[.int .i64 h.s0.2.1],bv h.s0.2.2.1,bv h.s0.2.2.2.1,bv h.s0.2.2.2.2,[.bool h.s1.1],[.int .i64 h.s1.2.1],bv h.s1.2.2.1,bv h.s1.2.2.2.1,bv h.s1.2.2.2.2,[.bool h.s2.1],[.int .i64 h.s2.2.1],bv h.s2.2.2.1,bv h.s2.2.2.2.1,bv h.s2.2.2.2.2,[.bool h.s3.1],[.int .i64 h.s3.2.1],bv h.s3.2.2.1,bv h.s3.2.2.2.1,bv h.s3.2.2.2.2] : List (List Value)).flatten.toArray from (by first | rfl | simp only [List.flatten_cons,List.flatten_nil,List.append_nil,List.append_assoc]))
  refine sm hE rfl fun a hE=>qn hE rfl Tryd.call29 (unlock_c h p _ (hM.get 3 rfl) (hM.get 4 rfl) hk_h) rfl ?_
  rintro e w5 ⟨rfl,hN⟩
  refine ⟨_,rfl,trivial,fun a hE=>?_⟩
  replace hM : Mem _ _ w5 [_,_,_,_,_] := hM.call0 hN trivial;clear hN
  refine sm hE rfl fun a hE=>sx hE rfl fun a hE=>sx hE rfl fun a hE=>sx hE rfl fun a hE=>qo [32] hE hM zero23 rfl rfl fun a b9 w6 hE hM=>qr 0 hE rfl rfl hM rfl sz23 ((vh _).trans (unl_len hk_h p)) (vc _) rfl ((vh _).trans (by first | (simp;done) | (simp [*];done) | (simp;omega))) rfl (by intro X h;cases h) fun w7 hM=>?_
  simp only [List.set_cons_zero,List.set_cons_succ] at hM
  refine sas hE rfl fun a hE=>sas hE rfl fun a hE=>qa (K6 (ww1 fun _ K7=>wpp (sm hE rfl fun a hE=>sb hE rfl rfl bin_eql fun a hE=>sas hE rfl fun a hE=>qa ?_)))
  exact K7 (wp_ret (qi hE rfl rfl ⟨(by first | (simp [hth];done) | (simp [thereS,saltS_no hpre];done)),hM.pick [] rfl⟩))
set_option maxRecDepth 20000 in
set_option maxHeartbeats 2000000 in
theorem rem_c (h : Hd) (z : Int) (w : World) (hk_h : OkHd h) : Calls Tryd.prog 32 #[.agg ([[.int .i64 h.m],[.int .i64 h.r],[.bool h.v0.1],[.int .u64 ((h.v0.2.1 : Nat) : Int)],bv h.v0.2.2.1,bv h.v0.2.2.2,[.bool h.v1.1],[.int .u64 ((h.v1.2.1 : Nat) : Int)],bv h.v1.2.2.1,bv h.v1.2.2.2,[.bool h.s0.1],[.int .i64 h.s0.2.1],bv h.s0.2.2.1,bv h.s0.2.2.2.1,bv h.s0.2.2.2.2,[.bool h.s1.1],[.int .i64 h.s1.2.1],bv h.s1.2.2.1,bv h.s1.2.2.2.1,bv h.s1.2.2.2.2,[.bool h.s2.1],[.int .i64 h.s2.2.1],bv h.s2.2.2.1,bv h.s2.2.2.2.1,bv h.s2.2.2.2.2,[.bool h.s3.1],[.int .i64 h.s3.2.1],bv h.s3.2.2.1,bv h.s3.2.2.2.1,bv h.s3.2.2.2.2] : List (List Value)).flatten.toArray,.int .i64 z] w fun e w' => e = .returned (.tuple #[.agg ([[.int .i64 (((remS h z).1).m)],[.int .i64 (((remS h z).1).r)],[.bool (((remS h z).1).v0.1)],[.int .u64 ((((remS h z).1).v0.2.1 : Nat) : Int)],bv (((remS h z).1).v0.2.2.1),bv (((remS h z).1).v0.2.2.2),[.bool (((remS h z).1).v1.1)],[.int .u64 ((((remS h z).1).v1.2.1 : Nat) : Int)],bv (((remS h z).1).v1.2.2.1),bv (((remS h z).1).v1.2.2.2),[.bool (((remS h z).1).s0.1)],[.int .i64 (((remS h z).1).s0.2.1)],bv (((remS h z).1).s0.2.2.1),bv (((remS h z).1).s0.2.2.2.1),bv (((remS h z).1).s0.2.2.2.2),[.bool (((remS h z).1).s1.1)],[.int .i64 (((remS h z).1).s1.2.1)],bv (((remS h z).1).s1.2.2.1),bv (((remS h z).1).s1.2.2.2.1),bv (((remS h z).1).s1.2.2.2.2),[.bool (((remS h z).1).s2.1)],[.int .i64 (((remS h z).1).s2.2.1)],bv (((remS h z).1).s2.2.2.1),bv (((remS h z).1).s2.2.2.2.1),bv (((remS h z).1).s2.2.2.2.2),[.bool (((remS h z).1).s3.1)],[.int .i64 (((remS h z).1).s3.2.1)],bv (((remS h z).1).s3.2.2.1),bv (((remS h z).1).s3.2.2.2.1),bv (((remS h z).1).s3.2.2.2.2)] : List (List Value)).flatten.toArray,.int .i64 (((remS h z).2 : Nat) : Int)]) ∧ Mem w [] w' [] := by
 have hi0 := hk_h.s0.1
 have hi1 := hk_h.s1.1
 have hi2 := hk_h.s2.1
 have hi3 := hk_h.s3.1
 have hn0 := hk_h.v0.1
 have hn1 := hk_h.v1.1
 have hM := Mem.start0 w
 refine ve 32 Tryd.func32 rfl rfl rfl ?_
 intro a hE
 replace hE : Env a 32 [(0,_),(1,_)] := hE
 refine ww1 fun _ K1=>wpp ?_
 have hbl2_4 : h.v0.2.2.1.length = 32 := hk_h.v0.2.1
 have hbl2_5 : h.v0.2.2.2.length = 32 := hk_h.v0.2.2
 have hbl2_8 : h.v1.2.2.1.length = 32 := hk_h.v1.2.1
 have hbl2_9 : h.v1.2.2.2.length = 32 := hk_h.v1.2.2
 have hbl2_12 : h.s0.2.2.1.length = 16 := hk_h.s0.2.1
 have hbl2_13 : h.s0.2.2.2.1.length = 32 := hk_h.s0.2.2.1
 have hbl2_14 : h.s0.2.2.2.2.length = 32 := hk_h.s0.2.2.2
 have hbl2_17 : h.s1.2.2.1.length = 16 := hk_h.s1.2.1
 have hbl2_18 : h.s1.2.2.2.1.length = 32 := hk_h.s1.2.2.1
 have hbl2_19 : h.s1.2.2.2.2.length = 32 := hk_h.s1.2.2.2
 have hbl2_22 : h.s2.2.2.1.length = 16 := hk_h.s2.2.1
 have hbl2_23 : h.s2.2.2.2.1.length = 32 := hk_h.s2.2.2.1
 have hbl2_24 : h.s2.2.2.2.2.length = 32 := hk_h.s2.2.2.2
 have hbl2_27 : h.s3.2.2.1.length = 16 := hk_h.s3.2.1
 have hbl2_28 : h.s3.2.2.2.1.length = 32 := hk_h.s3.2.2.1
 have hbl2_29 : h.s3.2.2.2.2.length = 32 := hk_h.s3.2.2.2
 refine s_box (ss := [[.int .i64 h.m],[.int .i64 h.r],[.bool h.v0.1],[.int .u64 ((h.v0.2.1 : Nat) : Int)],bv h.v0.2.2.1,bv h.v0.2.2.2,[.bool h.v1.1],[.int .u64 ((h.v1.2.1 : Nat) : Int)],bv h.v1.2.2.1,bv h.v1.2.2.2,[.bool h.s0.1],[.int .i64 h.s0.2.1],bv h.s0.2.2.1,bv h.s0.2.2.2.1,bv h.s0.2.2.2.2,[.bool h.s1.1],[.int .i64 h.s1.2.1],bv h.s1.2.2.1,bv h.s1.2.2.2.1,bv h.s1.2.2.2.2,[.bool h.s2.1],[.int .i64 h.s2.2.1],bv h.s2.2.2.1,bv h.s2.2.2.2.1,bv h.s2.2.2.2.2,[.bool h.s3.1],[.int .i64 h.s3.2.1],bv h.s3.2.2.1,bv h.s3.2.2.2.1,bv h.s3.2.2.2.2]) [1,1,1,1,32,32,1,1,32,32,1,1,16,32,32,1,1,16,32,32,1,1,16,32,32,1,1,16,32,32] hE hM rfl rfl (by simp only [List.map_cons,List.map_nil,vh,List.length_cons,List.length_nil,List.length_replicate,hbl2_4,hbl2_5,hbl2_8,hbl2_9,hbl2_12,hbl2_13,hbl2_14,hbl2_17,hbl2_18,hbl2_19,hbl2_22,hbl2_23,hbl2_24,hbl2_27,hbl2_28,hbl2_29]) rfl fun a b2 w1 hE hM=>?_
 refine qo [1,1,1,1,32,32,1,1,32,32,1,1,16,32,32,1,1,16,32,32,1,1,16,32,32,1,1,16,32,32] hE hM zeroL62 rfl rfl fun a b4 w2 hE hM=>sas hE rfl fun a hE=>qa (K1 (ww1 fun _ K2=>wp_block (ww1 fun _ K3=>wpp (ql hE rfl (hM.get 1 rfl) row62 rfl (by intro X h;cases h) rfl fun a hE=>?_))))
 replace hE := hE.cast 7 rfl (show _ = Value.agg ([[.int .i64 h.m],[.int .i64 h.r],[.bool h.v0.1],[.int .u64 ((h.v0.2.1 : Nat) : Int)],bv h.v0.2.2.1,bv h.v0.2.2.2,[.bool h.v1.1],[.int .u64 ((h.v1.2.1 : Nat) : Int)],bv h.v1.2.2.1,bv h.v1.2.2.2,[.bool h.s0.1],[.int .i64 h.s0.2.1],bv h.s0.2.2.1,bv h.s0.2.2.2.1,bv h.s0.2.2.2.2,[.bool h.s1.1],[.int .i64 h.s1.2.1],bv h.s1.2.2.1,bv h.s1.2.2.2.1,bv h.s1.2.2.2.2,[.bool h.s2.1],[.int .i64 h.s2.2.1],bv h.s2.2.2.1,bv h.s2.2.2.2.1,bv h.s2.2.2.2.2,[.bool h.s3.1],[.int .i64 h.s3.2.1],bv h.s3.2.2.1,bv h.s3.2.2.2.1,bv h.s3.2.2.2.2] : List (List Value)).flatten.toArray from (by first | (simp only [List.flatten_cons,List.flatten_nil,List.append_nil,List.append_assoc];done) | rfl))
 refine qn hE rfl Tryd.call58 (check_c h _ hk_h ) rfl ?_
 rintro e w3 ⟨rfl,hN⟩
 refine ⟨_,rfl,trivial,fun a hE=>?_⟩
 replace hM : Mem _ _ w3 [_,_] := hM.call0 hN trivial;clear hN
 refine sb hE rfl rfl bin_neq fun a hE=>sm hE rfl fun a hE=>?_
 refine hE.split 10 rfl (fun hb10 hE=>?_) (fun hb10 hE=>?_)
 ·replace hb10 := of_decide_eq_false (not_true hb10)
  replace hb10 : ¬ ((checkH h) = 0) := by omega
  have e1 : remS h z = (zH,2) := by simp [remS,hb10]
  refine gt hE rfl fun a hE=>gt hE rfl fun a hE=>pkt hE rfl fun a hE=>sm hE rfl fun a hE=>gt hE rfl fun a hE=>gt hE rfl fun a hE=>pkt hE rfl fun a hE=>sas hE rfl fun a hE=>qa (K3 ?_)
  refine wct hE rfl (ww1 fun _ K4=>wpp (vf [] hE rfl zero62 (by kernel_rfl) fpl62 (by first | (simp [PartsOk,Value.cells];done) | (simp [PartsOk,Value.cells];omega)) rfl fun a hE=>?_))
  replace hE := hE.cast 18 rfl (show _ = Value.agg ([[.int .i64 0],[.int .i64 0],[.bool false],[.int .u64 0],bv (List.replicate 32 (0 : UInt8)),bv (List.replicate 32 (0 : UInt8)),[.bool false],[.int .u64 0],bv (List.replicate 32 (0 : UInt8)),bv (List.replicate 32 (0 : UInt8)),[.bool false],[.int .i64 0],bv (List.replicate 16 (0 : UInt8)),bv (List.replicate 32 (0 : UInt8)),bv (List.replicate 32 (0 : UInt8)),[.bool false],[.int .i64 0],bv (List.replicate 16 (0 : UInt8)),bv (List.replicate 32 (0 : UInt8)),bv (List.replicate 32 (0 : UInt8)),[.bool false],[.int .i64 0],bv (List.replicate 16 (0 : UInt8)),bv (List.replicate 32 (0 : UInt8)),bv (List.replicate 32 (0 : UInt8)),[.bool false],[.int .i64 0],bv (List.replicate 16 (0 : UInt8)),bv (List.replicate 32 (0 : UInt8)),bv (List.replicate 32 (0 : UInt8))] : List (List Value)).flatten.toArray from (by first | rfl | simp [setAll] | (simp only [setAll,List.set_cons_zero,List.set_cons_succ,List.flatten_cons,List.flatten_nil,List.append_nil,List.append_assoc,List.replicate_succ,List.replicate_zero])))
  have hsl69_4 : (List.replicate 32 (0 : UInt8)).length = 32 := List.length_replicate
  have hsl69_5 : (List.replicate 32 (0 : UInt8)).length = 32 := List.length_replicate
  have hsl69_8 : (List.replicate 32 (0 : UInt8)).length = 32 := List.length_replicate
  have hsl69_9 : (List.replicate 32 (0 : UInt8)).length = 32 := List.length_replicate
  have hsl69_12 : (List.replicate 16 (0 : UInt8)).length = 16 := List.length_replicate
  have hsl69_13 : (List.replicate 32 (0 : UInt8)).length = 32 := List.length_replicate
  have hsl69_14 : (List.replicate 32 (0 : UInt8)).length = 32 := List.length_replicate
  have hsl69_17 : (List.replicate 16 (0 : UInt8)).length = 16 := List.length_replicate
  have hsl69_18 : (List.replicate 32 (0 : UInt8)).length = 32 := List.length_replicate
  have hsl69_19 : (List.replicate 32 (0 : UInt8)).length = 32 := List.length_replicate
  have hsl69_22 : (List.replicate 16 (0 : UInt8)).length = 16 := List.length_replicate
  have hsl69_23 : (List.replicate 32 (0 : UInt8)).length = 32 := List.length_replicate
  have hsl69_24 : (List.replicate 32 (0 : UInt8)).length = 32 := List.length_replicate
  have hsl69_27 : (List.replicate 16 (0 : UInt8)).length = 16 := List.length_replicate
  have hsl69_28 : (List.replicate 32 (0 : UInt8)).length = 32 := List.length_replicate
  have hsl69_29 : (List.replicate 32 (0 : UInt8)).length = 32 := List.length_replicate
  refine qq 0 30 (vss := [[.int .i64 0],[.int .i64 0],[.bool false],[.int .u64 0],bv (List.replicate 32 (0 : UInt8)),bv (List.replicate 32 (0 : UInt8)),[.bool false],[.int .u64 0],bv (List.replicate 32 (0 : UInt8)),bv (List.replicate 32 (0 : UInt8)),[.bool false],[.int .i64 0],bv (List.replicate 16 (0 : UInt8)),bv (List.replicate 32 (0 : UInt8)),bv (List.replicate 32 (0 : UInt8)),[.bool false],[.int .i64 0],bv (List.replicate 16 (0 : UInt8)),bv (List.replicate 32 (0 : UInt8)),bv (List.replicate 32 (0 : UInt8)),[.bool false],[.int .i64 0],bv (List.replicate 16 (0 : UInt8)),bv (List.replicate 32 (0 : UInt8)),bv (List.replicate 32 (0 : UInt8)),[.bool false],[.int .i64 0],bv (List.replicate 16 (0 : UInt8)),bv (List.replicate 32 (0 : UInt8)),bv (List.replicate 32 (0 : UInt8))]) hE rfl rfl hM rfl sz62 (by simp only [List.take_succ_cons,List.take_zero,List.drop_zero,List.drop_succ_cons];simp only [List.map_cons,List.map_nil,vh,List.length_cons,List.length_nil,List.length_replicate,hsl69_4,hsl69_5,hsl69_8,hsl69_9,hsl69_12,hsl69_13,hsl69_14,hsl69_17,hsl69_18,hsl69_19,hsl69_22,hsl69_23,hsl69_24,hsl69_27,hsl69_28,hsl69_29]) (by decide) rfl (one_fl ⟨one1 rfl,one1 rfl,one1 rfl,one1 rfl,vc _,vc _,one1 rfl,one1 rfl,vc _,vc _,one1 rfl,one1 rfl,vc _,vc _,vc _,one1 rfl,one1 rfl,vc _,vc _,vc _,one1 rfl,one1 rfl,vc _,vc _,vc _,one1 rfl,one1 rfl,vc _,vc _,vc _,trivial⟩) rfl (by intro X h;cases h) fun w4 hM=>?_
  try simp only [List.take_zero,List.take_succ_cons,List.drop_zero,List.drop_succ_cons,List.take_nil,List.drop_nil,List.nil_append,List.append_nil,List.cons_append] at hM
  exact sas hE rfl fun a hE=>qa (K4 (wp_ret (qf (qb (qj hE rfl (res_cellN rfl (hM.get 0 rfl) row62 rfl) rfl ⟨(by rw [e1];simp only [setS,newS,zH,zV,zS,slotT,List.flatten_cons,List.flatten_nil,List.append_nil,List.append_assoc,List.cons_append,List.nil_append];try rfl),hM.pick [] rfl⟩)))))
 ·replace hb10 := of_decide_eq_true (not_false' hb10)
  replace hb10 : (checkH h) = 0 := by omega
  have hck : checkH h = 0 := by omega
  refine gy hE rfl (sm hE rfl fun a hE=>gy hE rfl (sb hE rfl rfl bin_lss fun a hE=>pkf hE rfl fun a hE=>sm hE rfl fun a hE=>?_))
  refine hE.split 14 rfl (fun hb14 hE=>?_) (fun hb14 hE=>?_)
  ·replace hb14 := of_decide_eq_true hb14
   have e1 : remS h z = (zH,2) := by simp [remS,hb14]
   refine gt hE rfl fun a hE=>gt hE rfl fun a hE=>pkt hE rfl fun a hE=>sas hE rfl fun a hE=>qa (K3 (wct hE rfl (ww1 fun _ K4=>wpp (vf [] hE rfl zero62 (by kernel_rfl) fpl62 (by first | (simp [PartsOk,Value.cells];done) | (simp [PartsOk,Value.cells];omega)) rfl fun a hE=>?_))))
   replace hE := hE.cast 18 rfl (show _ = Value.agg ([[.int .i64 0],[.int .i64 0],[.bool false],[.int .u64 0],bv (List.replicate 32 (0 : UInt8)),bv (List.replicate 32 (0 : UInt8)),[.bool false],[.int .u64 0],bv (List.replicate 32 (0 : UInt8)),bv (List.replicate 32 (0 : UInt8)),[.bool false],[.int .i64 0],bv (List.replicate 16 (0 : UInt8)),bv (List.replicate 32 (0 : UInt8)),bv (List.replicate 32 (0 : UInt8)),[.bool false],[.int .i64 0],bv (List.replicate 16 (0 : UInt8)),bv (List.replicate 32 (0 : UInt8)),bv (List.replicate 32 (0 : UInt8)),[.bool false],[.int .i64 0],bv (List.replicate 16 (0 : UInt8)),bv (List.replicate 32 (0 : UInt8)),bv (List.replicate 32 (0 : UInt8)),[.bool false],[.int .i64 0],bv (List.replicate 16 (0 : UInt8)),bv (List.replicate 32 (0 : UInt8)),bv (List.replicate 32 (0 : UInt8))] : List (List Value)).flatten.toArray from (by first | rfl | simp [setAll] | (simp only [setAll,List.set_cons_zero,List.set_cons_succ,List.flatten_cons,List.flatten_nil,List.append_nil,List.append_assoc,List.replicate_succ,List.replicate_zero])))
   have hsl122_4 : (List.replicate 32 (0 : UInt8)).length = 32 := List.length_replicate
   have hsl122_5 : (List.replicate 32 (0 : UInt8)).length = 32 := List.length_replicate
   have hsl122_8 : (List.replicate 32 (0 : UInt8)).length = 32 := List.length_replicate
   have hsl122_9 : (List.replicate 32 (0 : UInt8)).length = 32 := List.length_replicate
   have hsl122_12 : (List.replicate 16 (0 : UInt8)).length = 16 := List.length_replicate
   have hsl122_13 : (List.replicate 32 (0 : UInt8)).length = 32 := List.length_replicate
   have hsl122_14 : (List.replicate 32 (0 : UInt8)).length = 32 := List.length_replicate
   have hsl122_17 : (List.replicate 16 (0 : UInt8)).length = 16 := List.length_replicate
   have hsl122_18 : (List.replicate 32 (0 : UInt8)).length = 32 := List.length_replicate
   have hsl122_19 : (List.replicate 32 (0 : UInt8)).length = 32 := List.length_replicate
   have hsl122_22 : (List.replicate 16 (0 : UInt8)).length = 16 := List.length_replicate
   have hsl122_23 : (List.replicate 32 (0 : UInt8)).length = 32 := List.length_replicate
   have hsl122_24 : (List.replicate 32 (0 : UInt8)).length = 32 := List.length_replicate
   have hsl122_27 : (List.replicate 16 (0 : UInt8)).length = 16 := List.length_replicate
   have hsl122_28 : (List.replicate 32 (0 : UInt8)).length = 32 := List.length_replicate
   have hsl122_29 : (List.replicate 32 (0 : UInt8)).length = 32 := List.length_replicate
   refine qq 0 30 (vss := [[.int .i64 0],[.int .i64 0],[.bool false],[.int .u64 0],bv (List.replicate 32 (0 : UInt8)),bv (List.replicate 32 (0 : UInt8)),[.bool false],[.int .u64 0],bv (List.replicate 32 (0 : UInt8)),bv (List.replicate 32 (0 : UInt8)),[.bool false],[.int .i64 0],bv (List.replicate 16 (0 : UInt8)),bv (List.replicate 32 (0 : UInt8)),bv (List.replicate 32 (0 : UInt8)),[.bool false],[.int .i64 0],bv (List.replicate 16 (0 : UInt8)),bv (List.replicate 32 (0 : UInt8)),bv (List.replicate 32 (0 : UInt8)),[.bool false],[.int .i64 0],bv (List.replicate 16 (0 : UInt8)),bv (List.replicate 32 (0 : UInt8)),bv (List.replicate 32 (0 : UInt8)),[.bool false],[.int .i64 0],bv (List.replicate 16 (0 : UInt8)),bv (List.replicate 32 (0 : UInt8)),bv (List.replicate 32 (0 : UInt8))]) hE rfl rfl hM rfl sz62 (by simp only [List.take_succ_cons,List.take_zero,List.drop_zero,List.drop_succ_cons];simp only [List.map_cons,List.map_nil,vh,List.length_cons,List.length_nil,List.length_replicate,hsl122_4,hsl122_5,hsl122_8,hsl122_9,hsl122_12,hsl122_13,hsl122_14,hsl122_17,hsl122_18,hsl122_19,hsl122_22,hsl122_23,hsl122_24,hsl122_27,hsl122_28,hsl122_29]) (by decide) rfl (one_fl ⟨one1 rfl,one1 rfl,one1 rfl,one1 rfl,vc _,vc _,one1 rfl,one1 rfl,vc _,vc _,one1 rfl,one1 rfl,vc _,vc _,vc _,one1 rfl,one1 rfl,vc _,vc _,vc _,one1 rfl,one1 rfl,vc _,vc _,vc _,one1 rfl,one1 rfl,vc _,vc _,vc _,trivial⟩) rfl (by intro X h;cases h) fun w4 hM=>?_
   try simp only [List.take_zero,List.take_succ_cons,List.drop_zero,List.drop_succ_cons,List.take_nil,List.drop_nil,List.nil_append,List.append_nil,List.cons_append] at hM
   exact sas hE rfl fun a hE=>qa (K4 (wp_ret (qf (qb (qj hE rfl (res_cellN rfl (hM.get 0 rfl) row62 rfl) rfl ⟨(by rw [e1];simp only [setS,newS,zH,zV,zS,slotT,List.flatten_cons,List.flatten_nil,List.append_nil,List.append_assoc,List.cons_append,List.nil_append];try rfl),hM.pick [] rfl⟩)))))
  ·replace hb14 := of_decide_eq_false hb14
   refine gy hE rfl (sm hE rfl fun a hE=>gy hE rfl (sb hE rfl rfl bin_geq fun a hE=>pkf hE rfl fun a hE=>sas hE rfl fun a hE=>qa (K3 ?_)))
   refine hE.split 6 rfl (fun hb6 hE=>?_) (fun hb6 hE=>?_)
   ·replace hb6 := of_decide_eq_true hb6
    have e1 : remS h z = (zH,2) := by have hz3 : 3 < z := (by omega);simp [remS,hz3]
    refine wct hE rfl (ww1 fun _ K4=>wpp (vf [] hE rfl zero62 (by kernel_rfl) fpl62 (by first | (simp [PartsOk,Value.cells];done) | (simp [PartsOk,Value.cells];omega)) rfl fun a hE=>?_))
    replace hE := hE.cast 18 rfl (show _ = Value.agg ([[.int .i64 0],[.int .i64 0],[.bool false],[.int .u64 0],bv (List.replicate 32 (0 : UInt8)),bv (List.replicate 32 (0 : UInt8)),[.bool false],[.int .u64 0],bv (List.replicate 32 (0 : UInt8)),bv (List.replicate 32 (0 : UInt8)),[.bool false],[.int .i64 0],bv (List.replicate 16 (0 : UInt8)),bv (List.replicate 32 (0 : UInt8)),bv (List.replicate 32 (0 : UInt8)),[.bool false],[.int .i64 0],bv (List.replicate 16 (0 : UInt8)),bv (List.replicate 32 (0 : UInt8)),bv (List.replicate 32 (0 : UInt8)),[.bool false],[.int .i64 0],bv (List.replicate 16 (0 : UInt8)),bv (List.replicate 32 (0 : UInt8)),bv (List.replicate 32 (0 : UInt8)),[.bool false],[.int .i64 0],bv (List.replicate 16 (0 : UInt8)),bv (List.replicate 32 (0 : UInt8)),bv (List.replicate 32 (0 : UInt8))] : List (List Value)).flatten.toArray from (by first | rfl | simp [setAll] | (simp only [setAll,List.set_cons_zero,List.set_cons_succ,List.flatten_cons,List.flatten_nil,List.append_nil,List.append_assoc,List.replicate_succ,List.replicate_zero])))
    have hsl169_4 : (List.replicate 32 (0 : UInt8)).length = 32 := List.length_replicate
    have hsl169_5 : (List.replicate 32 (0 : UInt8)).length = 32 := List.length_replicate
    have hsl169_8 : (List.replicate 32 (0 : UInt8)).length = 32 := List.length_replicate
    have hsl169_9 : (List.replicate 32 (0 : UInt8)).length = 32 := List.length_replicate
    have hsl169_12 : (List.replicate 16 (0 : UInt8)).length = 16 := List.length_replicate
    have hsl169_13 : (List.replicate 32 (0 : UInt8)).length = 32 := List.length_replicate
    have hsl169_14 : (List.replicate 32 (0 : UInt8)).length = 32 := List.length_replicate
    have hsl169_17 : (List.replicate 16 (0 : UInt8)).length = 16 := List.length_replicate
    have hsl169_18 : (List.replicate 32 (0 : UInt8)).length = 32 := List.length_replicate
    have hsl169_19 : (List.replicate 32 (0 : UInt8)).length = 32 := List.length_replicate
    have hsl169_22 : (List.replicate 16 (0 : UInt8)).length = 16 := List.length_replicate
    have hsl169_23 : (List.replicate 32 (0 : UInt8)).length = 32 := List.length_replicate
    have hsl169_24 : (List.replicate 32 (0 : UInt8)).length = 32 := List.length_replicate
    have hsl169_27 : (List.replicate 16 (0 : UInt8)).length = 16 := List.length_replicate
    have hsl169_28 : (List.replicate 32 (0 : UInt8)).length = 32 := List.length_replicate
    have hsl169_29 : (List.replicate 32 (0 : UInt8)).length = 32 := List.length_replicate
    refine qq 0 30 (vss := [[.int .i64 0],[.int .i64 0],[.bool false],[.int .u64 0],bv (List.replicate 32 (0 : UInt8)),bv (List.replicate 32 (0 : UInt8)),[.bool false],[.int .u64 0],bv (List.replicate 32 (0 : UInt8)),bv (List.replicate 32 (0 : UInt8)),[.bool false],[.int .i64 0],bv (List.replicate 16 (0 : UInt8)),bv (List.replicate 32 (0 : UInt8)),bv (List.replicate 32 (0 : UInt8)),[.bool false],[.int .i64 0],bv (List.replicate 16 (0 : UInt8)),bv (List.replicate 32 (0 : UInt8)),bv (List.replicate 32 (0 : UInt8)),[.bool false],[.int .i64 0],bv (List.replicate 16 (0 : UInt8)),bv (List.replicate 32 (0 : UInt8)),bv (List.replicate 32 (0 : UInt8)),[.bool false],[.int .i64 0],bv (List.replicate 16 (0 : UInt8)),bv (List.replicate 32 (0 : UInt8)),bv (List.replicate 32 (0 : UInt8))]) hE rfl rfl hM rfl sz62 (by simp only [List.take_succ_cons,List.take_zero,List.drop_zero,List.drop_succ_cons];simp only [List.map_cons,List.map_nil,vh,List.length_cons,List.length_nil,List.length_replicate,hsl169_4,hsl169_5,hsl169_8,hsl169_9,hsl169_12,hsl169_13,hsl169_14,hsl169_17,hsl169_18,hsl169_19,hsl169_22,hsl169_23,hsl169_24,hsl169_27,hsl169_28,hsl169_29]) (by decide) rfl (one_fl ⟨one1 rfl,one1 rfl,one1 rfl,one1 rfl,vc _,vc _,one1 rfl,one1 rfl,vc _,vc _,one1 rfl,one1 rfl,vc _,vc _,vc _,one1 rfl,one1 rfl,vc _,vc _,vc _,one1 rfl,one1 rfl,vc _,vc _,vc _,one1 rfl,one1 rfl,vc _,vc _,vc _,trivial⟩) rfl (by intro X h;cases h) fun w4 hM=>?_
    try simp only [List.take_zero,List.take_succ_cons,List.drop_zero,List.drop_succ_cons,List.take_nil,List.drop_nil,List.nil_append,List.append_nil,List.cons_append] at hM
    exact sas hE rfl fun a hE=>qa (K4 (wp_ret (qf (qb (qj hE rfl (res_cellN rfl (hM.get 0 rfl) row62 rfl) rfl ⟨(by rw [e1];simp only [setS,newS,zH,zV,zS,slotT,List.flatten_cons,List.flatten_nil,List.append_nil,List.append_assoc,List.cons_append,List.nil_append];try rfl),hM.pick [] rfl⟩)))))
   ·replace hb6 := of_decide_eq_false hb6
    refine wcf hE rfl (ww1 fun _ K4=>wpp (sm hE rfl fun a hE=>?_))
    rcases (show z = 0 ∨ z = 1 ∨ z = 2 ∨ z = 3 by omega) with hcase | hcase | hcase | hcase
    ·replace hE := hE.cast 1 rfl (show _ = Value.int .i64 0 from congrArg (Value.int .i64) hcase)
     replace hE := hE.cast 20 rfl (show _ = Value.int .i64 0 from congrArg (Value.int .i64) hcase)
     refine sf hE rfl fo62_2 fun a hE=>qp (j := 0) hE rfl rfl arr60 rfl (by decide) rfl fun a hE=>?_
     refine sf hE rfl fo59_0 fun a hE=>qm hE rfl (hM.get 1 rfl) rfl one4 (by intro X h;cases h) rfl fun a hE=>?_
     refine s_not hE rfl rfl fun a hE=>sas hE rfl fun a hE=>qa (K4 ?_)
     refine hE.split 19 rfl (fun hb19 hE=>?_) (fun hb19 hE=>?_)
     ·replace hb19 := not_true hb19
      have e1 : remS h z = (zH,5) := by simp [remS,hck,hcase,getS,hb19]
      refine wct hE rfl (ww1 fun _ K5=>wpp (vf [] hE rfl zero62 (by kernel_rfl) fpl62 (by first | (simp [PartsOk,Value.cells];done) | (simp [PartsOk,Value.cells];omega)) rfl fun a hE=>?_))
      replace hE := hE.cast 26 rfl (show _ = Value.agg ([[.int .i64 0],[.int .i64 0],[.bool false],[.int .u64 0],bv (List.replicate 32 (0 : UInt8)),bv (List.replicate 32 (0 : UInt8)),[.bool false],[.int .u64 0],bv (List.replicate 32 (0 : UInt8)),bv (List.replicate 32 (0 : UInt8)),[.bool false],[.int .i64 0],bv (List.replicate 16 (0 : UInt8)),bv (List.replicate 32 (0 : UInt8)),bv (List.replicate 32 (0 : UInt8)),[.bool false],[.int .i64 0],bv (List.replicate 16 (0 : UInt8)),bv (List.replicate 32 (0 : UInt8)),bv (List.replicate 32 (0 : UInt8)),[.bool false],[.int .i64 0],bv (List.replicate 16 (0 : UInt8)),bv (List.replicate 32 (0 : UInt8)),bv (List.replicate 32 (0 : UInt8)),[.bool false],[.int .i64 0],bv (List.replicate 16 (0 : UInt8)),bv (List.replicate 32 (0 : UInt8)),bv (List.replicate 32 (0 : UInt8))] : List (List Value)).flatten.toArray from (by first | rfl | simp [setAll] | (simp only [setAll,List.set_cons_zero,List.set_cons_succ,List.flatten_cons,List.flatten_nil,List.append_nil,List.append_assoc,List.replicate_succ,List.replicate_zero])))
      have hsl223_4 : (List.replicate 32 (0 : UInt8)).length = 32 := List.length_replicate
      have hsl223_5 : (List.replicate 32 (0 : UInt8)).length = 32 := List.length_replicate
      have hsl223_8 : (List.replicate 32 (0 : UInt8)).length = 32 := List.length_replicate
      have hsl223_9 : (List.replicate 32 (0 : UInt8)).length = 32 := List.length_replicate
      have hsl223_12 : (List.replicate 16 (0 : UInt8)).length = 16 := List.length_replicate
      have hsl223_13 : (List.replicate 32 (0 : UInt8)).length = 32 := List.length_replicate
      have hsl223_14 : (List.replicate 32 (0 : UInt8)).length = 32 := List.length_replicate
      have hsl223_17 : (List.replicate 16 (0 : UInt8)).length = 16 := List.length_replicate
      have hsl223_18 : (List.replicate 32 (0 : UInt8)).length = 32 := List.length_replicate
      have hsl223_19 : (List.replicate 32 (0 : UInt8)).length = 32 := List.length_replicate
      have hsl223_22 : (List.replicate 16 (0 : UInt8)).length = 16 := List.length_replicate
      have hsl223_23 : (List.replicate 32 (0 : UInt8)).length = 32 := List.length_replicate
      have hsl223_24 : (List.replicate 32 (0 : UInt8)).length = 32 := List.length_replicate
      have hsl223_27 : (List.replicate 16 (0 : UInt8)).length = 16 := List.length_replicate
      have hsl223_28 : (List.replicate 32 (0 : UInt8)).length = 32 := List.length_replicate
      have hsl223_29 : (List.replicate 32 (0 : UInt8)).length = 32 := List.length_replicate
      refine qq 0 30 (vss := [[.int .i64 0],[.int .i64 0],[.bool false],[.int .u64 0],bv (List.replicate 32 (0 : UInt8)),bv (List.replicate 32 (0 : UInt8)),[.bool false],[.int .u64 0],bv (List.replicate 32 (0 : UInt8)),bv (List.replicate 32 (0 : UInt8)),[.bool false],[.int .i64 0],bv (List.replicate 16 (0 : UInt8)),bv (List.replicate 32 (0 : UInt8)),bv (List.replicate 32 (0 : UInt8)),[.bool false],[.int .i64 0],bv (List.replicate 16 (0 : UInt8)),bv (List.replicate 32 (0 : UInt8)),bv (List.replicate 32 (0 : UInt8)),[.bool false],[.int .i64 0],bv (List.replicate 16 (0 : UInt8)),bv (List.replicate 32 (0 : UInt8)),bv (List.replicate 32 (0 : UInt8)),[.bool false],[.int .i64 0],bv (List.replicate 16 (0 : UInt8)),bv (List.replicate 32 (0 : UInt8)),bv (List.replicate 32 (0 : UInt8))]) hE rfl rfl hM rfl sz62 (by simp only [List.take_succ_cons,List.take_zero,List.drop_zero,List.drop_succ_cons];simp only [List.map_cons,List.map_nil,vh,List.length_cons,List.length_nil,List.length_replicate,hsl223_4,hsl223_5,hsl223_8,hsl223_9,hsl223_12,hsl223_13,hsl223_14,hsl223_17,hsl223_18,hsl223_19,hsl223_22,hsl223_23,hsl223_24,hsl223_27,hsl223_28,hsl223_29]) (by decide) rfl (one_fl ⟨one1 rfl,one1 rfl,one1 rfl,one1 rfl,vc _,vc _,one1 rfl,one1 rfl,vc _,vc _,one1 rfl,one1 rfl,vc _,vc _,vc _,one1 rfl,one1 rfl,vc _,vc _,vc _,one1 rfl,one1 rfl,vc _,vc _,vc _,one1 rfl,one1 rfl,vc _,vc _,vc _,trivial⟩) rfl (by intro X h;cases h) fun w4 hM=>?_
      try simp only [List.take_zero,List.take_succ_cons,List.drop_zero,List.drop_succ_cons,List.take_nil,List.drop_nil,List.nil_append,List.append_nil,List.cons_append] at hM
      exact sas hE rfl fun a hE=>qa (K5 (wp_ret (qf (qb (qj hE rfl (res_cellN rfl (hM.get 0 rfl) row62 rfl) rfl ⟨(by rw [e1];simp only [setS,newS,zH,zV,zS,slotT,List.flatten_cons,List.flatten_nil,List.append_nil,List.append_assoc,List.cons_append,List.nil_append];try rfl),hM.pick [] rfl⟩)))))
     ·replace hb19 := not_false' hb19
      have e1 : remS h z = (setS h 0 zS,0) := by simp [remS,hck,hcase,getS,hb19]
      refine wcf hE rfl (wp_skip (qe (K2 (ww1 fun _ K5=>wpp (sm hE rfl fun a hE=>vf [] hE rfl zero59 (by kernel_rfl) fpl59 (by first | (simp [PartsOk,Value.cells];done) | (simp [PartsOk,Value.cells];omega)) rfl fun a hE=>?_)))))
      replace hE := hE.cast 28 rfl (show _ = Value.agg ([[.bool false],[.int .i64 0],bv (List.replicate 16 (0 : UInt8)),bv (List.replicate 32 (0 : UInt8)),bv (List.replicate 32 (0 : UInt8))] : List (List Value)).flatten.toArray from (by first | rfl | simp [setAll] | (simp only [setAll,List.set_cons_zero,List.set_cons_succ,List.flatten_cons,List.flatten_nil,List.append_nil,List.append_assoc,List.replicate_succ,List.replicate_zero])))
      refine sf hE rfl fo62_2 fun a hE=>qp (j := 0) hE rfl rfl arr60 rfl (by decide) rfl fun a hE=>?_
      have hsl264_2 : (List.replicate 16 (0 : UInt8)).length = 16 := List.length_replicate
      have hsl264_3 : (List.replicate 32 (0 : UInt8)).length = 32 := List.length_replicate
      have hsl264_4 : (List.replicate 32 (0 : UInt8)).length = 32 := List.length_replicate
      replace hM : Mem _ _ w3 [_,_] := hM.pick [1,0] rfl
      refine qq 10 5 (vss := [[.bool false],[.int .i64 0],bv (List.replicate 16 (0 : UInt8)),bv (List.replicate 32 (0 : UInt8)),bv (List.replicate 32 (0 : UInt8))]) hE rfl rfl hM rfl sz59 (by simp only [List.take_succ_cons,List.take_zero,List.drop_zero,List.drop_succ_cons];simp only [List.map_cons,List.map_nil,vh,List.length_cons,List.length_nil,List.length_replicate,hsl264_2,hsl264_3,hsl264_4]) (by decide) rfl (one_fl ⟨one1 rfl,one1 rfl,vc _,vc _,vc _,trivial⟩) rfl (by intro X h;cases h) fun w4 hM=>?_
      try simp only [List.take_zero,List.take_succ_cons,List.drop_zero,List.drop_succ_cons,List.take_nil,List.drop_nil,List.nil_append,List.append_nil,List.cons_append] at hM
      refine qa (K5 (ww1 fun _ K6=>wpp (ql hE rfl (hM.get 0 rfl) row62 rfl (by intro X h;cases h) rfl fun a hE=>?_)))
      replace hE := hE.cast 31 rfl (show _ = Value.agg ([[.int .i64 h.m],[.int .i64 h.r],[.bool h.v0.1],[.int .u64 ((h.v0.2.1 : Nat) : Int)],bv h.v0.2.2.1,bv h.v0.2.2.2,[.bool h.v1.1],[.int .u64 ((h.v1.2.1 : Nat) : Int)],bv h.v1.2.2.1,bv h.v1.2.2.2,[.bool false],[.int .i64 0],bv (List.replicate 16 (0 : UInt8)),bv (List.replicate 32 (0 : UInt8)),bv (List.replicate 32 (0 : UInt8)),[.bool h.s1.1],[.int .i64 h.s1.2.1],bv h.s1.2.2.1,bv h.s1.2.2.2.1,bv h.s1.2.2.2.2,[.bool h.s2.1],[.int .i64 h.s2.2.1],bv h.s2.2.2.1,bv h.s2.2.2.2.1,bv h.s2.2.2.2.2,[.bool h.s3.1],[.int .i64 h.s3.2.1],bv h.s3.2.2.1,bv h.s3.2.2.2.1,bv h.s3.2.2.2.2] : List (List Value)).flatten.toArray from (by first | (simp only [List.flatten_cons,List.flatten_nil,List.append_nil,List.append_assoc];done) | rfl))
      have hsl277_4 : h.v0.2.2.1.length = 32 := hk_h.v0.2.1
      have hsl277_5 : h.v0.2.2.2.length = 32 := hk_h.v0.2.2
      have hsl277_8 : h.v1.2.2.1.length = 32 := hk_h.v1.2.1
      have hsl277_9 : h.v1.2.2.2.length = 32 := hk_h.v1.2.2
      have hsl277_12 : (List.replicate 16 (0 : UInt8)).length = 16 := List.length_replicate
      have hsl277_13 : (List.replicate 32 (0 : UInt8)).length = 32 := List.length_replicate
      have hsl277_14 : (List.replicate 32 (0 : UInt8)).length = 32 := List.length_replicate
      have hsl277_17 : h.s1.2.2.1.length = 16 := hk_h.s1.2.1
      have hsl277_18 : h.s1.2.2.2.1.length = 32 := hk_h.s1.2.2.1
      have hsl277_19 : h.s1.2.2.2.2.length = 32 := hk_h.s1.2.2.2
      have hsl277_22 : h.s2.2.2.1.length = 16 := hk_h.s2.2.1
      have hsl277_23 : h.s2.2.2.2.1.length = 32 := hk_h.s2.2.2.1
      have hsl277_24 : h.s2.2.2.2.2.length = 32 := hk_h.s2.2.2.2
      have hsl277_27 : h.s3.2.2.1.length = 16 := hk_h.s3.2.1
      have hsl277_28 : h.s3.2.2.2.1.length = 32 := hk_h.s3.2.2.1
      have hsl277_29 : h.s3.2.2.2.2.length = 32 := hk_h.s3.2.2.2
      replace hM : Mem _ _ w4 [_,_] := hM.pick [1,0] rfl
      refine qq 0 30 (vss := [[.int .i64 h.m],[.int .i64 h.r],[.bool h.v0.1],[.int .u64 ((h.v0.2.1 : Nat) : Int)],bv h.v0.2.2.1,bv h.v0.2.2.2,[.bool h.v1.1],[.int .u64 ((h.v1.2.1 : Nat) : Int)],bv h.v1.2.2.1,bv h.v1.2.2.2,[.bool false],[.int .i64 0],bv (List.replicate 16 (0 : UInt8)),bv (List.replicate 32 (0 : UInt8)),bv (List.replicate 32 (0 : UInt8)),[.bool h.s1.1],[.int .i64 h.s1.2.1],bv h.s1.2.2.1,bv h.s1.2.2.2.1,bv h.s1.2.2.2.2,[.bool h.s2.1],[.int .i64 h.s2.2.1],bv h.s2.2.2.1,bv h.s2.2.2.2.1,bv h.s2.2.2.2.2,[.bool h.s3.1],[.int .i64 h.s3.2.1],bv h.s3.2.2.1,bv h.s3.2.2.2.1,bv h.s3.2.2.2.2]) hE rfl rfl hM rfl sz62 (by simp only [List.take_succ_cons,List.take_zero,List.drop_zero,List.drop_succ_cons];simp only [List.map_cons,List.map_nil,vh,List.length_cons,List.length_nil,List.length_replicate,hsl277_4,hsl277_5,hsl277_8,hsl277_9,hsl277_12,hsl277_13,hsl277_14,hsl277_17,hsl277_18,hsl277_19,hsl277_22,hsl277_23,hsl277_24,hsl277_27,hsl277_28,hsl277_29]) (by decide) rfl (one_fl ⟨one1 rfl,one1 rfl,one1 rfl,one1 rfl,vc _,vc _,one1 rfl,one1 rfl,vc _,vc _,one1 rfl,one1 rfl,vc _,vc _,vc _,one1 rfl,one1 rfl,vc _,vc _,vc _,one1 rfl,one1 rfl,vc _,vc _,vc _,one1 rfl,one1 rfl,vc _,vc _,vc _,trivial⟩) rfl (by intro X h;cases h) fun w5 hM=>?_
      try simp only [List.take_zero,List.take_succ_cons,List.drop_zero,List.drop_succ_cons,List.take_nil,List.drop_nil,List.nil_append,List.append_nil,List.cons_append] at hM
      exact sas hE rfl fun a hE=>qa (K6 (wp_ret (qj hE rfl (res_cellN rfl (hM.get 0 rfl) row62 rfl) rfl ⟨(by rw [e1];simp only [setS,newS,zH,zV,zS,slotT,List.flatten_cons,List.flatten_nil,List.append_nil,List.append_assoc,List.cons_append,List.nil_append];try rfl),hM.pick [] rfl⟩)))
    ·replace hE := hE.cast 1 rfl (show _ = Value.int .i64 1 from congrArg (Value.int .i64) hcase)
     replace hE := hE.cast 20 rfl (show _ = Value.int .i64 1 from congrArg (Value.int .i64) hcase)
     refine sf hE rfl fo62_2 fun a hE=>qp (j := 1) hE rfl rfl arr60 rfl (by decide) rfl fun a hE=>?_
     refine sf hE rfl fo59_0 fun a hE=>qm hE rfl (hM.get 1 rfl) rfl one4 (by intro X h;cases h) rfl fun a hE=>?_
     refine s_not hE rfl rfl fun a hE=>sas hE rfl fun a hE=>qa (K4 ?_)
     refine hE.split 19 rfl (fun hb19 hE=>?_) (fun hb19 hE=>?_)
     ·replace hb19 := not_true hb19
      have e1 : remS h z = (zH,5) := by simp [remS,hck,hcase,getS,hb19]
      refine wct hE rfl (ww1 fun _ K5=>wpp (vf [] hE rfl zero62 (by kernel_rfl) fpl62 (by first | (simp [PartsOk,Value.cells];done) | (simp [PartsOk,Value.cells];omega)) rfl fun a hE=>?_))
      replace hE := hE.cast 26 rfl (show _ = Value.agg ([[.int .i64 0],[.int .i64 0],[.bool false],[.int .u64 0],bv (List.replicate 32 (0 : UInt8)),bv (List.replicate 32 (0 : UInt8)),[.bool false],[.int .u64 0],bv (List.replicate 32 (0 : UInt8)),bv (List.replicate 32 (0 : UInt8)),[.bool false],[.int .i64 0],bv (List.replicate 16 (0 : UInt8)),bv (List.replicate 32 (0 : UInt8)),bv (List.replicate 32 (0 : UInt8)),[.bool false],[.int .i64 0],bv (List.replicate 16 (0 : UInt8)),bv (List.replicate 32 (0 : UInt8)),bv (List.replicate 32 (0 : UInt8)),[.bool false],[.int .i64 0],bv (List.replicate 16 (0 : UInt8)),bv (List.replicate 32 (0 : UInt8)),bv (List.replicate 32 (0 : UInt8)),[.bool false],[.int .i64 0],bv (List.replicate 16 (0 : UInt8)),bv (List.replicate 32 (0 : UInt8)),bv (List.replicate 32 (0 : UInt8))] : List (List Value)).flatten.toArray from (by first | rfl | simp [setAll] | (simp only [setAll,List.set_cons_zero,List.set_cons_succ,List.flatten_cons,List.flatten_nil,List.append_nil,List.append_assoc,List.replicate_succ,List.replicate_zero])))
      have hsl323_4 : (List.replicate 32 (0 : UInt8)).length = 32 := List.length_replicate
      have hsl323_5 : (List.replicate 32 (0 : UInt8)).length = 32 := List.length_replicate
      have hsl323_8 : (List.replicate 32 (0 : UInt8)).length = 32 := List.length_replicate
      have hsl323_9 : (List.replicate 32 (0 : UInt8)).length = 32 := List.length_replicate
      have hsl323_12 : (List.replicate 16 (0 : UInt8)).length = 16 := List.length_replicate
      have hsl323_13 : (List.replicate 32 (0 : UInt8)).length = 32 := List.length_replicate
      have hsl323_14 : (List.replicate 32 (0 : UInt8)).length = 32 := List.length_replicate
      have hsl323_17 : (List.replicate 16 (0 : UInt8)).length = 16 := List.length_replicate
      have hsl323_18 : (List.replicate 32 (0 : UInt8)).length = 32 := List.length_replicate
      have hsl323_19 : (List.replicate 32 (0 : UInt8)).length = 32 := List.length_replicate
      have hsl323_22 : (List.replicate 16 (0 : UInt8)).length = 16 := List.length_replicate
      have hsl323_23 : (List.replicate 32 (0 : UInt8)).length = 32 := List.length_replicate
      have hsl323_24 : (List.replicate 32 (0 : UInt8)).length = 32 := List.length_replicate
      have hsl323_27 : (List.replicate 16 (0 : UInt8)).length = 16 := List.length_replicate
      have hsl323_28 : (List.replicate 32 (0 : UInt8)).length = 32 := List.length_replicate
      have hsl323_29 : (List.replicate 32 (0 : UInt8)).length = 32 := List.length_replicate
      refine qq 0 30 (vss := [[.int .i64 0],[.int .i64 0],[.bool false],[.int .u64 0],bv (List.replicate 32 (0 : UInt8)),bv (List.replicate 32 (0 : UInt8)),[.bool false],[.int .u64 0],bv (List.replicate 32 (0 : UInt8)),bv (List.replicate 32 (0 : UInt8)),[.bool false],[.int .i64 0],bv (List.replicate 16 (0 : UInt8)),bv (List.replicate 32 (0 : UInt8)),bv (List.replicate 32 (0 : UInt8)),[.bool false],[.int .i64 0],bv (List.replicate 16 (0 : UInt8)),bv (List.replicate 32 (0 : UInt8)),bv (List.replicate 32 (0 : UInt8)),[.bool false],[.int .i64 0],bv (List.replicate 16 (0 : UInt8)),bv (List.replicate 32 (0 : UInt8)),bv (List.replicate 32 (0 : UInt8)),[.bool false],[.int .i64 0],bv (List.replicate 16 (0 : UInt8)),bv (List.replicate 32 (0 : UInt8)),bv (List.replicate 32 (0 : UInt8))]) hE rfl rfl hM rfl sz62 (by simp only [List.take_succ_cons,List.take_zero,List.drop_zero,List.drop_succ_cons];simp only [List.map_cons,List.map_nil,vh,List.length_cons,List.length_nil,List.length_replicate,hsl323_4,hsl323_5,hsl323_8,hsl323_9,hsl323_12,hsl323_13,hsl323_14,hsl323_17,hsl323_18,hsl323_19,hsl323_22,hsl323_23,hsl323_24,hsl323_27,hsl323_28,hsl323_29]) (by decide) rfl (one_fl ⟨one1 rfl,one1 rfl,one1 rfl,one1 rfl,vc _,vc _,one1 rfl,one1 rfl,vc _,vc _,one1 rfl,one1 rfl,vc _,vc _,vc _,one1 rfl,one1 rfl,vc _,vc _,vc _,one1 rfl,one1 rfl,vc _,vc _,vc _,one1 rfl,one1 rfl,vc _,vc _,vc _,trivial⟩) rfl (by intro X h;cases h) fun w4 hM=>?_
      try simp only [List.take_zero,List.take_succ_cons,List.drop_zero,List.drop_succ_cons,List.take_nil,List.drop_nil,List.nil_append,List.append_nil,List.cons_append] at hM
      exact sas hE rfl fun a hE=>qa (K5 (wp_ret (qf (qb (qj hE rfl (res_cellN rfl (hM.get 0 rfl) row62 rfl) rfl ⟨(by rw [e1];simp only [setS,newS,zH,zV,zS,slotT,List.flatten_cons,List.flatten_nil,List.append_nil,List.append_assoc,List.cons_append,List.nil_append];try rfl),hM.pick [] rfl⟩)))))
     ·replace hb19 := not_false' hb19
      have e1 : remS h z = (setS h 1 zS,0) := by simp [remS,hck,hcase,getS,hb19]
      refine wcf hE rfl (wp_skip (qe (K2 (ww1 fun _ K5=>wpp (sm hE rfl fun a hE=>vf [] hE rfl zero59 (by kernel_rfl) fpl59 (by first | (simp [PartsOk,Value.cells];done) | (simp [PartsOk,Value.cells];omega)) rfl fun a hE=>?_)))))
      replace hE := hE.cast 28 rfl (show _ = Value.agg ([[.bool false],[.int .i64 0],bv (List.replicate 16 (0 : UInt8)),bv (List.replicate 32 (0 : UInt8)),bv (List.replicate 32 (0 : UInt8))] : List (List Value)).flatten.toArray from (by first | rfl | simp [setAll] | (simp only [setAll,List.set_cons_zero,List.set_cons_succ,List.flatten_cons,List.flatten_nil,List.append_nil,List.append_assoc,List.replicate_succ,List.replicate_zero])))
      refine sf hE rfl fo62_2 fun a hE=>qp (j := 1) hE rfl rfl arr60 rfl (by decide) rfl fun a hE=>?_
      have hsl364_2 : (List.replicate 16 (0 : UInt8)).length = 16 := List.length_replicate
      have hsl364_3 : (List.replicate 32 (0 : UInt8)).length = 32 := List.length_replicate
      have hsl364_4 : (List.replicate 32 (0 : UInt8)).length = 32 := List.length_replicate
      replace hM : Mem _ _ w3 [_,_] := hM.pick [1,0] rfl
      refine qq 15 5 (vss := [[.bool false],[.int .i64 0],bv (List.replicate 16 (0 : UInt8)),bv (List.replicate 32 (0 : UInt8)),bv (List.replicate 32 (0 : UInt8))]) hE rfl rfl hM rfl sz59 (by simp only [List.take_succ_cons,List.take_zero,List.drop_zero,List.drop_succ_cons];simp only [List.map_cons,List.map_nil,vh,List.length_cons,List.length_nil,List.length_replicate,hsl364_2,hsl364_3,hsl364_4]) (by decide) rfl (one_fl ⟨one1 rfl,one1 rfl,vc _,vc _,vc _,trivial⟩) rfl (by intro X h;cases h) fun w4 hM=>?_
      try simp only [List.take_zero,List.take_succ_cons,List.drop_zero,List.drop_succ_cons,List.take_nil,List.drop_nil,List.nil_append,List.append_nil,List.cons_append] at hM
      refine qa (K5 (ww1 fun _ K6=>wpp (ql hE rfl (hM.get 0 rfl) row62 rfl (by intro X h;cases h) rfl fun a hE=>?_)))
      replace hE := hE.cast 31 rfl (show _ = Value.agg ([[.int .i64 h.m],[.int .i64 h.r],[.bool h.v0.1],[.int .u64 ((h.v0.2.1 : Nat) : Int)],bv h.v0.2.2.1,bv h.v0.2.2.2,[.bool h.v1.1],[.int .u64 ((h.v1.2.1 : Nat) : Int)],bv h.v1.2.2.1,bv h.v1.2.2.2,[.bool h.s0.1],[.int .i64 h.s0.2.1],bv h.s0.2.2.1,bv h.s0.2.2.2.1,bv h.s0.2.2.2.2,[.bool false],[.int .i64 0],bv (List.replicate 16 (0 : UInt8)),bv (List.replicate 32 (0 : UInt8)),bv (List.replicate 32 (0 : UInt8)),[.bool h.s2.1],[.int .i64 h.s2.2.1],bv h.s2.2.2.1,bv h.s2.2.2.2.1,bv h.s2.2.2.2.2,[.bool h.s3.1],[.int .i64 h.s3.2.1],bv h.s3.2.2.1,bv h.s3.2.2.2.1,bv h.s3.2.2.2.2] : List (List Value)).flatten.toArray from (by first | (simp only [List.flatten_cons,List.flatten_nil,List.append_nil,List.append_assoc];done) | rfl))
      have hsl377_4 : h.v0.2.2.1.length = 32 := hk_h.v0.2.1
      have hsl377_5 : h.v0.2.2.2.length = 32 := hk_h.v0.2.2
      have hsl377_8 : h.v1.2.2.1.length = 32 := hk_h.v1.2.1
      have hsl377_9 : h.v1.2.2.2.length = 32 := hk_h.v1.2.2
      have hsl377_12 : h.s0.2.2.1.length = 16 := hk_h.s0.2.1
      have hsl377_13 : h.s0.2.2.2.1.length = 32 := hk_h.s0.2.2.1
      have hsl377_14 : h.s0.2.2.2.2.length = 32 := hk_h.s0.2.2.2
      have hsl377_17 : (List.replicate 16 (0 : UInt8)).length = 16 := List.length_replicate
      have hsl377_18 : (List.replicate 32 (0 : UInt8)).length = 32 := List.length_replicate
      have hsl377_19 : (List.replicate 32 (0 : UInt8)).length = 32 := List.length_replicate
      have hsl377_22 : h.s2.2.2.1.length = 16 := hk_h.s2.2.1
      have hsl377_23 : h.s2.2.2.2.1.length = 32 := hk_h.s2.2.2.1
      have hsl377_24 : h.s2.2.2.2.2.length = 32 := hk_h.s2.2.2.2
      have hsl377_27 : h.s3.2.2.1.length = 16 := hk_h.s3.2.1
      have hsl377_28 : h.s3.2.2.2.1.length = 32 := hk_h.s3.2.2.1
      have hsl377_29 : h.s3.2.2.2.2.length = 32 := hk_h.s3.2.2.2
      replace hM : Mem _ _ w4 [_,_] := hM.pick [1,0] rfl
      refine qq 0 30 (vss := [[.int .i64 h.m],[.int .i64 h.r],[.bool h.v0.1],[.int .u64 ((h.v0.2.1 : Nat) : Int)],bv h.v0.2.2.1,bv h.v0.2.2.2,[.bool h.v1.1],[.int .u64 ((h.v1.2.1 : Nat) : Int)],bv h.v1.2.2.1,bv h.v1.2.2.2,[.bool h.s0.1],[.int .i64 h.s0.2.1],bv h.s0.2.2.1,bv h.s0.2.2.2.1,bv h.s0.2.2.2.2,[.bool false],[.int .i64 0],bv (List.replicate 16 (0 : UInt8)),bv (List.replicate 32 (0 : UInt8)),bv (List.replicate 32 (0 : UInt8)),[.bool h.s2.1],[.int .i64 h.s2.2.1],bv h.s2.2.2.1,bv h.s2.2.2.2.1,bv h.s2.2.2.2.2,[.bool h.s3.1],[.int .i64 h.s3.2.1],bv h.s3.2.2.1,bv h.s3.2.2.2.1,bv h.s3.2.2.2.2]) hE rfl rfl hM rfl sz62 (by simp only [List.take_succ_cons,List.take_zero,List.drop_zero,List.drop_succ_cons];simp only [List.map_cons,List.map_nil,vh,List.length_cons,List.length_nil,List.length_replicate,hsl377_4,hsl377_5,hsl377_8,hsl377_9,hsl377_12,hsl377_13,hsl377_14,hsl377_17,hsl377_18,hsl377_19,hsl377_22,hsl377_23,hsl377_24,hsl377_27,hsl377_28,hsl377_29]) (by decide) rfl (one_fl ⟨one1 rfl,one1 rfl,one1 rfl,one1 rfl,vc _,vc _,one1 rfl,one1 rfl,vc _,vc _,one1 rfl,one1 rfl,vc _,vc _,vc _,one1 rfl,one1 rfl,vc _,vc _,vc _,one1 rfl,one1 rfl,vc _,vc _,vc _,one1 rfl,one1 rfl,vc _,vc _,vc _,trivial⟩) rfl (by intro X h;cases h) fun w5 hM=>?_
      try simp only [List.take_zero,List.take_succ_cons,List.drop_zero,List.drop_succ_cons,List.take_nil,List.drop_nil,List.nil_append,List.append_nil,List.cons_append] at hM
      exact sas hE rfl fun a hE=>qa (K6 (wp_ret (qj hE rfl (res_cellN rfl (hM.get 0 rfl) row62 rfl) rfl ⟨(by rw [e1];simp only [setS,newS,zH,zV,zS,slotT,List.flatten_cons,List.flatten_nil,List.append_nil,List.append_assoc,List.cons_append,List.nil_append];try rfl),hM.pick [] rfl⟩)))
    ·replace hE := hE.cast 1 rfl (show _ = Value.int .i64 2 from congrArg (Value.int .i64) hcase)
     replace hE := hE.cast 20 rfl (show _ = Value.int .i64 2 from congrArg (Value.int .i64) hcase)
     refine sf hE rfl fo62_2 fun a hE=>qp (j := 2) hE rfl rfl arr60 rfl (by decide) rfl fun a hE=>?_
     refine sf hE rfl fo59_0 fun a hE=>qm hE rfl (hM.get 1 rfl) rfl one4 (by intro X h;cases h) rfl fun a hE=>?_
     refine s_not hE rfl rfl fun a hE=>sas hE rfl fun a hE=>qa (K4 ?_)
     refine hE.split 19 rfl (fun hb19 hE=>?_) (fun hb19 hE=>?_)
     ·replace hb19 := not_true hb19
      have e1 : remS h z = (zH,5) := by simp [remS,hck,hcase,getS,hb19]
      refine wct hE rfl (ww1 fun _ K5=>wpp (vf [] hE rfl zero62 (by kernel_rfl) fpl62 (by first | (simp [PartsOk,Value.cells];done) | (simp [PartsOk,Value.cells];omega)) rfl fun a hE=>?_))
      replace hE := hE.cast 26 rfl (show _ = Value.agg ([[.int .i64 0],[.int .i64 0],[.bool false],[.int .u64 0],bv (List.replicate 32 (0 : UInt8)),bv (List.replicate 32 (0 : UInt8)),[.bool false],[.int .u64 0],bv (List.replicate 32 (0 : UInt8)),bv (List.replicate 32 (0 : UInt8)),[.bool false],[.int .i64 0],bv (List.replicate 16 (0 : UInt8)),bv (List.replicate 32 (0 : UInt8)),bv (List.replicate 32 (0 : UInt8)),[.bool false],[.int .i64 0],bv (List.replicate 16 (0 : UInt8)),bv (List.replicate 32 (0 : UInt8)),bv (List.replicate 32 (0 : UInt8)),[.bool false],[.int .i64 0],bv (List.replicate 16 (0 : UInt8)),bv (List.replicate 32 (0 : UInt8)),bv (List.replicate 32 (0 : UInt8)),[.bool false],[.int .i64 0],bv (List.replicate 16 (0 : UInt8)),bv (List.replicate 32 (0 : UInt8)),bv (List.replicate 32 (0 : UInt8))] : List (List Value)).flatten.toArray from (by first | rfl | simp [setAll] | (simp only [setAll,List.set_cons_zero,List.set_cons_succ,List.flatten_cons,List.flatten_nil,List.append_nil,List.append_assoc,List.replicate_succ,List.replicate_zero])))
      have hsl423_4 : (List.replicate 32 (0 : UInt8)).length = 32 := List.length_replicate
      have hsl423_5 : (List.replicate 32 (0 : UInt8)).length = 32 := List.length_replicate
      have hsl423_8 : (List.replicate 32 (0 : UInt8)).length = 32 := List.length_replicate
      have hsl423_9 : (List.replicate 32 (0 : UInt8)).length = 32 := List.length_replicate
      have hsl423_12 : (List.replicate 16 (0 : UInt8)).length = 16 := List.length_replicate
      have hsl423_13 : (List.replicate 32 (0 : UInt8)).length = 32 := List.length_replicate
      have hsl423_14 : (List.replicate 32 (0 : UInt8)).length = 32 := List.length_replicate
      have hsl423_17 : (List.replicate 16 (0 : UInt8)).length = 16 := List.length_replicate
      have hsl423_18 : (List.replicate 32 (0 : UInt8)).length = 32 := List.length_replicate
      have hsl423_19 : (List.replicate 32 (0 : UInt8)).length = 32 := List.length_replicate
      have hsl423_22 : (List.replicate 16 (0 : UInt8)).length = 16 := List.length_replicate
      have hsl423_23 : (List.replicate 32 (0 : UInt8)).length = 32 := List.length_replicate
      have hsl423_24 : (List.replicate 32 (0 : UInt8)).length = 32 := List.length_replicate
      have hsl423_27 : (List.replicate 16 (0 : UInt8)).length = 16 := List.length_replicate
      have hsl423_28 : (List.replicate 32 (0 : UInt8)).length = 32 := List.length_replicate
      have hsl423_29 : (List.replicate 32 (0 : UInt8)).length = 32 := List.length_replicate
      refine qq 0 30 (vss := [[.int .i64 0],[.int .i64 0],[.bool false],[.int .u64 0],bv (List.replicate 32 (0 : UInt8)),bv (List.replicate 32 (0 : UInt8)),[.bool false],[.int .u64 0],bv (List.replicate 32 (0 : UInt8)),bv (List.replicate 32 (0 : UInt8)),[.bool false],[.int .i64 0],bv (List.replicate 16 (0 : UInt8)),bv (List.replicate 32 (0 : UInt8)),bv (List.replicate 32 (0 : UInt8)),[.bool false],[.int .i64 0],bv (List.replicate 16 (0 : UInt8)),bv (List.replicate 32 (0 : UInt8)),bv (List.replicate 32 (0 : UInt8)),[.bool false],[.int .i64 0],bv (List.replicate 16 (0 : UInt8)),bv (List.replicate 32 (0 : UInt8)),bv (List.replicate 32 (0 : UInt8)),[.bool false],[.int .i64 0],bv (List.replicate 16 (0 : UInt8)),bv (List.replicate 32 (0 : UInt8)),bv (List.replicate 32 (0 : UInt8))]) hE rfl rfl hM rfl sz62 (by simp only [List.take_succ_cons,List.take_zero,List.drop_zero,List.drop_succ_cons];simp only [List.map_cons,List.map_nil,vh,List.length_cons,List.length_nil,List.length_replicate,hsl423_4,hsl423_5,hsl423_8,hsl423_9,hsl423_12,hsl423_13,hsl423_14,hsl423_17,hsl423_18,hsl423_19,hsl423_22,hsl423_23,hsl423_24,hsl423_27,hsl423_28,hsl423_29]) (by decide) rfl (one_fl ⟨one1 rfl,one1 rfl,one1 rfl,one1 rfl,vc _,vc _,one1 rfl,one1 rfl,vc _,vc _,one1 rfl,one1 rfl,vc _,vc _,vc _,one1 rfl,one1 rfl,vc _,vc _,vc _,one1 rfl,one1 rfl,vc _,vc _,vc _,one1 rfl,one1 rfl,vc _,vc _,vc _,trivial⟩) rfl (by intro X h;cases h) fun w4 hM=>?_
      try simp only [List.take_zero,List.take_succ_cons,List.drop_zero,List.drop_succ_cons,List.take_nil,List.drop_nil,List.nil_append,List.append_nil,List.cons_append] at hM
      exact sas hE rfl fun a hE=>qa (K5 (wp_ret (qf (qb (qj hE rfl (res_cellN rfl (hM.get 0 rfl) row62 rfl) rfl ⟨(by rw [e1];simp only [setS,newS,zH,zV,zS,slotT,List.flatten_cons,List.flatten_nil,List.append_nil,List.append_assoc,List.cons_append,List.nil_append];try rfl),hM.pick [] rfl⟩)))))
     ·replace hb19 := not_false' hb19
      have e1 : remS h z = (setS h 2 zS,0) := by simp [remS,hck,hcase,getS,hb19]
      refine wcf hE rfl (wp_skip (qe (K2 (ww1 fun _ K5=>wpp (sm hE rfl fun a hE=>vf [] hE rfl zero59 (by kernel_rfl) fpl59 (by first | (simp [PartsOk,Value.cells];done) | (simp [PartsOk,Value.cells];omega)) rfl fun a hE=>?_)))))
      replace hE := hE.cast 28 rfl (show _ = Value.agg ([[.bool false],[.int .i64 0],bv (List.replicate 16 (0 : UInt8)),bv (List.replicate 32 (0 : UInt8)),bv (List.replicate 32 (0 : UInt8))] : List (List Value)).flatten.toArray from (by first | rfl | simp [setAll] | (simp only [setAll,List.set_cons_zero,List.set_cons_succ,List.flatten_cons,List.flatten_nil,List.append_nil,List.append_assoc,List.replicate_succ,List.replicate_zero])))
      refine sf hE rfl fo62_2 fun a hE=>qp (j := 2) hE rfl rfl arr60 rfl (by decide) rfl fun a hE=>?_
      have hsl464_2 : (List.replicate 16 (0 : UInt8)).length = 16 := List.length_replicate
      have hsl464_3 : (List.replicate 32 (0 : UInt8)).length = 32 := List.length_replicate
      have hsl464_4 : (List.replicate 32 (0 : UInt8)).length = 32 := List.length_replicate
      replace hM : Mem _ _ w3 [_,_] := hM.pick [1,0] rfl
      refine qq 20 5 (vss := [[.bool false],[.int .i64 0],bv (List.replicate 16 (0 : UInt8)),bv (List.replicate 32 (0 : UInt8)),bv (List.replicate 32 (0 : UInt8))]) hE rfl rfl hM rfl sz59 (by simp only [List.take_succ_cons,List.take_zero,List.drop_zero,List.drop_succ_cons];simp only [List.map_cons,List.map_nil,vh,List.length_cons,List.length_nil,List.length_replicate,hsl464_2,hsl464_3,hsl464_4]) (by decide) rfl (one_fl ⟨one1 rfl,one1 rfl,vc _,vc _,vc _,trivial⟩) rfl (by intro X h;cases h) fun w4 hM=>?_
      try simp only [List.take_zero,List.take_succ_cons,List.drop_zero,List.drop_succ_cons,List.take_nil,List.drop_nil,List.nil_append,List.append_nil,List.cons_append] at hM
      refine qa (K5 (ww1 fun _ K6=>wpp (ql hE rfl (hM.get 0 rfl) row62 rfl (by intro X h;cases h) rfl fun a hE=>?_)))
      replace hE := hE.cast 31 rfl (show _ = Value.agg ([[.int .i64 h.m],[.int .i64 h.r],[.bool h.v0.1],[.int .u64 ((h.v0.2.1 : Nat) : Int)],bv h.v0.2.2.1,bv h.v0.2.2.2,[.bool h.v1.1],[.int .u64 ((h.v1.2.1 : Nat) : Int)],bv h.v1.2.2.1,bv h.v1.2.2.2,[.bool h.s0.1],[.int .i64 h.s0.2.1],bv h.s0.2.2.1,bv h.s0.2.2.2.1,bv h.s0.2.2.2.2,[.bool h.s1.1],[.int .i64 h.s1.2.1],bv h.s1.2.2.1,bv h.s1.2.2.2.1,bv h.s1.2.2.2.2,[.bool false],[.int .i64 0],bv (List.replicate 16 (0 : UInt8)),bv (List.replicate 32 (0 : UInt8)),bv (List.replicate 32 (0 : UInt8)),[.bool h.s3.1],[.int .i64 h.s3.2.1],bv h.s3.2.2.1,bv h.s3.2.2.2.1,bv h.s3.2.2.2.2] : List (List Value)).flatten.toArray from (by first | (simp only [List.flatten_cons,List.flatten_nil,List.append_nil,List.append_assoc];done) | rfl))
      have hsl477_4 : h.v0.2.2.1.length = 32 := hk_h.v0.2.1
      have hsl477_5 : h.v0.2.2.2.length = 32 := hk_h.v0.2.2
      have hsl477_8 : h.v1.2.2.1.length = 32 := hk_h.v1.2.1
      have hsl477_9 : h.v1.2.2.2.length = 32 := hk_h.v1.2.2
      have hsl477_12 : h.s0.2.2.1.length = 16 := hk_h.s0.2.1
      have hsl477_13 : h.s0.2.2.2.1.length = 32 := hk_h.s0.2.2.1
      have hsl477_14 : h.s0.2.2.2.2.length = 32 := hk_h.s0.2.2.2
      have hsl477_17 : h.s1.2.2.1.length = 16 := hk_h.s1.2.1
      have hsl477_18 : h.s1.2.2.2.1.length = 32 := hk_h.s1.2.2.1
      have hsl477_19 : h.s1.2.2.2.2.length = 32 := hk_h.s1.2.2.2
      have hsl477_22 : (List.replicate 16 (0 : UInt8)).length = 16 := List.length_replicate
      have hsl477_23 : (List.replicate 32 (0 : UInt8)).length = 32 := List.length_replicate
      have hsl477_24 : (List.replicate 32 (0 : UInt8)).length = 32 := List.length_replicate
      have hsl477_27 : h.s3.2.2.1.length = 16 := hk_h.s3.2.1
      have hsl477_28 : h.s3.2.2.2.1.length = 32 := hk_h.s3.2.2.1
      have hsl477_29 : h.s3.2.2.2.2.length = 32 := hk_h.s3.2.2.2
      replace hM : Mem _ _ w4 [_,_] := hM.pick [1,0] rfl
      refine qq 0 30 (vss := [[.int .i64 h.m],[.int .i64 h.r],[.bool h.v0.1],[.int .u64 ((h.v0.2.1 : Nat) : Int)],bv h.v0.2.2.1,bv h.v0.2.2.2,[.bool h.v1.1],[.int .u64 ((h.v1.2.1 : Nat) : Int)],bv h.v1.2.2.1,bv h.v1.2.2.2,[.bool h.s0.1],[.int .i64 h.s0.2.1],bv h.s0.2.2.1,bv h.s0.2.2.2.1,bv h.s0.2.2.2.2,[.bool h.s1.1],[.int .i64 h.s1.2.1],bv h.s1.2.2.1,bv h.s1.2.2.2.1,bv h.s1.2.2.2.2,[.bool false],[.int .i64 0],bv (List.replicate 16 (0 : UInt8)),bv (List.replicate 32 (0 : UInt8)),bv (List.replicate 32 (0 : UInt8)),[.bool h.s3.1],[.int .i64 h.s3.2.1],bv h.s3.2.2.1,bv h.s3.2.2.2.1,bv h.s3.2.2.2.2]) hE rfl rfl hM rfl sz62 (by simp only [List.take_succ_cons,List.take_zero,List.drop_zero,List.drop_succ_cons];simp only [List.map_cons,List.map_nil,vh,List.length_cons,List.length_nil,List.length_replicate,hsl477_4,hsl477_5,hsl477_8,hsl477_9,hsl477_12,hsl477_13,hsl477_14,hsl477_17,hsl477_18,hsl477_19,hsl477_22,hsl477_23,hsl477_24,hsl477_27,hsl477_28,hsl477_29]) (by decide) rfl (one_fl ⟨one1 rfl,one1 rfl,one1 rfl,one1 rfl,vc _,vc _,one1 rfl,one1 rfl,vc _,vc _,one1 rfl,one1 rfl,vc _,vc _,vc _,one1 rfl,one1 rfl,vc _,vc _,vc _,one1 rfl,one1 rfl,vc _,vc _,vc _,one1 rfl,one1 rfl,vc _,vc _,vc _,trivial⟩) rfl (by intro X h;cases h) fun w5 hM=>?_
      try simp only [List.take_zero,List.take_succ_cons,List.drop_zero,List.drop_succ_cons,List.take_nil,List.drop_nil,List.nil_append,List.append_nil,List.cons_append] at hM
      exact sas hE rfl fun a hE=>qa (K6 (wp_ret (qj hE rfl (res_cellN rfl (hM.get 0 rfl) row62 rfl) rfl ⟨(by rw [e1];simp only [setS,newS,zH,zV,zS,slotT,List.flatten_cons,List.flatten_nil,List.append_nil,List.append_assoc,List.cons_append,List.nil_append];try rfl),hM.pick [] rfl⟩)))
    ·replace hE := hE.cast 1 rfl (show _ = Value.int .i64 3 from congrArg (Value.int .i64) hcase)
     replace hE := hE.cast 20 rfl (show _ = Value.int .i64 3 from congrArg (Value.int .i64) hcase)
     refine sf hE rfl fo62_2 fun a hE=>qp (j := 3) hE rfl rfl arr60 rfl (by decide) rfl fun a hE=>?_
     refine sf hE rfl fo59_0 fun a hE=>qm hE rfl (hM.get 1 rfl) rfl one4 (by intro X h;cases h) rfl fun a hE=>?_
     refine s_not hE rfl rfl fun a hE=>sas hE rfl fun a hE=>qa (K4 ?_)
     refine hE.split 19 rfl (fun hb19 hE=>?_) (fun hb19 hE=>?_)
     ·replace hb19 := not_true hb19
      have e1 : remS h z = (zH,5) := by simp [remS,hck,hcase,getS,hb19]
      refine wct hE rfl (ww1 fun _ K5=>wpp (vf [] hE rfl zero62 (by kernel_rfl) fpl62 (by first | (simp [PartsOk,Value.cells];done) | (simp [PartsOk,Value.cells];omega)) rfl fun a hE=>?_))
      replace hE := hE.cast 26 rfl (show _ = Value.agg ([[.int .i64 0],[.int .i64 0],[.bool false],[.int .u64 0],bv (List.replicate 32 (0 : UInt8)),bv (List.replicate 32 (0 : UInt8)),[.bool false],[.int .u64 0],bv (List.replicate 32 (0 : UInt8)),bv (List.replicate 32 (0 : UInt8)),[.bool false],[.int .i64 0],bv (List.replicate 16 (0 : UInt8)),bv (List.replicate 32 (0 : UInt8)),bv (List.replicate 32 (0 : UInt8)),[.bool false],[.int .i64 0],bv (List.replicate 16 (0 : UInt8)),bv (List.replicate 32 (0 : UInt8)),bv (List.replicate 32 (0 : UInt8)),[.bool false],[.int .i64 0],bv (List.replicate 16 (0 : UInt8)),bv (List.replicate 32 (0 : UInt8)),bv (List.replicate 32 (0 : UInt8)),[.bool false],[.int .i64 0],bv (List.replicate 16 (0 : UInt8)),bv (List.replicate 32 (0 : UInt8)),bv (List.replicate 32 (0 : UInt8))] : List (List Value)).flatten.toArray from (by first | rfl | simp [setAll] | (simp only [setAll,List.set_cons_zero,List.set_cons_succ,List.flatten_cons,List.flatten_nil,List.append_nil,List.append_assoc,List.replicate_succ,List.replicate_zero])))
      have hsl523_4 : (List.replicate 32 (0 : UInt8)).length = 32 := List.length_replicate
      have hsl523_5 : (List.replicate 32 (0 : UInt8)).length = 32 := List.length_replicate
      have hsl523_8 : (List.replicate 32 (0 : UInt8)).length = 32 := List.length_replicate
      have hsl523_9 : (List.replicate 32 (0 : UInt8)).length = 32 := List.length_replicate
      have hsl523_12 : (List.replicate 16 (0 : UInt8)).length = 16 := List.length_replicate
      have hsl523_13 : (List.replicate 32 (0 : UInt8)).length = 32 := List.length_replicate
      have hsl523_14 : (List.replicate 32 (0 : UInt8)).length = 32 := List.length_replicate
      have hsl523_17 : (List.replicate 16 (0 : UInt8)).length = 16 := List.length_replicate
      have hsl523_18 : (List.replicate 32 (0 : UInt8)).length = 32 := List.length_replicate
      have hsl523_19 : (List.replicate 32 (0 : UInt8)).length = 32 := List.length_replicate
      have hsl523_22 : (List.replicate 16 (0 : UInt8)).length = 16 := List.length_replicate
      have hsl523_23 : (List.replicate 32 (0 : UInt8)).length = 32 := List.length_replicate
      have hsl523_24 : (List.replicate 32 (0 : UInt8)).length = 32 := List.length_replicate
      have hsl523_27 : (List.replicate 16 (0 : UInt8)).length = 16 := List.length_replicate
      have hsl523_28 : (List.replicate 32 (0 : UInt8)).length = 32 := List.length_replicate
      have hsl523_29 : (List.replicate 32 (0 : UInt8)).length = 32 := List.length_replicate
      refine qq 0 30 (vss := [[.int .i64 0],[.int .i64 0],[.bool false],[.int .u64 0],bv (List.replicate 32 (0 : UInt8)),bv (List.replicate 32 (0 : UInt8)),[.bool false],[.int .u64 0],bv (List.replicate 32 (0 : UInt8)),bv (List.replicate 32 (0 : UInt8)),[.bool false],[.int .i64 0],bv (List.replicate 16 (0 : UInt8)),bv (List.replicate 32 (0 : UInt8)),bv (List.replicate 32 (0 : UInt8)),[.bool false],[.int .i64 0],bv (List.replicate 16 (0 : UInt8)),bv (List.replicate 32 (0 : UInt8)),bv (List.replicate 32 (0 : UInt8)),[.bool false],[.int .i64 0],bv (List.replicate 16 (0 : UInt8)),bv (List.replicate 32 (0 : UInt8)),bv (List.replicate 32 (0 : UInt8)),[.bool false],[.int .i64 0],bv (List.replicate 16 (0 : UInt8)),bv (List.replicate 32 (0 : UInt8)),bv (List.replicate 32 (0 : UInt8))]) hE rfl rfl hM rfl sz62 (by simp only [List.take_succ_cons,List.take_zero,List.drop_zero,List.drop_succ_cons];simp only [List.map_cons,List.map_nil,vh,List.length_cons,List.length_nil,List.length_replicate,hsl523_4,hsl523_5,hsl523_8,hsl523_9,hsl523_12,hsl523_13,hsl523_14,hsl523_17,hsl523_18,hsl523_19,hsl523_22,hsl523_23,hsl523_24,hsl523_27,hsl523_28,hsl523_29]) (by decide) rfl (one_fl ⟨one1 rfl,one1 rfl,one1 rfl,one1 rfl,vc _,vc _,one1 rfl,one1 rfl,vc _,vc _,one1 rfl,one1 rfl,vc _,vc _,vc _,one1 rfl,one1 rfl,vc _,vc _,vc _,one1 rfl,one1 rfl,vc _,vc _,vc _,one1 rfl,one1 rfl,vc _,vc _,vc _,trivial⟩) rfl (by intro X h;cases h) fun w4 hM=>?_
      try simp only [List.take_zero,List.take_succ_cons,List.drop_zero,List.drop_succ_cons,List.take_nil,List.drop_nil,List.nil_append,List.append_nil,List.cons_append] at hM
      exact sas hE rfl fun a hE=>qa (K5 (wp_ret (qf (qb (qj hE rfl (res_cellN rfl (hM.get 0 rfl) row62 rfl) rfl ⟨(by rw [e1];simp only [setS,newS,zH,zV,zS,slotT,List.flatten_cons,List.flatten_nil,List.append_nil,List.append_assoc,List.cons_append,List.nil_append];try rfl),hM.pick [] rfl⟩)))))
     ·replace hb19 := not_false' hb19
      have e1 : remS h z = (setS h 3 zS,0) := by simp [remS,hck,hcase,getS,hb19]
      refine wcf hE rfl (wp_skip (qe (K2 (ww1 fun _ K5=>wpp (sm hE rfl fun a hE=>vf [] hE rfl zero59 (by kernel_rfl) fpl59 (by first | (simp [PartsOk,Value.cells];done) | (simp [PartsOk,Value.cells];omega)) rfl fun a hE=>?_)))))
      replace hE := hE.cast 28 rfl (show _ = Value.agg ([[.bool false],[.int .i64 0],bv (List.replicate 16 (0 : UInt8)),bv (List.replicate 32 (0 : UInt8)),bv (List.replicate 32 (0 : UInt8))] : List (List Value)).flatten.toArray from (by first | rfl | simp [setAll] | (simp only [setAll,List.set_cons_zero,List.set_cons_succ,List.flatten_cons,List.flatten_nil,List.append_nil,List.append_assoc,List.replicate_succ,List.replicate_zero])))
      refine sf hE rfl fo62_2 fun a hE=>qp (j := 3) hE rfl rfl arr60 rfl (by decide) rfl fun a hE=>?_
      have hsl564_2 : (List.replicate 16 (0 : UInt8)).length = 16 := List.length_replicate
      have hsl564_3 : (List.replicate 32 (0 : UInt8)).length = 32 := List.length_replicate
      have hsl564_4 : (List.replicate 32 (0 : UInt8)).length = 32 := List.length_replicate
      replace hM : Mem _ _ w3 [_,_] := hM.pick [1,0] rfl
      refine qq 25 5 (vss := [[.bool false],[.int .i64 0],bv (List.replicate 16 (0 : UInt8)),bv (List.replicate 32 (0 : UInt8)),bv (List.replicate 32 (0 : UInt8))]) hE rfl rfl hM rfl sz59 (by simp only [List.take_succ_cons,List.take_zero,List.drop_zero,List.drop_succ_cons];simp only [List.map_cons,List.map_nil,vh,List.length_cons,List.length_nil,List.length_replicate,hsl564_2,hsl564_3,hsl564_4]) (by decide) rfl (one_fl ⟨one1 rfl,one1 rfl,vc _,vc _,vc _,trivial⟩) rfl (by intro X h;cases h) fun w4 hM=>?_
      try simp only [List.take_zero,List.take_succ_cons,List.drop_zero,List.drop_succ_cons,List.take_nil,List.drop_nil,List.nil_append,List.append_nil,List.cons_append] at hM
      refine qa (K5 (ww1 fun _ K6=>wpp (ql hE rfl (hM.get 0 rfl) row62 rfl (by intro X h;cases h) rfl fun a hE=>?_)))
      replace hE := hE.cast 31 rfl (show _ = Value.agg ([[.int .i64 h.m],[.int .i64 h.r],[.bool h.v0.1],[.int .u64 ((h.v0.2.1 : Nat) : Int)],bv h.v0.2.2.1,bv h.v0.2.2.2,[.bool h.v1.1],[.int .u64 ((h.v1.2.1 : Nat) : Int)],bv h.v1.2.2.1,bv h.v1.2.2.2,[.bool h.s0.1],[.int .i64 h.s0.2.1],bv h.s0.2.2.1,bv h.s0.2.2.2.1,bv h.s0.2.2.2.2,[.bool h.s1.1],[.int .i64 h.s1.2.1],bv h.s1.2.2.1,bv h.s1.2.2.2.1,bv h.s1.2.2.2.2,[.bool h.s2.1],[.int .i64 h.s2.2.1],bv h.s2.2.2.1,bv h.s2.2.2.2.1,bv h.s2.2.2.2.2,[.bool false],[.int .i64 0],bv (List.replicate 16 (0 : UInt8)),bv (List.replicate 32 (0 : UInt8)),bv (List.replicate 32 (0 : UInt8))] : List (List Value)).flatten.toArray from (by first | (simp only [List.flatten_cons,List.flatten_nil,List.append_nil,List.append_assoc];done) | rfl))
      have hsl577_4 : h.v0.2.2.1.length = 32 := hk_h.v0.2.1
      have hsl577_5 : h.v0.2.2.2.length = 32 := hk_h.v0.2.2
      have hsl577_8 : h.v1.2.2.1.length = 32 := hk_h.v1.2.1
      have hsl577_9 : h.v1.2.2.2.length = 32 := hk_h.v1.2.2
      have hsl577_12 : h.s0.2.2.1.length = 16 := hk_h.s0.2.1
      have hsl577_13 : h.s0.2.2.2.1.length = 32 := hk_h.s0.2.2.1
      have hsl577_14 : h.s0.2.2.2.2.length = 32 := hk_h.s0.2.2.2
      have hsl577_17 : h.s1.2.2.1.length = 16 := hk_h.s1.2.1
      have hsl577_18 : h.s1.2.2.2.1.length = 32 := hk_h.s1.2.2.1
      have hsl577_19 : h.s1.2.2.2.2.length = 32 := hk_h.s1.2.2.2
      have hsl577_22 : h.s2.2.2.1.length = 16 := hk_h.s2.2.1
      have hsl577_23 : h.s2.2.2.2.1.length = 32 := hk_h.s2.2.2.1
      have hsl577_24 : h.s2.2.2.2.2.length = 32 := hk_h.s2.2.2.2
      have hsl577_27 : (List.replicate 16 (0 : UInt8)).length = 16 := List.length_replicate
      have hsl577_28 : (List.replicate 32 (0 : UInt8)).length = 32 := List.length_replicate
      have hsl577_29 : (List.replicate 32 (0 : UInt8)).length = 32 := List.length_replicate
      replace hM : Mem _ _ w4 [_,_] := hM.pick [1,0] rfl
      refine qq 0 30 (vss := [[.int .i64 h.m],[.int .i64 h.r],[.bool h.v0.1],[.int .u64 ((h.v0.2.1 : Nat) : Int)],bv h.v0.2.2.1,bv h.v0.2.2.2,[.bool h.v1.1],[.int .u64 ((h.v1.2.1 : Nat) : Int)],bv h.v1.2.2.1,bv h.v1.2.2.2,[.bool h.s0.1],[.int .i64 h.s0.2.1],bv h.s0.2.2.1,bv h.s0.2.2.2.1,bv h.s0.2.2.2.2,[.bool h.s1.1],[.int .i64 h.s1.2.1],bv h.s1.2.2.1,bv h.s1.2.2.2.1,bv h.s1.2.2.2.2,[.bool h.s2.1],[.int .i64 h.s2.2.1],bv h.s2.2.2.1,bv h.s2.2.2.2.1,bv h.s2.2.2.2.2,[.bool false],[.int .i64 0],bv (List.replicate 16 (0 : UInt8)),bv (List.replicate 32 (0 : UInt8)),bv (List.replicate 32 (0 : UInt8))]) hE rfl rfl hM rfl sz62 (by simp only [List.take_succ_cons,List.take_zero,List.drop_zero,List.drop_succ_cons];simp only [List.map_cons,List.map_nil,vh,List.length_cons,List.length_nil,List.length_replicate,hsl577_4,hsl577_5,hsl577_8,hsl577_9,hsl577_12,hsl577_13,hsl577_14,hsl577_17,hsl577_18,hsl577_19,hsl577_22,hsl577_23,hsl577_24,hsl577_27,hsl577_28,hsl577_29]) (by decide) rfl (one_fl ⟨one1 rfl,one1 rfl,one1 rfl,one1 rfl,vc _,vc _,one1 rfl,one1 rfl,vc _,vc _,one1 rfl,one1 rfl,vc _,vc _,vc _,one1 rfl,one1 rfl,vc _,vc _,vc _,one1 rfl,one1 rfl,vc _,vc _,vc _,one1 rfl,one1 rfl,vc _,vc _,vc _,trivial⟩) rfl (by intro X h;cases h) fun w5 hM=>?_
      try simp only [List.take_zero,List.take_succ_cons,List.drop_zero,List.drop_succ_cons,List.take_nil,List.drop_nil,List.nil_append,List.append_nil,List.cons_append] at hM
      exact sas hE rfl fun a hE=>qa (K6 (wp_ret (qj hE rfl (res_cellN rfl (hM.get 0 rfl) row62 rfl) rfl ⟨(by rw [e1];simp only [setS,newS,zH,zV,zS,slotT,List.flatten_cons,List.flatten_nil,List.append_nil,List.append_assoc,List.cons_append,List.nil_append];try rfl),hM.pick [] rfl⟩)))
set_option maxRecDepth 20000 in
set_option maxHeartbeats 4000000 in
theorem add_c (h : Hd) (x : List UInt8) (p : List UInt8) (b : List UInt8) (z : Int) (w : World) (hG : (glb 1).holds w) (hT : tabP.holds w) (hk_h : OkHd h) (hl_x : x.length = 32) (hl_b : b.length = 16) (hz : In64 z) : Calls Tryd.prog 37 #[.agg ([[.int .i64 h.m],[.int .i64 h.r],[.bool h.v0.1],[.int .u64 ((h.v0.2.1 : Nat) : Int)],bv h.v0.2.2.1,bv h.v0.2.2.2,[.bool h.v1.1],[.int .u64 ((h.v1.2.1 : Nat) : Int)],bv h.v1.2.2.1,bv h.v1.2.2.2,[.bool h.s0.1],[.int .i64 h.s0.2.1],bv h.s0.2.2.1,bv h.s0.2.2.2.1,bv h.s0.2.2.2.2,[.bool h.s1.1],[.int .i64 h.s1.2.1],bv h.s1.2.2.1,bv h.s1.2.2.2.1,bv h.s1.2.2.2.2,[.bool h.s2.1],[.int .i64 h.s2.2.1],bv h.s2.2.2.1,bv h.s2.2.2.2.1,bv h.s2.2.2.2.2,[.bool h.s3.1],[.int .i64 h.s3.2.1],bv h.s3.2.2.1,bv h.s3.2.2.2.1,bv h.s3.2.2.2.2] : List (List Value)).flatten.toArray,.agg (bv x).toArray,.string (str p),.agg (bv b).toArray,.int .i64 z] w fun e w' => e = .returned (.tuple #[.agg ([[.int .i64 (((addS h x p b z).1).m)],[.int .i64 (((addS h x p b z).1).r)],[.bool (((addS h x p b z).1).v0.1)],[.int .u64 ((((addS h x p b z).1).v0.2.1 : Nat) : Int)],bv (((addS h x p b z).1).v0.2.2.1),bv (((addS h x p b z).1).v0.2.2.2),[.bool (((addS h x p b z).1).v1.1)],[.int .u64 ((((addS h x p b z).1).v1.2.1 : Nat) : Int)],bv (((addS h x p b z).1).v1.2.2.1),bv (((addS h x p b z).1).v1.2.2.2),[.bool (((addS h x p b z).1).s0.1)],[.int .i64 (((addS h x p b z).1).s0.2.1)],bv (((addS h x p b z).1).s0.2.2.1),bv (((addS h x p b z).1).s0.2.2.2.1),bv (((addS h x p b z).1).s0.2.2.2.2),[.bool (((addS h x p b z).1).s1.1)],[.int .i64 (((addS h x p b z).1).s1.2.1)],bv (((addS h x p b z).1).s1.2.2.1),bv (((addS h x p b z).1).s1.2.2.2.1),bv (((addS h x p b z).1).s1.2.2.2.2),[.bool (((addS h x p b z).1).s2.1)],[.int .i64 (((addS h x p b z).1).s2.2.1)],bv (((addS h x p b z).1).s2.2.2.1),bv (((addS h x p b z).1).s2.2.2.2.1),bv (((addS h x p b z).1).s2.2.2.2.2),[.bool (((addS h x p b z).1).s3.1)],[.int .i64 (((addS h x p b z).1).s3.2.1)],bv (((addS h x p b z).1).s3.2.2.1),bv (((addS h x p b z).1).s3.2.2.2.1),bv (((addS h x p b z).1).s3.2.2.2.2)] : List (List Value)).flatten.toArray,.int .i64 ((addS h x p b z).2.1),.int .i64 (((addS h x p b z).2.2 : Nat) : Int)]) ∧ Mem w [] w' [] := by
 have hM : Mem w [] w [glb 1,tabP] := Mem.startR w (fun g hg => by
  simp only [List.mem_cons,List.not_mem_nil,or_false] at hg
  rcases hg with rfl | rfl
  ·exact ⟨hG,rfl⟩
  ·exact ⟨hT,rfl⟩)
 refine ve 56 Tryd.func37 rfl rfl rfl ?_
 intro a hE
 replace hE : Env a 56 [(0,_),(1,_),(2,_),(3,_),(4,_)] := hE
 refine ww1 fun _ K1=>wpp ?_
 have hbl5_4 : h.v0.2.2.1.length = 32 := hk_h.v0.2.1
 have hbl5_5 : h.v0.2.2.2.length = 32 := hk_h.v0.2.2
 have hbl5_8 : h.v1.2.2.1.length = 32 := hk_h.v1.2.1
 have hbl5_9 : h.v1.2.2.2.length = 32 := hk_h.v1.2.2
 have hbl5_12 : h.s0.2.2.1.length = 16 := hk_h.s0.2.1
 have hbl5_13 : h.s0.2.2.2.1.length = 32 := hk_h.s0.2.2.1
 have hbl5_14 : h.s0.2.2.2.2.length = 32 := hk_h.s0.2.2.2
 have hbl5_17 : h.s1.2.2.1.length = 16 := hk_h.s1.2.1
 have hbl5_18 : h.s1.2.2.2.1.length = 32 := hk_h.s1.2.2.1
 have hbl5_19 : h.s1.2.2.2.2.length = 32 := hk_h.s1.2.2.2
 have hbl5_22 : h.s2.2.2.1.length = 16 := hk_h.s2.2.1
 have hbl5_23 : h.s2.2.2.2.1.length = 32 := hk_h.s2.2.2.1
 have hbl5_24 : h.s2.2.2.2.2.length = 32 := hk_h.s2.2.2.2
 have hbl5_27 : h.s3.2.2.1.length = 16 := hk_h.s3.2.1
 have hbl5_28 : h.s3.2.2.2.1.length = 32 := hk_h.s3.2.2.1
 have hbl5_29 : h.s3.2.2.2.2.length = 32 := hk_h.s3.2.2.2
 refine s_box (ss := [[.int .i64 h.m],[.int .i64 h.r],[.bool h.v0.1],[.int .u64 ((h.v0.2.1 : Nat) : Int)],bv h.v0.2.2.1,bv h.v0.2.2.2,[.bool h.v1.1],[.int .u64 ((h.v1.2.1 : Nat) : Int)],bv h.v1.2.2.1,bv h.v1.2.2.2,[.bool h.s0.1],[.int .i64 h.s0.2.1],bv h.s0.2.2.1,bv h.s0.2.2.2.1,bv h.s0.2.2.2.2,[.bool h.s1.1],[.int .i64 h.s1.2.1],bv h.s1.2.2.1,bv h.s1.2.2.2.1,bv h.s1.2.2.2.2,[.bool h.s2.1],[.int .i64 h.s2.2.1],bv h.s2.2.2.1,bv h.s2.2.2.2.1,bv h.s2.2.2.2.2,[.bool h.s3.1],[.int .i64 h.s3.2.1],bv h.s3.2.2.1,bv h.s3.2.2.2.1,bv h.s3.2.2.2.2]) [1,1,1,1,32,32,1,1,32,32,1,1,16,32,32,1,1,16,32,32,1,1,16,32,32,1,1,16,32,32] hE hM rfl rfl (by simp only [List.map_cons,List.map_nil,vh,List.length_cons,List.length_nil,List.length_replicate,hbl5_4,hbl5_5,hbl5_8,hbl5_9,hbl5_12,hbl5_13,hbl5_14,hbl5_17,hbl5_18,hbl5_19,hbl5_22,hbl5_23,hbl5_24,hbl5_27,hbl5_28,hbl5_29]) rfl fun a b5 w1 hE hM=>?_
 refine s_box (ss := [bv x]) [32] hE hM rfl (by simp [Value.cells]) (by simp [*]) rfl fun a b6 w2 hE hM=>?_
 refine s_box (ss := [bv b]) [16] hE hM rfl (by simp [Value.cells]) (by simp [*]) rfl fun a b8 w3 hE hM=>?_
 refine qo [1,1,1,1,32,32,1,1,32,32,1,1,16,32,32,1,1,16,32,32,1,1,16,32,32,1,1,16,32,32] hE hM zeroL62 rfl rfl fun a b10 w4 hE hM=>sas hE rfl fun a hE=>sas hE rfl fun a hE=>qa (K1 (ww1 fun _ K2=>ww1 fun _ K3=>wpp (ql hE rfl (hM.get 3 rfl) row62 rfl (by intro X h;cases h) rfl fun a hE=>?_)))
 replace hE := hE.cast 16 rfl (show _ = Value.agg ([[.int .i64 h.m],[.int .i64 h.r],[.bool h.v0.1],[.int .u64 ((h.v0.2.1 : Nat) : Int)],bv h.v0.2.2.1,bv h.v0.2.2.2,[.bool h.v1.1],[.int .u64 ((h.v1.2.1 : Nat) : Int)],bv h.v1.2.2.1,bv h.v1.2.2.2,[.bool h.s0.1],[.int .i64 h.s0.2.1],bv h.s0.2.2.1,bv h.s0.2.2.2.1,bv h.s0.2.2.2.2,[.bool h.s1.1],[.int .i64 h.s1.2.1],bv h.s1.2.2.1,bv h.s1.2.2.2.1,bv h.s1.2.2.2.2,[.bool h.s2.1],[.int .i64 h.s2.2.1],bv h.s2.2.2.1,bv h.s2.2.2.2.1,bv h.s2.2.2.2.2,[.bool h.s3.1],[.int .i64 h.s3.2.1],bv h.s3.2.2.1,bv h.s3.2.2.2.1,bv h.s3.2.2.2.2] : List (List Value)).flatten.toArray from (by first | (simp only [List.flatten_cons,List.flatten_nil,List.append_nil,List.append_assoc];done) | rfl))
 refine sm hE rfl fun a hE=>qn hE rfl Tryd.call55 (smay_c h p _ hk_h) rfl ?_
 rintro e w5 ⟨rfl,hN⟩
 refine ⟨_,rfl,trivial,fun a hE=>?_⟩
 replace hM : Mem _ _ w5 [_,_,_,_,_,_] := hM.call0 hN trivial;clear hN
 refine s_not hE rfl rfl fun a hE=>qa (K3 ?_)
 refine hE.split 19 rfl (fun hb19 hE=>?_) (fun hb19 hE=>?_)
 ·replace hb19 := not_true hb19
  have e1 : addS h x p b z = (zH,0,2) := by simp [addS,hb19]
  refine wct hE rfl (ww1 fun _ K4=>wpp (vf [] hE rfl zero62 (by kernel_rfl) fpl62 (by first | (simp [PartsOk,Value.cells];done) | (simp [PartsOk,Value.cells];omega)) rfl fun a hE=>?_))
  replace hE := hE.cast 20 rfl (show _ = Value.agg ([[.int .i64 0],[.int .i64 0],[.bool false],[.int .u64 0],bv (List.replicate 32 (0 : UInt8)),bv (List.replicate 32 (0 : UInt8)),[.bool false],[.int .u64 0],bv (List.replicate 32 (0 : UInt8)),bv (List.replicate 32 (0 : UInt8)),[.bool false],[.int .i64 0],bv (List.replicate 16 (0 : UInt8)),bv (List.replicate 32 (0 : UInt8)),bv (List.replicate 32 (0 : UInt8)),[.bool false],[.int .i64 0],bv (List.replicate 16 (0 : UInt8)),bv (List.replicate 32 (0 : UInt8)),bv (List.replicate 32 (0 : UInt8)),[.bool false],[.int .i64 0],bv (List.replicate 16 (0 : UInt8)),bv (List.replicate 32 (0 : UInt8)),bv (List.replicate 32 (0 : UInt8)),[.bool false],[.int .i64 0],bv (List.replicate 16 (0 : UInt8)),bv (List.replicate 32 (0 : UInt8)),bv (List.replicate 32 (0 : UInt8))] : List (List Value)).flatten.toArray from (by first | rfl | simp [setAll] | (simp only [setAll,List.set_cons_zero,List.set_cons_succ,List.flatten_cons,List.flatten_nil,List.append_nil,List.append_assoc,List.replicate_succ,List.replicate_zero])))
  have hsl62_4 : (List.replicate 32 (0 : UInt8)).length = 32 := List.length_replicate
  have hsl62_5 : (List.replicate 32 (0 : UInt8)).length = 32 := List.length_replicate
  have hsl62_8 : (List.replicate 32 (0 : UInt8)).length = 32 := List.length_replicate
  have hsl62_9 : (List.replicate 32 (0 : UInt8)).length = 32 := List.length_replicate
  have hsl62_12 : (List.replicate 16 (0 : UInt8)).length = 16 := List.length_replicate
  have hsl62_13 : (List.replicate 32 (0 : UInt8)).length = 32 := List.length_replicate
  have hsl62_14 : (List.replicate 32 (0 : UInt8)).length = 32 := List.length_replicate
  have hsl62_17 : (List.replicate 16 (0 : UInt8)).length = 16 := List.length_replicate
  have hsl62_18 : (List.replicate 32 (0 : UInt8)).length = 32 := List.length_replicate
  have hsl62_19 : (List.replicate 32 (0 : UInt8)).length = 32 := List.length_replicate
  have hsl62_22 : (List.replicate 16 (0 : UInt8)).length = 16 := List.length_replicate
  have hsl62_23 : (List.replicate 32 (0 : UInt8)).length = 32 := List.length_replicate
  have hsl62_24 : (List.replicate 32 (0 : UInt8)).length = 32 := List.length_replicate
  have hsl62_27 : (List.replicate 16 (0 : UInt8)).length = 16 := List.length_replicate
  have hsl62_28 : (List.replicate 32 (0 : UInt8)).length = 32 := List.length_replicate
  have hsl62_29 : (List.replicate 32 (0 : UInt8)).length = 32 := List.length_replicate
  refine qq 0 30 (vss := [[.int .i64 0],[.int .i64 0],[.bool false],[.int .u64 0],bv (List.replicate 32 (0 : UInt8)),bv (List.replicate 32 (0 : UInt8)),[.bool false],[.int .u64 0],bv (List.replicate 32 (0 : UInt8)),bv (List.replicate 32 (0 : UInt8)),[.bool false],[.int .i64 0],bv (List.replicate 16 (0 : UInt8)),bv (List.replicate 32 (0 : UInt8)),bv (List.replicate 32 (0 : UInt8)),[.bool false],[.int .i64 0],bv (List.replicate 16 (0 : UInt8)),bv (List.replicate 32 (0 : UInt8)),bv (List.replicate 32 (0 : UInt8)),[.bool false],[.int .i64 0],bv (List.replicate 16 (0 : UInt8)),bv (List.replicate 32 (0 : UInt8)),bv (List.replicate 32 (0 : UInt8)),[.bool false],[.int .i64 0],bv (List.replicate 16 (0 : UInt8)),bv (List.replicate 32 (0 : UInt8)),bv (List.replicate 32 (0 : UInt8))]) hE rfl rfl hM rfl sz62 (by simp only [List.take_succ_cons,List.take_zero,List.drop_zero,List.drop_succ_cons];simp only [List.map_cons,List.map_nil,vh,List.length_cons,List.length_nil,List.length_replicate,hsl62_4,hsl62_5,hsl62_8,hsl62_9,hsl62_12,hsl62_13,hsl62_14,hsl62_17,hsl62_18,hsl62_19,hsl62_22,hsl62_23,hsl62_24,hsl62_27,hsl62_28,hsl62_29]) (by decide) rfl (one_fl ⟨one1 rfl,one1 rfl,one1 rfl,one1 rfl,vc _,vc _,one1 rfl,one1 rfl,vc _,vc _,one1 rfl,one1 rfl,vc _,vc _,vc _,one1 rfl,one1 rfl,vc _,vc _,vc _,one1 rfl,one1 rfl,vc _,vc _,vc _,one1 rfl,one1 rfl,vc _,vc _,vc _,trivial⟩) rfl (by intro X h;cases h) fun w6 hM=>?_
  try simp only [List.take_zero,List.take_succ_cons,List.drop_zero,List.drop_succ_cons,List.take_nil,List.drop_nil,List.nil_append,List.append_nil,List.cons_append] at hM
  exact sas hE rfl fun a hE=>sas hE rfl fun a hE=>qa (K4 (wp_ret (qb (qk hE rfl (res_cellN rfl (hM.get 0 rfl) row62 rfl) rfl rfl ⟨(by rw [e1];(try rw [hk2]);simp only [setS,newS,zH,zV,zS,slotT,List.flatten_cons,List.flatten_nil,List.append_nil,List.append_assoc,List.cons_append,List.nil_append];try rfl),hM.pick [] rfl⟩))))
 ·replace hb19 := not_false' hb19
  refine wcf hE rfl (wp_skip (K2 (ww1 fun _ K4=>wpp (sm hE rfl fun a hE=>ql hE rfl (hM.get 1 rfl) row57 rfl (by intro X h;cases h) rfl fun a hE=>?_))))
  refine sm hE rfl fun a hE=>qn hE rfl Tryd.call56 (skey_c p b z _ (hM.get 4 rfl) hl_b) rfl ?_
  rintro e w6 ⟨rfl,hN⟩
  refine ⟨_,rfl,trivial,fun a hE=>?_⟩
  replace hM : Mem _ _ w6 [_,_,_,_,_,_] := hM.call0 hN trivial;clear hN
  refine sm hE rfl fun a hE=>sx hE rfl fun a hE=>sx hE rfl fun a hE=>qo [32] hE hM zero23 rfl rfl fun a b13 w7 hE hM=>qr 0 hE rfl rfl hM rfl sz23 ((vh _).trans (vg p b z)) (vc _) rfl ((vh _).trans (by first | (simp;done) | (simp [*];done) | (simp;omega))) rfl (by intro X h;cases h) fun w8 hM=>?_
  simp only [List.set_cons_zero,List.set_cons_succ] at hM
  refine sas hE rfl fun a hE=>qa (K4 (ww1 fun _ K5=>wpp (ql hE rfl (hM.get 4 rfl) row62 rfl (by intro X h;cases h) rfl fun a hE=>?_)))
  replace hE := hE.cast 28 rfl (show _ = Value.agg ([[.int .i64 h.m],[.int .i64 h.r],[.bool h.v0.1],[.int .u64 ((h.v0.2.1 : Nat) : Int)],bv h.v0.2.2.1,bv h.v0.2.2.2,[.bool h.v1.1],[.int .u64 ((h.v1.2.1 : Nat) : Int)],bv h.v1.2.2.1,bv h.v1.2.2.2,[.bool h.s0.1],[.int .i64 h.s0.2.1],bv h.s0.2.2.1,bv h.s0.2.2.2.1,bv h.s0.2.2.2.2,[.bool h.s1.1],[.int .i64 h.s1.2.1],bv h.s1.2.2.1,bv h.s1.2.2.2.1,bv h.s1.2.2.2.2,[.bool h.s2.1],[.int .i64 h.s2.2.1],bv h.s2.2.2.1,bv h.s2.2.2.2.1,bv h.s2.2.2.2.2,[.bool h.s3.1],[.int .i64 h.s3.2.1],bv h.s3.2.2.1,bv h.s3.2.2.2.1,bv h.s3.2.2.2.2] : List (List Value)).flatten.toArray from (by first | (simp only [List.flatten_cons,List.flatten_nil,List.append_nil,List.append_assoc];done) | rfl))
  refine qn hE rfl Tryd.call59 (free_c h _ hk_h) rfl ?_
  rintro e w9 ⟨rfl,hN⟩
  refine ⟨_,rfl,trivial,fun a hE=>?_⟩
  replace hM : Mem _ _ w9 [_,_,_,_,_,_,_] := hM.call0 hN trivial;clear hN
  refine sas hE rfl fun a hE=>qa (K5 (ww1 fun _ K6=>wp_block (ww1 fun _ K7=>wpp (sm hE rfl fun a hE=>sb hE rfl rfl bin_neq fun a hE=>sas hE rfl fun a hE=>?_))))
  refine qa (K7 ?_)
  refine hE.split 30 rfl (fun hb30 hE=>?_) (fun hb30 hE=>?_)
  ·replace hb30 := of_decide_eq_false (not_true hb30)
   replace hb30 : ¬ ((kE p z) = 0) := by omega
   have hk2 : kE p z = 2 := kE_two hb30
   have e1 : addS h x p b z = (zH,0,2) := by simp [addS,hb19,hk2]
   refine wct hE rfl (ww1 fun _ K8=>wpp (vf [] hE rfl zero62 (by kernel_rfl) fpl62 (by first | (simp [PartsOk,Value.cells];done) | (simp [PartsOk,Value.cells];omega)) rfl fun a hE=>?_))
   replace hE := hE.cast 33 rfl (show _ = Value.agg ([[.int .i64 0],[.int .i64 0],[.bool false],[.int .u64 0],bv (List.replicate 32 (0 : UInt8)),bv (List.replicate 32 (0 : UInt8)),[.bool false],[.int .u64 0],bv (List.replicate 32 (0 : UInt8)),bv (List.replicate 32 (0 : UInt8)),[.bool false],[.int .i64 0],bv (List.replicate 16 (0 : UInt8)),bv (List.replicate 32 (0 : UInt8)),bv (List.replicate 32 (0 : UInt8)),[.bool false],[.int .i64 0],bv (List.replicate 16 (0 : UInt8)),bv (List.replicate 32 (0 : UInt8)),bv (List.replicate 32 (0 : UInt8)),[.bool false],[.int .i64 0],bv (List.replicate 16 (0 : UInt8)),bv (List.replicate 32 (0 : UInt8)),bv (List.replicate 32 (0 : UInt8)),[.bool false],[.int .i64 0],bv (List.replicate 16 (0 : UInt8)),bv (List.replicate 32 (0 : UInt8)),bv (List.replicate 32 (0 : UInt8))] : List (List Value)).flatten.toArray from (by first | rfl | simp [setAll] | (simp only [setAll,List.set_cons_zero,List.set_cons_succ,List.flatten_cons,List.flatten_nil,List.append_nil,List.append_assoc,List.replicate_succ,List.replicate_zero])))
   refine sm hE rfl fun a hE=>?_
   have hsl148_4 : (List.replicate 32 (0 : UInt8)).length = 32 := List.length_replicate
   have hsl148_5 : (List.replicate 32 (0 : UInt8)).length = 32 := List.length_replicate
   have hsl148_8 : (List.replicate 32 (0 : UInt8)).length = 32 := List.length_replicate
   have hsl148_9 : (List.replicate 32 (0 : UInt8)).length = 32 := List.length_replicate
   have hsl148_12 : (List.replicate 16 (0 : UInt8)).length = 16 := List.length_replicate
   have hsl148_13 : (List.replicate 32 (0 : UInt8)).length = 32 := List.length_replicate
   have hsl148_14 : (List.replicate 32 (0 : UInt8)).length = 32 := List.length_replicate
   have hsl148_17 : (List.replicate 16 (0 : UInt8)).length = 16 := List.length_replicate
   have hsl148_18 : (List.replicate 32 (0 : UInt8)).length = 32 := List.length_replicate
   have hsl148_19 : (List.replicate 32 (0 : UInt8)).length = 32 := List.length_replicate
   have hsl148_22 : (List.replicate 16 (0 : UInt8)).length = 16 := List.length_replicate
   have hsl148_23 : (List.replicate 32 (0 : UInt8)).length = 32 := List.length_replicate
   have hsl148_24 : (List.replicate 32 (0 : UInt8)).length = 32 := List.length_replicate
   have hsl148_27 : (List.replicate 16 (0 : UInt8)).length = 16 := List.length_replicate
   have hsl148_28 : (List.replicate 32 (0 : UInt8)).length = 32 := List.length_replicate
   have hsl148_29 : (List.replicate 32 (0 : UInt8)).length = 32 := List.length_replicate
   replace hM : Mem _ _ w9 [_,_,_,_,_,_,_] := hM.pick [1,0,2,3,4,5,6] rfl
   refine qq 0 30 (vss := [[.int .i64 0],[.int .i64 0],[.bool false],[.int .u64 0],bv (List.replicate 32 (0 : UInt8)),bv (List.replicate 32 (0 : UInt8)),[.bool false],[.int .u64 0],bv (List.replicate 32 (0 : UInt8)),bv (List.replicate 32 (0 : UInt8)),[.bool false],[.int .i64 0],bv (List.replicate 16 (0 : UInt8)),bv (List.replicate 32 (0 : UInt8)),bv (List.replicate 32 (0 : UInt8)),[.bool false],[.int .i64 0],bv (List.replicate 16 (0 : UInt8)),bv (List.replicate 32 (0 : UInt8)),bv (List.replicate 32 (0 : UInt8)),[.bool false],[.int .i64 0],bv (List.replicate 16 (0 : UInt8)),bv (List.replicate 32 (0 : UInt8)),bv (List.replicate 32 (0 : UInt8)),[.bool false],[.int .i64 0],bv (List.replicate 16 (0 : UInt8)),bv (List.replicate 32 (0 : UInt8)),bv (List.replicate 32 (0 : UInt8))]) hE rfl rfl hM rfl sz62 (by simp only [List.take_succ_cons,List.take_zero,List.drop_zero,List.drop_succ_cons];simp only [List.map_cons,List.map_nil,vh,List.length_cons,List.length_nil,List.length_replicate,hsl148_4,hsl148_5,hsl148_8,hsl148_9,hsl148_12,hsl148_13,hsl148_14,hsl148_17,hsl148_18,hsl148_19,hsl148_22,hsl148_23,hsl148_24,hsl148_27,hsl148_28,hsl148_29]) (by decide) rfl (one_fl ⟨one1 rfl,one1 rfl,one1 rfl,one1 rfl,vc _,vc _,one1 rfl,one1 rfl,vc _,vc _,one1 rfl,one1 rfl,vc _,vc _,vc _,one1 rfl,one1 rfl,vc _,vc _,vc _,one1 rfl,one1 rfl,vc _,vc _,vc _,one1 rfl,one1 rfl,vc _,vc _,vc _,trivial⟩) rfl (by intro X h;cases h) fun w10 hM=>?_
   try simp only [List.take_zero,List.take_succ_cons,List.drop_zero,List.drop_succ_cons,List.take_nil,List.drop_nil,List.nil_append,List.append_nil,List.cons_append] at hM
   exact sas hE rfl fun a hE=>sas hE rfl fun a hE=>qa (K8 (wp_ret (qf (qb (qk hE rfl (res_cellN rfl (hM.get 0 rfl) row62 rfl) rfl rfl ⟨(by rw [e1];(try rw [hk2]);simp only [setS,newS,zH,zV,zS,slotT,List.flatten_cons,List.flatten_nil,List.append_nil,List.append_assoc,List.cons_append,List.nil_append];try rfl),hM.pick [] rfl⟩)))))
  ·replace hb30 := of_decide_eq_true (not_false' hb30)
   replace hb30 : (kE p z) = 0 := by omega
   refine wcf hE rfl (ww1 fun _ K8=>wpp (ql hE rfl (hM.get 4 rfl) row62 rfl (by intro X h;cases h) rfl fun a hE=>?_))
   replace hE := hE.cast 36 rfl (show _ = Value.agg ([[.int .i64 h.m],[.int .i64 h.r],[.bool h.v0.1],[.int .u64 ((h.v0.2.1 : Nat) : Int)],bv h.v0.2.2.1,bv h.v0.2.2.2,[.bool h.v1.1],[.int .u64 ((h.v1.2.1 : Nat) : Int)],bv h.v1.2.2.1,bv h.v1.2.2.2,[.bool h.s0.1],[.int .i64 h.s0.2.1],bv h.s0.2.2.1,bv h.s0.2.2.2.1,bv h.s0.2.2.2.2,[.bool h.s1.1],[.int .i64 h.s1.2.1],bv h.s1.2.2.1,bv h.s1.2.2.2.1,bv h.s1.2.2.2.2,[.bool h.s2.1],[.int .i64 h.s2.2.1],bv h.s2.2.2.1,bv h.s2.2.2.2.1,bv h.s2.2.2.2.2,[.bool h.s3.1],[.int .i64 h.s3.2.1],bv h.s3.2.2.1,bv h.s3.2.2.2.1,bv h.s3.2.2.2.2] : List (List Value)).flatten.toArray from (by first | (simp only [List.flatten_cons,List.flatten_nil,List.append_nil,List.append_assoc];done) | rfl))
   refine sm hE rfl fun a hE=>ql hE rfl (hM.get 2 rfl) row57 rfl (by intro X h;cases h) rfl fun a hE=>?_
   refine qn hE rfl Tryd.call60 (there_c h p b _ (hM.get 5 rfl) (hM.get 6 rfl) hk_h hl_b) rfl ?_
   rintro e w10 ⟨rfl,hN⟩
   refine ⟨_,rfl,trivial,fun a hE=>?_⟩
   replace hM : Mem _ _ w10 [_,_,_,_,_,_,_] := hM.call0 hN trivial;clear hN
   refine sas hE rfl fun a hE=>qa (K8 ?_)
   refine hE.split 35 rfl (fun hb35 hE=>?_) (fun hb35 hE=>?_)
   ·have e1 : addS h x p b z = (zH,0,6) := by simp [addS,hb19,hb30,hb35]
    refine wct hE rfl (ww1 fun _ K9=>wpp (vf [] hE rfl zero62 (by kernel_rfl) fpl62 (by first | (simp [PartsOk,Value.cells];done) | (simp [PartsOk,Value.cells];omega)) rfl fun a hE=>?_))
    replace hE := hE.cast 40 rfl (show _ = Value.agg ([[.int .i64 0],[.int .i64 0],[.bool false],[.int .u64 0],bv (List.replicate 32 (0 : UInt8)),bv (List.replicate 32 (0 : UInt8)),[.bool false],[.int .u64 0],bv (List.replicate 32 (0 : UInt8)),bv (List.replicate 32 (0 : UInt8)),[.bool false],[.int .i64 0],bv (List.replicate 16 (0 : UInt8)),bv (List.replicate 32 (0 : UInt8)),bv (List.replicate 32 (0 : UInt8)),[.bool false],[.int .i64 0],bv (List.replicate 16 (0 : UInt8)),bv (List.replicate 32 (0 : UInt8)),bv (List.replicate 32 (0 : UInt8)),[.bool false],[.int .i64 0],bv (List.replicate 16 (0 : UInt8)),bv (List.replicate 32 (0 : UInt8)),bv (List.replicate 32 (0 : UInt8)),[.bool false],[.int .i64 0],bv (List.replicate 16 (0 : UInt8)),bv (List.replicate 32 (0 : UInt8)),bv (List.replicate 32 (0 : UInt8))] : List (List Value)).flatten.toArray from (by first | rfl | simp [setAll] | (simp only [setAll,List.set_cons_zero,List.set_cons_succ,List.flatten_cons,List.flatten_nil,List.append_nil,List.append_assoc,List.replicate_succ,List.replicate_zero])))
    have hsl203_4 : (List.replicate 32 (0 : UInt8)).length = 32 := List.length_replicate
    have hsl203_5 : (List.replicate 32 (0 : UInt8)).length = 32 := List.length_replicate
    have hsl203_8 : (List.replicate 32 (0 : UInt8)).length = 32 := List.length_replicate
    have hsl203_9 : (List.replicate 32 (0 : UInt8)).length = 32 := List.length_replicate
    have hsl203_12 : (List.replicate 16 (0 : UInt8)).length = 16 := List.length_replicate
    have hsl203_13 : (List.replicate 32 (0 : UInt8)).length = 32 := List.length_replicate
    have hsl203_14 : (List.replicate 32 (0 : UInt8)).length = 32 := List.length_replicate
    have hsl203_17 : (List.replicate 16 (0 : UInt8)).length = 16 := List.length_replicate
    have hsl203_18 : (List.replicate 32 (0 : UInt8)).length = 32 := List.length_replicate
    have hsl203_19 : (List.replicate 32 (0 : UInt8)).length = 32 := List.length_replicate
    have hsl203_22 : (List.replicate 16 (0 : UInt8)).length = 16 := List.length_replicate
    have hsl203_23 : (List.replicate 32 (0 : UInt8)).length = 32 := List.length_replicate
    have hsl203_24 : (List.replicate 32 (0 : UInt8)).length = 32 := List.length_replicate
    have hsl203_27 : (List.replicate 16 (0 : UInt8)).length = 16 := List.length_replicate
    have hsl203_28 : (List.replicate 32 (0 : UInt8)).length = 32 := List.length_replicate
    have hsl203_29 : (List.replicate 32 (0 : UInt8)).length = 32 := List.length_replicate
    replace hM : Mem _ _ w10 [_,_,_,_,_,_,_] := hM.pick [1,0,2,3,4,5,6] rfl
    refine qq 0 30 (vss := [[.int .i64 0],[.int .i64 0],[.bool false],[.int .u64 0],bv (List.replicate 32 (0 : UInt8)),bv (List.replicate 32 (0 : UInt8)),[.bool false],[.int .u64 0],bv (List.replicate 32 (0 : UInt8)),bv (List.replicate 32 (0 : UInt8)),[.bool false],[.int .i64 0],bv (List.replicate 16 (0 : UInt8)),bv (List.replicate 32 (0 : UInt8)),bv (List.replicate 32 (0 : UInt8)),[.bool false],[.int .i64 0],bv (List.replicate 16 (0 : UInt8)),bv (List.replicate 32 (0 : UInt8)),bv (List.replicate 32 (0 : UInt8)),[.bool false],[.int .i64 0],bv (List.replicate 16 (0 : UInt8)),bv (List.replicate 32 (0 : UInt8)),bv (List.replicate 32 (0 : UInt8)),[.bool false],[.int .i64 0],bv (List.replicate 16 (0 : UInt8)),bv (List.replicate 32 (0 : UInt8)),bv (List.replicate 32 (0 : UInt8))]) hE rfl rfl hM rfl sz62 (by simp only [List.take_succ_cons,List.take_zero,List.drop_zero,List.drop_succ_cons];simp only [List.map_cons,List.map_nil,vh,List.length_cons,List.length_nil,List.length_replicate,hsl203_4,hsl203_5,hsl203_8,hsl203_9,hsl203_12,hsl203_13,hsl203_14,hsl203_17,hsl203_18,hsl203_19,hsl203_22,hsl203_23,hsl203_24,hsl203_27,hsl203_28,hsl203_29]) (by decide) rfl (one_fl ⟨one1 rfl,one1 rfl,one1 rfl,one1 rfl,vc _,vc _,one1 rfl,one1 rfl,vc _,vc _,one1 rfl,one1 rfl,vc _,vc _,vc _,one1 rfl,one1 rfl,vc _,vc _,vc _,one1 rfl,one1 rfl,vc _,vc _,vc _,one1 rfl,one1 rfl,vc _,vc _,vc _,trivial⟩) rfl (by intro X h;cases h) fun w11 hM=>?_
    try simp only [List.take_zero,List.take_succ_cons,List.drop_zero,List.drop_succ_cons,List.take_nil,List.drop_nil,List.nil_append,List.append_nil,List.cons_append] at hM
    exact sas hE rfl fun a hE=>sas hE rfl fun a hE=>qa (K9 (wp_ret (qf (qb (qk hE rfl (res_cellN rfl (hM.get 0 rfl) row62 rfl) rfl rfl ⟨(by rw [e1];(try rw [hk2]);simp only [setS,newS,zH,zV,zS,slotT,List.flatten_cons,List.flatten_nil,List.append_nil,List.append_assoc,List.cons_append,List.nil_append];try rfl),hM.pick [] rfl⟩)))))
   ·refine wcf hE rfl (ww1 fun _ K9=>wpp (sm hE rfl fun a hE=>?_))
    rcases freeS_five h with hfr | hfr | hfr | hfr | hfr
    ·replace hE := hE.cast 15 rfl (show _ = Value.int .i64 (-1) from congrArg (Value.int .i64) hfr)
     replace hE := hE.cast 42 rfl (show _ = Value.int .i64 (-1) from congrArg (Value.int .i64) hfr)
     refine sb hE rfl rfl bin_lss fun a hE=>sas hE rfl fun a hE=>qa (K9 ?_)
     have e1 : addS h x p b z = (zH,0,7) := by simp [addS,hb19,hb30,hb35,hfr]
     replace hE := hE.cast 41 rfl (show _ = Value.bool true from (congrArg Value.bool (by decide)))
     refine wct hE rfl (ww1 fun _ K10=>wpp (vf [] hE rfl zero62 (by kernel_rfl) fpl62 (by first | (simp [PartsOk,Value.cells];done) | (simp [PartsOk,Value.cells];omega)) rfl fun a hE=>?_))
     replace hE := hE.cast 44 rfl (show _ = Value.agg ([[.int .i64 0],[.int .i64 0],[.bool false],[.int .u64 0],bv (List.replicate 32 (0 : UInt8)),bv (List.replicate 32 (0 : UInt8)),[.bool false],[.int .u64 0],bv (List.replicate 32 (0 : UInt8)),bv (List.replicate 32 (0 : UInt8)),[.bool false],[.int .i64 0],bv (List.replicate 16 (0 : UInt8)),bv (List.replicate 32 (0 : UInt8)),bv (List.replicate 32 (0 : UInt8)),[.bool false],[.int .i64 0],bv (List.replicate 16 (0 : UInt8)),bv (List.replicate 32 (0 : UInt8)),bv (List.replicate 32 (0 : UInt8)),[.bool false],[.int .i64 0],bv (List.replicate 16 (0 : UInt8)),bv (List.replicate 32 (0 : UInt8)),bv (List.replicate 32 (0 : UInt8)),[.bool false],[.int .i64 0],bv (List.replicate 16 (0 : UInt8)),bv (List.replicate 32 (0 : UInt8)),bv (List.replicate 32 (0 : UInt8))] : List (List Value)).flatten.toArray from (by first | rfl | simp [setAll] | (simp only [setAll,List.set_cons_zero,List.set_cons_succ,List.flatten_cons,List.flatten_nil,List.append_nil,List.append_assoc,List.replicate_succ,List.replicate_zero])))
     have hsl252_4 : (List.replicate 32 (0 : UInt8)).length = 32 := List.length_replicate
     have hsl252_5 : (List.replicate 32 (0 : UInt8)).length = 32 := List.length_replicate
     have hsl252_8 : (List.replicate 32 (0 : UInt8)).length = 32 := List.length_replicate
     have hsl252_9 : (List.replicate 32 (0 : UInt8)).length = 32 := List.length_replicate
     have hsl252_12 : (List.replicate 16 (0 : UInt8)).length = 16 := List.length_replicate
     have hsl252_13 : (List.replicate 32 (0 : UInt8)).length = 32 := List.length_replicate
     have hsl252_14 : (List.replicate 32 (0 : UInt8)).length = 32 := List.length_replicate
     have hsl252_17 : (List.replicate 16 (0 : UInt8)).length = 16 := List.length_replicate
     have hsl252_18 : (List.replicate 32 (0 : UInt8)).length = 32 := List.length_replicate
     have hsl252_19 : (List.replicate 32 (0 : UInt8)).length = 32 := List.length_replicate
     have hsl252_22 : (List.replicate 16 (0 : UInt8)).length = 16 := List.length_replicate
     have hsl252_23 : (List.replicate 32 (0 : UInt8)).length = 32 := List.length_replicate
     have hsl252_24 : (List.replicate 32 (0 : UInt8)).length = 32 := List.length_replicate
     have hsl252_27 : (List.replicate 16 (0 : UInt8)).length = 16 := List.length_replicate
     have hsl252_28 : (List.replicate 32 (0 : UInt8)).length = 32 := List.length_replicate
     have hsl252_29 : (List.replicate 32 (0 : UInt8)).length = 32 := List.length_replicate
     replace hM : Mem _ _ w10 [_,_,_,_,_,_,_] := hM.pick [1,0,2,3,4,5,6] rfl
     refine qq 0 30 (vss := [[.int .i64 0],[.int .i64 0],[.bool false],[.int .u64 0],bv (List.replicate 32 (0 : UInt8)),bv (List.replicate 32 (0 : UInt8)),[.bool false],[.int .u64 0],bv (List.replicate 32 (0 : UInt8)),bv (List.replicate 32 (0 : UInt8)),[.bool false],[.int .i64 0],bv (List.replicate 16 (0 : UInt8)),bv (List.replicate 32 (0 : UInt8)),bv (List.replicate 32 (0 : UInt8)),[.bool false],[.int .i64 0],bv (List.replicate 16 (0 : UInt8)),bv (List.replicate 32 (0 : UInt8)),bv (List.replicate 32 (0 : UInt8)),[.bool false],[.int .i64 0],bv (List.replicate 16 (0 : UInt8)),bv (List.replicate 32 (0 : UInt8)),bv (List.replicate 32 (0 : UInt8)),[.bool false],[.int .i64 0],bv (List.replicate 16 (0 : UInt8)),bv (List.replicate 32 (0 : UInt8)),bv (List.replicate 32 (0 : UInt8))]) hE rfl rfl hM rfl sz62 (by simp only [List.take_succ_cons,List.take_zero,List.drop_zero,List.drop_succ_cons];simp only [List.map_cons,List.map_nil,vh,List.length_cons,List.length_nil,List.length_replicate,hsl252_4,hsl252_5,hsl252_8,hsl252_9,hsl252_12,hsl252_13,hsl252_14,hsl252_17,hsl252_18,hsl252_19,hsl252_22,hsl252_23,hsl252_24,hsl252_27,hsl252_28,hsl252_29]) (by decide) rfl (one_fl ⟨one1 rfl,one1 rfl,one1 rfl,one1 rfl,vc _,vc _,one1 rfl,one1 rfl,vc _,vc _,one1 rfl,one1 rfl,vc _,vc _,vc _,one1 rfl,one1 rfl,vc _,vc _,vc _,one1 rfl,one1 rfl,vc _,vc _,vc _,one1 rfl,one1 rfl,vc _,vc _,vc _,trivial⟩) rfl (by intro X h;cases h) fun w11 hM=>?_
     try simp only [List.take_zero,List.take_succ_cons,List.drop_zero,List.drop_succ_cons,List.take_nil,List.drop_nil,List.nil_append,List.append_nil,List.cons_append] at hM
     exact sas hE rfl fun a hE=>sas hE rfl fun a hE=>qa (K10 (wp_ret (qf (qb (qk hE rfl (res_cellN rfl (hM.get 0 rfl) row62 rfl) rfl rfl ⟨(by rw [e1];(try rw [hk2]);simp only [setS,newS,zH,zV,zS,slotT,List.flatten_cons,List.flatten_nil,List.append_nil,List.append_assoc,List.cons_append,List.nil_append];try rfl),hM.pick [] rfl⟩)))))
    ·replace hE := hE.cast 15 rfl (show _ = Value.int .i64 0 from congrArg (Value.int .i64) hfr)
     replace hE := hE.cast 42 rfl (show _ = Value.int .i64 0 from congrArg (Value.int .i64) hfr)
     have e1 : addS h x p b z = (setS h 0 (newS p b z x),0,0) := by simp [addS,hb19,hb30,hb35,hfr]
     refine sb hE rfl rfl bin_lss fun a hE=>?_
     replace hE := hE.cast 43 rfl (show _ = Value.bool false from (congrArg Value.bool (by decide)))
     refine sas hE rfl fun a hE=>qa (K9 (wcf hE rfl (wp_skip (qe (K6 (ww1 fun _ K10=>qz hM (by kernel_rfl) (fun _ => True) (fun _ => True) (.re [(0,true),(1,true),(7,true),(2,true),(3,true),(4,true),(5,false),(6,true),(8,true),(9,false)] (.fl 3 (.weak (.fl 3 (.or 5 (.re [(6,true),(8,true),(9,false)] (.fl 2 (.fl 0 (.cut (.or 9 (.cut (.re [] (.weak (.leaf 0)))) (.stop)))))) (.stop)))))) [(0,true),(1,true),(7,true),(2,true),(3,true),(4,true),(5,false),(6,true),(8,true),(9,false)] [(2,[(6,2),(8,2),(9,2)]),(3,[(5,3),(6,5),(8,3),(9,3)]),(4,[(5,4),(6,5),(8,4),(9,4)]),(5,[(6,5),(8,5),(9,5)]),(6,[(8,6),(9,6)]),(7,[(8,7),(9,8)]),(8,[(9,8)]),(9,[])] (by kernel_rfl) ?_))))))
     intro w11 hM' hww11;replace hM := hM'
     refine o_re (o_fl rfl (sm hE rfl fun a hE=>sm hE rfl fun a hE=>sf hE rfl fo62_2 fun a hE=>qa (qh (vb (fun _ => False) (fun _ _ => trivial) (o_fl rfl (ql hE rfl (hM.get 2 rfl) row57 rfl (by intro X h;cases h;simp) rfl fun a hE=>?_))))))
     refine ql hE rfl (hM.get 0 rfl) row23 rfl (by intro X h;cases h;simp) rfl fun a hE=>?_
     refine ql hE rfl (hM.get 3 rfl) row23 rfl (by intro X h;cases h;simp) rfl fun a hE=>?_
     refine qa (qh ?_)
     refine o_or rfl ?_ ?_
     ·refine qn hE rfl Tryd.call14 (wrap_c (kK p b z) [115,108,111,116] 0 x _ (hM.get 5 rfl) (hM.get 6 rfl) (vg p b z) hl_x (by have hl_0 : (kK p b z).length = 32 := (vg p b z);have hl_1 : [115,108,111,116].length = 4 := (by first | (simp;done) | (simp [*];done) | (simp;omega));have hl_3 : x.length = 32 := hl_x;first | omega | assumption | (simp;done) | (simp;omega) | decide) (by have hl_0 : (kK p b z).length = 32 := (vg p b z);have hl_1 : [115,108,111,116].length = 4 := (by first | (simp;done) | (simp [*];done) | (simp;omega));have hl_3 : x.length = 32 := hl_x;first | omega | assumption | (simp;done) | (simp;omega) | decide)) rfl ?_
      rintro e w12 ⟨rfl,hN⟩
      refine ⟨_,rfl,hN.sta0 _,fun a hE=>?_⟩
      replace hM : Mem _ _ w12 [_,_,_,_,_,_,_] := hM.call0 hN trivial;clear hN
      refine qa (qh (o_re (o_fl rfl ?_)))
      have hbd51_2_0 : b.length = 16 := hl_b
      have hbd51_3_0 : (wrapD (kK p b z) [115,108,111,116] 0 x).length = 32 := (wrapD_len (k := (kK p b z)) (l := [115,108,111,116]) (n := 0) (x := x) (by have hl_ax : x.length = 32 := hl_x;first | assumption | (simp;done)))
      have hbd51_3_1 : (tagB (kK p b z) [115,108,111,116] 0 (wrapD (kK p b z) [115,108,111,116] 0 x)).length = 32 := (tagB_len (kK p b z) [115,108,111,116] 0 (wrapD (kK p b z) [115,108,111,116] 0 x))
      refine vf [[.bool true],[.int .i64 z],bv b,([bv (wrapD (kK p b z) [115,108,111,116] 0 x),bv (tagB (kK p b z) [115,108,111,116] 0 (wrapD (kK p b z) [115,108,111,116] 0 x))] : List (List Value)).flatten] hE rfl zero59 (by kernel_rfl) fpl59 (by first | (simp [PartsOk,Value.cells,hbd51_2_0,hbd51_3_0,hbd51_3_1];done) | (simp [PartsOk,Value.cells,hbd51_2_0,hbd51_3_0,hbd51_3_1];omega)) rfl fun a hE=>?_
      replace hE := hE.cast 51 rfl (show _ = Value.agg ([[.bool true],[.int .i64 z],bv b,bv (wrapD (kK p b z) [115,108,111,116] 0 x),bv (tagB (kK p b z) [115,108,111,116] 0 (wrapD (kK p b z) [115,108,111,116] 0 x))] : List (List Value)).flatten.toArray from (by first | rfl | simp [setAll] | (simp only [setAll,List.set_cons_zero,List.set_cons_succ,List.flatten_cons,List.flatten_nil,List.append_nil,List.append_assoc,List.replicate_succ,List.replicate_zero])))
      refine qp (j := 0) hE rfl rfl arr60 rfl (by decide) rfl fun a hE=>?_
      refine qa (qh (o_fl rfl (qa (qh (o_cut (fun b => b = b5) ?_)))))
      refine o_or rfl ?_ ?_
      ·have hsl328_2 : b.length = 16 := hl_b
       have hsl328_3 : (wrapD (kK p b z) [115,108,111,116] 0 x).length = 32 := (wrapD_len (k := (kK p b z)) (l := [115,108,111,116]) (n := 0) (x := x) (by have hl_ax : x.length = 32 := hl_x;first | assumption | (simp;done)))
       have hsl328_4 : (tagB (kK p b z) [115,108,111,116] 0 (wrapD (kK p b z) [115,108,111,116] 0 x)).length = 32 := (tagB_len (kK p b z) [115,108,111,116] 0 (wrapD (kK p b z) [115,108,111,116] 0 x))
       replace hM : Mem _ _ w12 [_,_,_,_,_,_,_] := hM.pick [4,0,1,2,3,5,6] rfl
       refine qq 10 5 (vss := [[.bool true],[.int .i64 z],bv b,bv (wrapD (kK p b z) [115,108,111,116] 0 x),bv (tagB (kK p b z) [115,108,111,116] 0 (wrapD (kK p b z) [115,108,111,116] 0 x))]) hE rfl rfl hM rfl sz59 (by simp only [List.take_succ_cons,List.take_zero,List.drop_zero,List.drop_succ_cons];simp only [List.map_cons,List.map_nil,vh,List.length_cons,List.length_nil,List.length_replicate,hsl328_2,hsl328_3,hsl328_4]) (by decide) rfl (one_fl ⟨one1 rfl,one1 rfl,vc _,vc _,vc _,trivial⟩) rfl (by intro X h;cases h;rfl) fun w13 hM=>?_
       try simp only [List.take_zero,List.take_succ_cons,List.drop_zero,List.drop_succ_cons,List.take_nil,List.drop_nil,List.nil_append,List.append_nil,List.cons_append] at hM
       refine qa (qh (o_cut (fun _ => True) (o_re (vb (fun _ => False) (fun _ _ => trivial) (va rfl rfl (qa (q_ph (qa (K10 (ww1 fun _ K11=>wpp (ql hE rfl (hM.get 0 rfl) row62 rfl (by intro X h;cases h) rfl fun a hE=>?_)))))))))))
       replace hE := hE.cast 54 rfl (show _ = Value.agg ([[.int .i64 h.m],[.int .i64 h.r],[.bool h.v0.1],[.int .u64 ((h.v0.2.1 : Nat) : Int)],bv h.v0.2.2.1,bv h.v0.2.2.2,[.bool h.v1.1],[.int .u64 ((h.v1.2.1 : Nat) : Int)],bv h.v1.2.2.1,bv h.v1.2.2.2,[.bool true],[.int .i64 z],bv b,bv (wrapD (kK p b z) [115,108,111,116] 0 x),bv (tagB (kK p b z) [115,108,111,116] 0 (wrapD (kK p b z) [115,108,111,116] 0 x)),[.bool h.s1.1],[.int .i64 h.s1.2.1],bv h.s1.2.2.1,bv h.s1.2.2.2.1,bv h.s1.2.2.2.2,[.bool h.s2.1],[.int .i64 h.s2.2.1],bv h.s2.2.2.1,bv h.s2.2.2.2.1,bv h.s2.2.2.2.2,[.bool h.s3.1],[.int .i64 h.s3.2.1],bv h.s3.2.2.1,bv h.s3.2.2.2.1,bv h.s3.2.2.2.2] : List (List Value)).flatten.toArray from (by first | (simp only [List.flatten_cons,List.flatten_nil,List.append_nil,List.append_assoc];done) | rfl))
       refine sm hE rfl fun a hE=>?_
       have hsl347_4 : h.v0.2.2.1.length = 32 := hk_h.v0.2.1
       have hsl347_5 : h.v0.2.2.2.length = 32 := hk_h.v0.2.2
       have hsl347_8 : h.v1.2.2.1.length = 32 := hk_h.v1.2.1
       have hsl347_9 : h.v1.2.2.2.length = 32 := hk_h.v1.2.2
       have hsl347_12 : b.length = 16 := hl_b
       have hsl347_13 : (wrapD (kK p b z) [115,108,111,116] 0 x).length = 32 := (wrapD_len (k := (kK p b z)) (l := [115,108,111,116]) (n := 0) (x := x) (by have hl_ax : x.length = 32 := hl_x;first | assumption | (simp;done)))
       have hsl347_14 : (tagB (kK p b z) [115,108,111,116] 0 (wrapD (kK p b z) [115,108,111,116] 0 x)).length = 32 := (tagB_len (kK p b z) [115,108,111,116] 0 (wrapD (kK p b z) [115,108,111,116] 0 x))
       have hsl347_17 : h.s1.2.2.1.length = 16 := hk_h.s1.2.1
       have hsl347_18 : h.s1.2.2.2.1.length = 32 := hk_h.s1.2.2.1
       have hsl347_19 : h.s1.2.2.2.2.length = 32 := hk_h.s1.2.2.2
       have hsl347_22 : h.s2.2.2.1.length = 16 := hk_h.s2.2.1
       have hsl347_23 : h.s2.2.2.2.1.length = 32 := hk_h.s2.2.2.1
       have hsl347_24 : h.s2.2.2.2.2.length = 32 := hk_h.s2.2.2.2
       have hsl347_27 : h.s3.2.2.1.length = 16 := hk_h.s3.2.1
       have hsl347_28 : h.s3.2.2.2.1.length = 32 := hk_h.s3.2.2.1
       have hsl347_29 : h.s3.2.2.2.2.length = 32 := hk_h.s3.2.2.2
       replace hM : Mem _ _ w13 [_,_,_,_,_,_,_] := hM.pick [2,0,1,3,4,5,6] rfl
       refine qq 0 30 (vss := [[.int .i64 h.m],[.int .i64 h.r],[.bool h.v0.1],[.int .u64 ((h.v0.2.1 : Nat) : Int)],bv h.v0.2.2.1,bv h.v0.2.2.2,[.bool h.v1.1],[.int .u64 ((h.v1.2.1 : Nat) : Int)],bv h.v1.2.2.1,bv h.v1.2.2.2,[.bool true],[.int .i64 z],bv b,bv (wrapD (kK p b z) [115,108,111,116] 0 x),bv (tagB (kK p b z) [115,108,111,116] 0 (wrapD (kK p b z) [115,108,111,116] 0 x)),[.bool h.s1.1],[.int .i64 h.s1.2.1],bv h.s1.2.2.1,bv h.s1.2.2.2.1,bv h.s1.2.2.2.2,[.bool h.s2.1],[.int .i64 h.s2.2.1],bv h.s2.2.2.1,bv h.s2.2.2.2.1,bv h.s2.2.2.2.2,[.bool h.s3.1],[.int .i64 h.s3.2.1],bv h.s3.2.2.1,bv h.s3.2.2.2.1,bv h.s3.2.2.2.2]) hE rfl rfl hM rfl sz62 (by simp only [List.take_succ_cons,List.take_zero,List.drop_zero,List.drop_succ_cons];simp only [List.map_cons,List.map_nil,vh,List.length_cons,List.length_nil,List.length_replicate,hsl347_4,hsl347_5,hsl347_8,hsl347_9,hsl347_12,hsl347_13,hsl347_14,hsl347_17,hsl347_18,hsl347_19,hsl347_22,hsl347_23,hsl347_24,hsl347_27,hsl347_28,hsl347_29]) (by decide) rfl (one_fl ⟨one1 rfl,one1 rfl,one1 rfl,one1 rfl,vc _,vc _,one1 rfl,one1 rfl,vc _,vc _,one1 rfl,one1 rfl,vc _,vc _,vc _,one1 rfl,one1 rfl,vc _,vc _,vc _,one1 rfl,one1 rfl,vc _,vc _,vc _,one1 rfl,one1 rfl,vc _,vc _,vc _,trivial⟩) rfl (by intro X h;cases h) fun w14 hM=>?_
       try simp only [List.take_zero,List.take_succ_cons,List.drop_zero,List.drop_succ_cons,List.take_nil,List.drop_nil,List.nil_append,List.append_nil,List.cons_append] at hM
       exact sas hE rfl fun a hE=>sas hE rfl fun a hE=>qa (K11 (wp_ret (qk hE rfl (res_cellN rfl (hM.get 0 rfl) row62 rfl) rfl rfl ⟨(by rw [e1];(try rw [hk2]);simp only [setS,newS,zH,zV,zS,slotT,List.flatten_cons,List.flatten_nil,List.append_nil,List.append_assoc,List.cons_append,List.nil_append];try rfl),hM.pick [] rfl⟩)))
      trivial
     trivial
    ·replace hE := hE.cast 15 rfl (show _ = Value.int .i64 1 from congrArg (Value.int .i64) hfr)
     replace hE := hE.cast 42 rfl (show _ = Value.int .i64 1 from congrArg (Value.int .i64) hfr)
     have e1 : addS h x p b z = (setS h 1 (newS p b z x),1,0) := by simp [addS,hb19,hb30,hb35,hfr]
     refine sb hE rfl rfl bin_lss fun a hE=>?_
     replace hE := hE.cast 43 rfl (show _ = Value.bool false from (congrArg Value.bool (by decide)))
     refine sas hE rfl fun a hE=>qa (K9 (wcf hE rfl (wp_skip (qe (K6 (ww1 fun _ K10=>qz hM (by kernel_rfl) (fun _ => True) (fun _ => True) (.re [(0,true),(1,true),(7,true),(2,true),(3,true),(4,true),(5,false),(6,true),(8,true),(9,false)] (.fl 3 (.weak (.fl 3 (.or 5 (.re [(6,true),(8,true),(9,false)] (.fl 2 (.fl 0 (.cut (.or 9 (.cut (.re [] (.weak (.leaf 0)))) (.stop)))))) (.stop)))))) [(0,true),(1,true),(7,true),(2,true),(3,true),(4,true),(5,false),(6,true),(8,true),(9,false)] [(2,[(6,2),(8,2),(9,2)]),(3,[(5,3),(6,5),(8,3),(9,3)]),(4,[(5,4),(6,5),(8,4),(9,4)]),(5,[(6,5),(8,5),(9,5)]),(6,[(8,6),(9,6)]),(7,[(8,7),(9,8)]),(8,[(9,8)]),(9,[])] (by kernel_rfl) ?_))))))
     intro w11 hM' hww11;replace hM := hM'
     refine o_re (o_fl rfl (sm hE rfl fun a hE=>sm hE rfl fun a hE=>sf hE rfl fo62_2 fun a hE=>qa (qh (vb (fun _ => False) (fun _ _ => trivial) (o_fl rfl (ql hE rfl (hM.get 2 rfl) row57 rfl (by intro X h;cases h;simp) rfl fun a hE=>?_))))))
     refine ql hE rfl (hM.get 0 rfl) row23 rfl (by intro X h;cases h;simp) rfl fun a hE=>?_
     refine ql hE rfl (hM.get 3 rfl) row23 rfl (by intro X h;cases h;simp) rfl fun a hE=>?_
     refine qa (qh ?_)
     refine o_or rfl ?_ ?_
     ·refine qn hE rfl Tryd.call14 (wrap_c (kK p b z) [115,108,111,116] 0 x _ (hM.get 5 rfl) (hM.get 6 rfl) (vg p b z) hl_x (by have hl_0 : (kK p b z).length = 32 := (vg p b z);have hl_1 : [115,108,111,116].length = 4 := (by first | (simp;done) | (simp [*];done) | (simp;omega));have hl_3 : x.length = 32 := hl_x;first | omega | assumption | (simp;done) | (simp;omega) | decide) (by have hl_0 : (kK p b z).length = 32 := (vg p b z);have hl_1 : [115,108,111,116].length = 4 := (by first | (simp;done) | (simp [*];done) | (simp;omega));have hl_3 : x.length = 32 := hl_x;first | omega | assumption | (simp;done) | (simp;omega) | decide)) rfl ?_
      rintro e w12 ⟨rfl,hN⟩
      refine ⟨_,rfl,hN.sta0 _,fun a hE=>?_⟩
      replace hM : Mem _ _ w12 [_,_,_,_,_,_,_] := hM.call0 hN trivial;clear hN
      refine qa (qh (o_re (o_fl rfl ?_)))
      have hbd51_2_0 : b.length = 16 := hl_b
      have hbd51_3_0 : (wrapD (kK p b z) [115,108,111,116] 0 x).length = 32 := (wrapD_len (k := (kK p b z)) (l := [115,108,111,116]) (n := 0) (x := x) (by have hl_ax : x.length = 32 := hl_x;first | assumption | (simp;done)))
      have hbd51_3_1 : (tagB (kK p b z) [115,108,111,116] 0 (wrapD (kK p b z) [115,108,111,116] 0 x)).length = 32 := (tagB_len (kK p b z) [115,108,111,116] 0 (wrapD (kK p b z) [115,108,111,116] 0 x))
      refine vf [[.bool true],[.int .i64 z],bv b,([bv (wrapD (kK p b z) [115,108,111,116] 0 x),bv (tagB (kK p b z) [115,108,111,116] 0 (wrapD (kK p b z) [115,108,111,116] 0 x))] : List (List Value)).flatten] hE rfl zero59 (by kernel_rfl) fpl59 (by first | (simp [PartsOk,Value.cells,hbd51_2_0,hbd51_3_0,hbd51_3_1];done) | (simp [PartsOk,Value.cells,hbd51_2_0,hbd51_3_0,hbd51_3_1];omega)) rfl fun a hE=>?_
      replace hE := hE.cast 51 rfl (show _ = Value.agg ([[.bool true],[.int .i64 z],bv b,bv (wrapD (kK p b z) [115,108,111,116] 0 x),bv (tagB (kK p b z) [115,108,111,116] 0 (wrapD (kK p b z) [115,108,111,116] 0 x))] : List (List Value)).flatten.toArray from (by first | rfl | simp [setAll] | (simp only [setAll,List.set_cons_zero,List.set_cons_succ,List.flatten_cons,List.flatten_nil,List.append_nil,List.append_assoc,List.replicate_succ,List.replicate_zero])))
      refine qp (j := 1) hE rfl rfl arr60 rfl (by decide) rfl fun a hE=>?_
      refine qa (qh (o_fl rfl (qa (qh (o_cut (fun b => b = b5) ?_)))))
      refine o_or rfl ?_ ?_
      ·have hsl423_2 : b.length = 16 := hl_b
       have hsl423_3 : (wrapD (kK p b z) [115,108,111,116] 0 x).length = 32 := (wrapD_len (k := (kK p b z)) (l := [115,108,111,116]) (n := 0) (x := x) (by have hl_ax : x.length = 32 := hl_x;first | assumption | (simp;done)))
       have hsl423_4 : (tagB (kK p b z) [115,108,111,116] 0 (wrapD (kK p b z) [115,108,111,116] 0 x)).length = 32 := (tagB_len (kK p b z) [115,108,111,116] 0 (wrapD (kK p b z) [115,108,111,116] 0 x))
       replace hM : Mem _ _ w12 [_,_,_,_,_,_,_] := hM.pick [4,0,1,2,3,5,6] rfl
       refine qq 15 5 (vss := [[.bool true],[.int .i64 z],bv b,bv (wrapD (kK p b z) [115,108,111,116] 0 x),bv (tagB (kK p b z) [115,108,111,116] 0 (wrapD (kK p b z) [115,108,111,116] 0 x))]) hE rfl rfl hM rfl sz59 (by simp only [List.take_succ_cons,List.take_zero,List.drop_zero,List.drop_succ_cons];simp only [List.map_cons,List.map_nil,vh,List.length_cons,List.length_nil,List.length_replicate,hsl423_2,hsl423_3,hsl423_4]) (by decide) rfl (one_fl ⟨one1 rfl,one1 rfl,vc _,vc _,vc _,trivial⟩) rfl (by intro X h;cases h;rfl) fun w13 hM=>?_
       try simp only [List.take_zero,List.take_succ_cons,List.drop_zero,List.drop_succ_cons,List.take_nil,List.drop_nil,List.nil_append,List.append_nil,List.cons_append] at hM
       refine qa (qh (o_cut (fun _ => True) (o_re (vb (fun _ => False) (fun _ _ => trivial) (va rfl rfl (qa (q_ph (qa (K10 (ww1 fun _ K11=>wpp (ql hE rfl (hM.get 0 rfl) row62 rfl (by intro X h;cases h) rfl fun a hE=>?_)))))))))))
       replace hE := hE.cast 54 rfl (show _ = Value.agg ([[.int .i64 h.m],[.int .i64 h.r],[.bool h.v0.1],[.int .u64 ((h.v0.2.1 : Nat) : Int)],bv h.v0.2.2.1,bv h.v0.2.2.2,[.bool h.v1.1],[.int .u64 ((h.v1.2.1 : Nat) : Int)],bv h.v1.2.2.1,bv h.v1.2.2.2,[.bool h.s0.1],[.int .i64 h.s0.2.1],bv h.s0.2.2.1,bv h.s0.2.2.2.1,bv h.s0.2.2.2.2,[.bool true],[.int .i64 z],bv b,bv (wrapD (kK p b z) [115,108,111,116] 0 x),bv (tagB (kK p b z) [115,108,111,116] 0 (wrapD (kK p b z) [115,108,111,116] 0 x)),[.bool h.s2.1],[.int .i64 h.s2.2.1],bv h.s2.2.2.1,bv h.s2.2.2.2.1,bv h.s2.2.2.2.2,[.bool h.s3.1],[.int .i64 h.s3.2.1],bv h.s3.2.2.1,bv h.s3.2.2.2.1,bv h.s3.2.2.2.2] : List (List Value)).flatten.toArray from (by first | (simp only [List.flatten_cons,List.flatten_nil,List.append_nil,List.append_assoc];done) | rfl))
       refine sm hE rfl fun a hE=>?_
       have hsl442_4 : h.v0.2.2.1.length = 32 := hk_h.v0.2.1
       have hsl442_5 : h.v0.2.2.2.length = 32 := hk_h.v0.2.2
       have hsl442_8 : h.v1.2.2.1.length = 32 := hk_h.v1.2.1
       have hsl442_9 : h.v1.2.2.2.length = 32 := hk_h.v1.2.2
       have hsl442_12 : h.s0.2.2.1.length = 16 := hk_h.s0.2.1
       have hsl442_13 : h.s0.2.2.2.1.length = 32 := hk_h.s0.2.2.1
       have hsl442_14 : h.s0.2.2.2.2.length = 32 := hk_h.s0.2.2.2
       have hsl442_17 : b.length = 16 := hl_b
       have hsl442_18 : (wrapD (kK p b z) [115,108,111,116] 0 x).length = 32 := (wrapD_len (k := (kK p b z)) (l := [115,108,111,116]) (n := 0) (x := x) (by have hl_ax : x.length = 32 := hl_x;first | assumption | (simp;done)))
       have hsl442_19 : (tagB (kK p b z) [115,108,111,116] 0 (wrapD (kK p b z) [115,108,111,116] 0 x)).length = 32 := (tagB_len (kK p b z) [115,108,111,116] 0 (wrapD (kK p b z) [115,108,111,116] 0 x))
       have hsl442_22 : h.s2.2.2.1.length = 16 := hk_h.s2.2.1
       have hsl442_23 : h.s2.2.2.2.1.length = 32 := hk_h.s2.2.2.1
       have hsl442_24 : h.s2.2.2.2.2.length = 32 := hk_h.s2.2.2.2
       have hsl442_27 : h.s3.2.2.1.length = 16 := hk_h.s3.2.1
       have hsl442_28 : h.s3.2.2.2.1.length = 32 := hk_h.s3.2.2.1
       have hsl442_29 : h.s3.2.2.2.2.length = 32 := hk_h.s3.2.2.2
       replace hM : Mem _ _ w13 [_,_,_,_,_,_,_] := hM.pick [2,0,1,3,4,5,6] rfl
       refine qq 0 30 (vss := [[.int .i64 h.m],[.int .i64 h.r],[.bool h.v0.1],[.int .u64 ((h.v0.2.1 : Nat) : Int)],bv h.v0.2.2.1,bv h.v0.2.2.2,[.bool h.v1.1],[.int .u64 ((h.v1.2.1 : Nat) : Int)],bv h.v1.2.2.1,bv h.v1.2.2.2,[.bool h.s0.1],[.int .i64 h.s0.2.1],bv h.s0.2.2.1,bv h.s0.2.2.2.1,bv h.s0.2.2.2.2,[.bool true],[.int .i64 z],bv b,bv (wrapD (kK p b z) [115,108,111,116] 0 x),bv (tagB (kK p b z) [115,108,111,116] 0 (wrapD (kK p b z) [115,108,111,116] 0 x)),[.bool h.s2.1],[.int .i64 h.s2.2.1],bv h.s2.2.2.1,bv h.s2.2.2.2.1,bv h.s2.2.2.2.2,[.bool h.s3.1],[.int .i64 h.s3.2.1],bv h.s3.2.2.1,bv h.s3.2.2.2.1,bv h.s3.2.2.2.2]) hE rfl rfl hM rfl sz62 (by simp only [List.take_succ_cons,List.take_zero,List.drop_zero,List.drop_succ_cons];simp only [List.map_cons,List.map_nil,vh,List.length_cons,List.length_nil,List.length_replicate,hsl442_4,hsl442_5,hsl442_8,hsl442_9,hsl442_12,hsl442_13,hsl442_14,hsl442_17,hsl442_18,hsl442_19,hsl442_22,hsl442_23,hsl442_24,hsl442_27,hsl442_28,hsl442_29]) (by decide) rfl (one_fl ⟨one1 rfl,one1 rfl,one1 rfl,one1 rfl,vc _,vc _,one1 rfl,one1 rfl,vc _,vc _,one1 rfl,one1 rfl,vc _,vc _,vc _,one1 rfl,one1 rfl,vc _,vc _,vc _,one1 rfl,one1 rfl,vc _,vc _,vc _,one1 rfl,one1 rfl,vc _,vc _,vc _,trivial⟩) rfl (by intro X h;cases h) fun w14 hM=>?_
       try simp only [List.take_zero,List.take_succ_cons,List.drop_zero,List.drop_succ_cons,List.take_nil,List.drop_nil,List.nil_append,List.append_nil,List.cons_append] at hM
       exact sas hE rfl fun a hE=>sas hE rfl fun a hE=>qa (K11 (wp_ret (qk hE rfl (res_cellN rfl (hM.get 0 rfl) row62 rfl) rfl rfl ⟨(by rw [e1];(try rw [hk2]);simp only [setS,newS,zH,zV,zS,slotT,List.flatten_cons,List.flatten_nil,List.append_nil,List.append_assoc,List.cons_append,List.nil_append];try rfl),hM.pick [] rfl⟩)))
      trivial
     trivial
    ·replace hE := hE.cast 15 rfl (show _ = Value.int .i64 2 from congrArg (Value.int .i64) hfr)
     replace hE := hE.cast 42 rfl (show _ = Value.int .i64 2 from congrArg (Value.int .i64) hfr)
     have e1 : addS h x p b z = (setS h 2 (newS p b z x),2,0) := by simp [addS,hb19,hb30,hb35,hfr]
     refine sb hE rfl rfl bin_lss fun a hE=>?_
     replace hE := hE.cast 43 rfl (show _ = Value.bool false from (congrArg Value.bool (by decide)))
     refine sas hE rfl fun a hE=>qa (K9 (wcf hE rfl (wp_skip (qe (K6 (ww1 fun _ K10=>qz hM (by kernel_rfl) (fun _ => True) (fun _ => True) (.re [(0,true),(1,true),(7,true),(2,true),(3,true),(4,true),(5,false),(6,true),(8,true),(9,false)] (.fl 3 (.weak (.fl 3 (.or 5 (.re [(6,true),(8,true),(9,false)] (.fl 2 (.fl 0 (.cut (.or 9 (.cut (.re [] (.weak (.leaf 0)))) (.stop)))))) (.stop)))))) [(0,true),(1,true),(7,true),(2,true),(3,true),(4,true),(5,false),(6,true),(8,true),(9,false)] [(2,[(6,2),(8,2),(9,2)]),(3,[(5,3),(6,5),(8,3),(9,3)]),(4,[(5,4),(6,5),(8,4),(9,4)]),(5,[(6,5),(8,5),(9,5)]),(6,[(8,6),(9,6)]),(7,[(8,7),(9,8)]),(8,[(9,8)]),(9,[])] (by kernel_rfl) ?_))))))
     intro w11 hM' hww11;replace hM := hM'
     refine o_re (o_fl rfl (sm hE rfl fun a hE=>sm hE rfl fun a hE=>sf hE rfl fo62_2 fun a hE=>qa (qh (vb (fun _ => False) (fun _ _ => trivial) (o_fl rfl (ql hE rfl (hM.get 2 rfl) row57 rfl (by intro X h;cases h;simp) rfl fun a hE=>?_))))))
     refine ql hE rfl (hM.get 0 rfl) row23 rfl (by intro X h;cases h;simp) rfl fun a hE=>?_
     refine ql hE rfl (hM.get 3 rfl) row23 rfl (by intro X h;cases h;simp) rfl fun a hE=>?_
     refine qa (qh ?_)
     refine o_or rfl ?_ ?_
     ·refine qn hE rfl Tryd.call14 (wrap_c (kK p b z) [115,108,111,116] 0 x _ (hM.get 5 rfl) (hM.get 6 rfl) (vg p b z) hl_x (by have hl_0 : (kK p b z).length = 32 := (vg p b z);have hl_1 : [115,108,111,116].length = 4 := (by first | (simp;done) | (simp [*];done) | (simp;omega));have hl_3 : x.length = 32 := hl_x;first | omega | assumption | (simp;done) | (simp;omega) | decide) (by have hl_0 : (kK p b z).length = 32 := (vg p b z);have hl_1 : [115,108,111,116].length = 4 := (by first | (simp;done) | (simp [*];done) | (simp;omega));have hl_3 : x.length = 32 := hl_x;first | omega | assumption | (simp;done) | (simp;omega) | decide)) rfl ?_
      rintro e w12 ⟨rfl,hN⟩
      refine ⟨_,rfl,hN.sta0 _,fun a hE=>?_⟩
      replace hM : Mem _ _ w12 [_,_,_,_,_,_,_] := hM.call0 hN trivial;clear hN
      refine qa (qh (o_re (o_fl rfl ?_)))
      have hbd51_2_0 : b.length = 16 := hl_b
      have hbd51_3_0 : (wrapD (kK p b z) [115,108,111,116] 0 x).length = 32 := (wrapD_len (k := (kK p b z)) (l := [115,108,111,116]) (n := 0) (x := x) (by have hl_ax : x.length = 32 := hl_x;first | assumption | (simp;done)))
      have hbd51_3_1 : (tagB (kK p b z) [115,108,111,116] 0 (wrapD (kK p b z) [115,108,111,116] 0 x)).length = 32 := (tagB_len (kK p b z) [115,108,111,116] 0 (wrapD (kK p b z) [115,108,111,116] 0 x))
      refine vf [[.bool true],[.int .i64 z],bv b,([bv (wrapD (kK p b z) [115,108,111,116] 0 x),bv (tagB (kK p b z) [115,108,111,116] 0 (wrapD (kK p b z) [115,108,111,116] 0 x))] : List (List Value)).flatten] hE rfl zero59 (by kernel_rfl) fpl59 (by first | (simp [PartsOk,Value.cells,hbd51_2_0,hbd51_3_0,hbd51_3_1];done) | (simp [PartsOk,Value.cells,hbd51_2_0,hbd51_3_0,hbd51_3_1];omega)) rfl fun a hE=>?_
      replace hE := hE.cast 51 rfl (show _ = Value.agg ([[.bool true],[.int .i64 z],bv b,bv (wrapD (kK p b z) [115,108,111,116] 0 x),bv (tagB (kK p b z) [115,108,111,116] 0 (wrapD (kK p b z) [115,108,111,116] 0 x))] : List (List Value)).flatten.toArray from (by first | rfl | simp [setAll] | (simp only [setAll,List.set_cons_zero,List.set_cons_succ,List.flatten_cons,List.flatten_nil,List.append_nil,List.append_assoc,List.replicate_succ,List.replicate_zero])))
      refine qp (j := 2) hE rfl rfl arr60 rfl (by decide) rfl fun a hE=>?_
      refine qa (qh (o_fl rfl (qa (qh (o_cut (fun b => b = b5) ?_)))))
      refine o_or rfl ?_ ?_
      ·have hsl518_2 : b.length = 16 := hl_b
       have hsl518_3 : (wrapD (kK p b z) [115,108,111,116] 0 x).length = 32 := (wrapD_len (k := (kK p b z)) (l := [115,108,111,116]) (n := 0) (x := x) (by have hl_ax : x.length = 32 := hl_x;first | assumption | (simp;done)))
       have hsl518_4 : (tagB (kK p b z) [115,108,111,116] 0 (wrapD (kK p b z) [115,108,111,116] 0 x)).length = 32 := (tagB_len (kK p b z) [115,108,111,116] 0 (wrapD (kK p b z) [115,108,111,116] 0 x))
       replace hM : Mem _ _ w12 [_,_,_,_,_,_,_] := hM.pick [4,0,1,2,3,5,6] rfl
       refine qq 20 5 (vss := [[.bool true],[.int .i64 z],bv b,bv (wrapD (kK p b z) [115,108,111,116] 0 x),bv (tagB (kK p b z) [115,108,111,116] 0 (wrapD (kK p b z) [115,108,111,116] 0 x))]) hE rfl rfl hM rfl sz59 (by simp only [List.take_succ_cons,List.take_zero,List.drop_zero,List.drop_succ_cons];simp only [List.map_cons,List.map_nil,vh,List.length_cons,List.length_nil,List.length_replicate,hsl518_2,hsl518_3,hsl518_4]) (by decide) rfl (one_fl ⟨one1 rfl,one1 rfl,vc _,vc _,vc _,trivial⟩) rfl (by intro X h;cases h;rfl) fun w13 hM=>?_
       try simp only [List.take_zero,List.take_succ_cons,List.drop_zero,List.drop_succ_cons,List.take_nil,List.drop_nil,List.nil_append,List.append_nil,List.cons_append] at hM
       refine qa (qh (o_cut (fun _ => True) (o_re (vb (fun _ => False) (fun _ _ => trivial) (va rfl rfl (qa (q_ph (qa (K10 (ww1 fun _ K11=>wpp (ql hE rfl (hM.get 0 rfl) row62 rfl (by intro X h;cases h) rfl fun a hE=>?_)))))))))))
       replace hE := hE.cast 54 rfl (show _ = Value.agg ([[.int .i64 h.m],[.int .i64 h.r],[.bool h.v0.1],[.int .u64 ((h.v0.2.1 : Nat) : Int)],bv h.v0.2.2.1,bv h.v0.2.2.2,[.bool h.v1.1],[.int .u64 ((h.v1.2.1 : Nat) : Int)],bv h.v1.2.2.1,bv h.v1.2.2.2,[.bool h.s0.1],[.int .i64 h.s0.2.1],bv h.s0.2.2.1,bv h.s0.2.2.2.1,bv h.s0.2.2.2.2,[.bool h.s1.1],[.int .i64 h.s1.2.1],bv h.s1.2.2.1,bv h.s1.2.2.2.1,bv h.s1.2.2.2.2,[.bool true],[.int .i64 z],bv b,bv (wrapD (kK p b z) [115,108,111,116] 0 x),bv (tagB (kK p b z) [115,108,111,116] 0 (wrapD (kK p b z) [115,108,111,116] 0 x)),[.bool h.s3.1],[.int .i64 h.s3.2.1],bv h.s3.2.2.1,bv h.s3.2.2.2.1,bv h.s3.2.2.2.2] : List (List Value)).flatten.toArray from (by first | (simp only [List.flatten_cons,List.flatten_nil,List.append_nil,List.append_assoc];done) | rfl))
       refine sm hE rfl fun a hE=>?_
       have hsl537_4 : h.v0.2.2.1.length = 32 := hk_h.v0.2.1
       have hsl537_5 : h.v0.2.2.2.length = 32 := hk_h.v0.2.2
       have hsl537_8 : h.v1.2.2.1.length = 32 := hk_h.v1.2.1
       have hsl537_9 : h.v1.2.2.2.length = 32 := hk_h.v1.2.2
       have hsl537_12 : h.s0.2.2.1.length = 16 := hk_h.s0.2.1
       have hsl537_13 : h.s0.2.2.2.1.length = 32 := hk_h.s0.2.2.1
       have hsl537_14 : h.s0.2.2.2.2.length = 32 := hk_h.s0.2.2.2
       have hsl537_17 : h.s1.2.2.1.length = 16 := hk_h.s1.2.1
       have hsl537_18 : h.s1.2.2.2.1.length = 32 := hk_h.s1.2.2.1
       have hsl537_19 : h.s1.2.2.2.2.length = 32 := hk_h.s1.2.2.2
       have hsl537_22 : b.length = 16 := hl_b
       have hsl537_23 : (wrapD (kK p b z) [115,108,111,116] 0 x).length = 32 := (wrapD_len (k := (kK p b z)) (l := [115,108,111,116]) (n := 0) (x := x) (by have hl_ax : x.length = 32 := hl_x;first | assumption | (simp;done)))
       have hsl537_24 : (tagB (kK p b z) [115,108,111,116] 0 (wrapD (kK p b z) [115,108,111,116] 0 x)).length = 32 := (tagB_len (kK p b z) [115,108,111,116] 0 (wrapD (kK p b z) [115,108,111,116] 0 x))
       have hsl537_27 : h.s3.2.2.1.length = 16 := hk_h.s3.2.1
       have hsl537_28 : h.s3.2.2.2.1.length = 32 := hk_h.s3.2.2.1
       have hsl537_29 : h.s3.2.2.2.2.length = 32 := hk_h.s3.2.2.2
       replace hM : Mem _ _ w13 [_,_,_,_,_,_,_] := hM.pick [2,0,1,3,4,5,6] rfl
       refine qq 0 30 (vss := [[.int .i64 h.m],[.int .i64 h.r],[.bool h.v0.1],[.int .u64 ((h.v0.2.1 : Nat) : Int)],bv h.v0.2.2.1,bv h.v0.2.2.2,[.bool h.v1.1],[.int .u64 ((h.v1.2.1 : Nat) : Int)],bv h.v1.2.2.1,bv h.v1.2.2.2,[.bool h.s0.1],[.int .i64 h.s0.2.1],bv h.s0.2.2.1,bv h.s0.2.2.2.1,bv h.s0.2.2.2.2,[.bool h.s1.1],[.int .i64 h.s1.2.1],bv h.s1.2.2.1,bv h.s1.2.2.2.1,bv h.s1.2.2.2.2,[.bool true],[.int .i64 z],bv b,bv (wrapD (kK p b z) [115,108,111,116] 0 x),bv (tagB (kK p b z) [115,108,111,116] 0 (wrapD (kK p b z) [115,108,111,116] 0 x)),[.bool h.s3.1],[.int .i64 h.s3.2.1],bv h.s3.2.2.1,bv h.s3.2.2.2.1,bv h.s3.2.2.2.2]) hE rfl rfl hM rfl sz62 (by simp only [List.take_succ_cons,List.take_zero,List.drop_zero,List.drop_succ_cons];simp only [List.map_cons,List.map_nil,vh,List.length_cons,List.length_nil,List.length_replicate,hsl537_4,hsl537_5,hsl537_8,hsl537_9,hsl537_12,hsl537_13,hsl537_14,hsl537_17,hsl537_18,hsl537_19,hsl537_22,hsl537_23,hsl537_24,hsl537_27,hsl537_28,hsl537_29]) (by decide) rfl (one_fl ⟨one1 rfl,one1 rfl,one1 rfl,one1 rfl,vc _,vc _,one1 rfl,one1 rfl,vc _,vc _,one1 rfl,one1 rfl,vc _,vc _,vc _,one1 rfl,one1 rfl,vc _,vc _,vc _,one1 rfl,one1 rfl,vc _,vc _,vc _,one1 rfl,one1 rfl,vc _,vc _,vc _,trivial⟩) rfl (by intro X h;cases h) fun w14 hM=>?_
       try simp only [List.take_zero,List.take_succ_cons,List.drop_zero,List.drop_succ_cons,List.take_nil,List.drop_nil,List.nil_append,List.append_nil,List.cons_append] at hM
       exact sas hE rfl fun a hE=>sas hE rfl fun a hE=>qa (K11 (wp_ret (qk hE rfl (res_cellN rfl (hM.get 0 rfl) row62 rfl) rfl rfl ⟨(by rw [e1];(try rw [hk2]);simp only [setS,newS,zH,zV,zS,slotT,List.flatten_cons,List.flatten_nil,List.append_nil,List.append_assoc,List.cons_append,List.nil_append];try rfl),hM.pick [] rfl⟩)))
      trivial
     trivial
    ·replace hE := hE.cast 15 rfl (show _ = Value.int .i64 3 from congrArg (Value.int .i64) hfr)
     replace hE := hE.cast 42 rfl (show _ = Value.int .i64 3 from congrArg (Value.int .i64) hfr)
     have e1 : addS h x p b z = (setS h 3 (newS p b z x),3,0) := by simp [addS,hb19,hb30,hb35,hfr]
     refine sb hE rfl rfl bin_lss fun a hE=>?_
     replace hE := hE.cast 43 rfl (show _ = Value.bool false from (congrArg Value.bool (by decide)))
     refine sas hE rfl fun a hE=>qa (K9 (wcf hE rfl (wp_skip (qe (K6 (ww1 fun _ K10=>qz hM (by kernel_rfl) (fun _ => True) (fun _ => True) (.re [(0,true),(1,true),(7,true),(2,true),(3,true),(4,true),(5,false),(6,true),(8,true),(9,false)] (.fl 3 (.weak (.fl 3 (.or 5 (.re [(6,true),(8,true),(9,false)] (.fl 2 (.fl 0 (.cut (.or 9 (.cut (.re [] (.weak (.leaf 0)))) (.stop)))))) (.stop)))))) [(0,true),(1,true),(7,true),(2,true),(3,true),(4,true),(5,false),(6,true),(8,true),(9,false)] [(2,[(6,2),(8,2),(9,2)]),(3,[(5,3),(6,5),(8,3),(9,3)]),(4,[(5,4),(6,5),(8,4),(9,4)]),(5,[(6,5),(8,5),(9,5)]),(6,[(8,6),(9,6)]),(7,[(8,7),(9,8)]),(8,[(9,8)]),(9,[])] (by kernel_rfl) ?_))))))
     intro w11 hM' hww11;replace hM := hM'
     refine o_re (o_fl rfl (sm hE rfl fun a hE=>sm hE rfl fun a hE=>sf hE rfl fo62_2 fun a hE=>qa (qh (vb (fun _ => False) (fun _ _ => trivial) (o_fl rfl (ql hE rfl (hM.get 2 rfl) row57 rfl (by intro X h;cases h;simp) rfl fun a hE=>?_))))))
     refine ql hE rfl (hM.get 0 rfl) row23 rfl (by intro X h;cases h;simp) rfl fun a hE=>?_
     refine ql hE rfl (hM.get 3 rfl) row23 rfl (by intro X h;cases h;simp) rfl fun a hE=>?_
     refine qa (qh ?_)
     refine o_or rfl ?_ ?_
     ·refine qn hE rfl Tryd.call14 (wrap_c (kK p b z) [115,108,111,116] 0 x _ (hM.get 5 rfl) (hM.get 6 rfl) (vg p b z) hl_x (by have hl_0 : (kK p b z).length = 32 := (vg p b z);have hl_1 : [115,108,111,116].length = 4 := (by first | (simp;done) | (simp [*];done) | (simp;omega));have hl_3 : x.length = 32 := hl_x;first | omega | assumption | (simp;done) | (simp;omega) | decide) (by have hl_0 : (kK p b z).length = 32 := (vg p b z);have hl_1 : [115,108,111,116].length = 4 := (by first | (simp;done) | (simp [*];done) | (simp;omega));have hl_3 : x.length = 32 := hl_x;first | omega | assumption | (simp;done) | (simp;omega) | decide)) rfl ?_
      rintro e w12 ⟨rfl,hN⟩
      refine ⟨_,rfl,hN.sta0 _,fun a hE=>?_⟩
      replace hM : Mem _ _ w12 [_,_,_,_,_,_,_] := hM.call0 hN trivial;clear hN
      refine qa (qh (o_re (o_fl rfl ?_)))
      have hbd51_2_0 : b.length = 16 := hl_b
      have hbd51_3_0 : (wrapD (kK p b z) [115,108,111,116] 0 x).length = 32 := (wrapD_len (k := (kK p b z)) (l := [115,108,111,116]) (n := 0) (x := x) (by have hl_ax : x.length = 32 := hl_x;first | assumption | (simp;done)))
      have hbd51_3_1 : (tagB (kK p b z) [115,108,111,116] 0 (wrapD (kK p b z) [115,108,111,116] 0 x)).length = 32 := (tagB_len (kK p b z) [115,108,111,116] 0 (wrapD (kK p b z) [115,108,111,116] 0 x))
      refine vf [[.bool true],[.int .i64 z],bv b,([bv (wrapD (kK p b z) [115,108,111,116] 0 x),bv (tagB (kK p b z) [115,108,111,116] 0 (wrapD (kK p b z) [115,108,111,116] 0 x))] : List (List Value)).flatten] hE rfl zero59 (by kernel_rfl) fpl59 (by first | (simp [PartsOk,Value.cells,hbd51_2_0,hbd51_3_0,hbd51_3_1];done) | (simp [PartsOk,Value.cells,hbd51_2_0,hbd51_3_0,hbd51_3_1];omega)) rfl fun a hE=>?_
      replace hE := hE.cast 51 rfl (show _ = Value.agg ([[.bool true],[.int .i64 z],bv b,bv (wrapD (kK p b z) [115,108,111,116] 0 x),bv (tagB (kK p b z) [115,108,111,116] 0 (wrapD (kK p b z) [115,108,111,116] 0 x))] : List (List Value)).flatten.toArray from (by first | rfl | simp [setAll] | (simp only [setAll,List.set_cons_zero,List.set_cons_succ,List.flatten_cons,List.flatten_nil,List.append_nil,List.append_assoc,List.replicate_succ,List.replicate_zero])))
      refine qp (j := 3) hE rfl rfl arr60 rfl (by decide) rfl fun a hE=>?_
      refine qa (qh (o_fl rfl (qa (qh (o_cut (fun b => b = b5) ?_)))))
      refine o_or rfl ?_ ?_
      ·have hsl613_2 : b.length = 16 := hl_b
       have hsl613_3 : (wrapD (kK p b z) [115,108,111,116] 0 x).length = 32 := (wrapD_len (k := (kK p b z)) (l := [115,108,111,116]) (n := 0) (x := x) (by have hl_ax : x.length = 32 := hl_x;first | assumption | (simp;done)))
       have hsl613_4 : (tagB (kK p b z) [115,108,111,116] 0 (wrapD (kK p b z) [115,108,111,116] 0 x)).length = 32 := (tagB_len (kK p b z) [115,108,111,116] 0 (wrapD (kK p b z) [115,108,111,116] 0 x))
       replace hM : Mem _ _ w12 [_,_,_,_,_,_,_] := hM.pick [4,0,1,2,3,5,6] rfl
       refine qq 25 5 (vss := [[.bool true],[.int .i64 z],bv b,bv (wrapD (kK p b z) [115,108,111,116] 0 x),bv (tagB (kK p b z) [115,108,111,116] 0 (wrapD (kK p b z) [115,108,111,116] 0 x))]) hE rfl rfl hM rfl sz59 (by simp only [List.take_succ_cons,List.take_zero,List.drop_zero,List.drop_succ_cons];simp only [List.map_cons,List.map_nil,vh,List.length_cons,List.length_nil,List.length_replicate,hsl613_2,hsl613_3,hsl613_4]) (by decide) rfl (one_fl ⟨one1 rfl,one1 rfl,vc _,vc _,vc _,trivial⟩) rfl (by intro X h;cases h;rfl) fun w13 hM=>?_
       try simp only [List.take_zero,List.take_succ_cons,List.drop_zero,List.drop_succ_cons,List.take_nil,List.drop_nil,List.nil_append,List.append_nil,List.cons_append] at hM
       refine qa (qh (o_cut (fun _ => True) (o_re (vb (fun _ => False) (fun _ _ => trivial) (va rfl rfl (qa (q_ph (qa (K10 (ww1 fun _ K11=>wpp (ql hE rfl (hM.get 0 rfl) row62 rfl (by intro X h;cases h) rfl fun a hE=>?_)))))))))))
       replace hE := hE.cast 54 rfl (show _ = Value.agg ([[.int .i64 h.m],[.int .i64 h.r],[.bool h.v0.1],[.int .u64 ((h.v0.2.1 : Nat) : Int)],bv h.v0.2.2.1,bv h.v0.2.2.2,[.bool h.v1.1],[.int .u64 ((h.v1.2.1 : Nat) : Int)],bv h.v1.2.2.1,bv h.v1.2.2.2,[.bool h.s0.1],[.int .i64 h.s0.2.1],bv h.s0.2.2.1,bv h.s0.2.2.2.1,bv h.s0.2.2.2.2,[.bool h.s1.1],[.int .i64 h.s1.2.1],bv h.s1.2.2.1,bv h.s1.2.2.2.1,bv h.s1.2.2.2.2,[.bool h.s2.1],[.int .i64 h.s2.2.1],bv h.s2.2.2.1,bv h.s2.2.2.2.1,bv h.s2.2.2.2.2,[.bool true],[.int .i64 z],bv b,bv (wrapD (kK p b z) [115,108,111,116] 0 x),bv (tagB (kK p b z) [115,108,111,116] 0 (wrapD (kK p b z) [115,108,111,116] 0 x))] : List (List Value)).flatten.toArray from (by first | (simp only [List.flatten_cons,List.flatten_nil,List.append_nil,List.append_assoc];done) | rfl))
       refine sm hE rfl fun a hE=>?_
       have hsl632_4 : h.v0.2.2.1.length = 32 := hk_h.v0.2.1
       have hsl632_5 : h.v0.2.2.2.length = 32 := hk_h.v0.2.2
       have hsl632_8 : h.v1.2.2.1.length = 32 := hk_h.v1.2.1
       have hsl632_9 : h.v1.2.2.2.length = 32 := hk_h.v1.2.2
       have hsl632_12 : h.s0.2.2.1.length = 16 := hk_h.s0.2.1
       have hsl632_13 : h.s0.2.2.2.1.length = 32 := hk_h.s0.2.2.1
       have hsl632_14 : h.s0.2.2.2.2.length = 32 := hk_h.s0.2.2.2
       have hsl632_17 : h.s1.2.2.1.length = 16 := hk_h.s1.2.1
       have hsl632_18 : h.s1.2.2.2.1.length = 32 := hk_h.s1.2.2.1
       have hsl632_19 : h.s1.2.2.2.2.length = 32 := hk_h.s1.2.2.2
       have hsl632_22 : h.s2.2.2.1.length = 16 := hk_h.s2.2.1
       have hsl632_23 : h.s2.2.2.2.1.length = 32 := hk_h.s2.2.2.1
       have hsl632_24 : h.s2.2.2.2.2.length = 32 := hk_h.s2.2.2.2
       have hsl632_27 : b.length = 16 := hl_b
       have hsl632_28 : (wrapD (kK p b z) [115,108,111,116] 0 x).length = 32 := (wrapD_len (k := (kK p b z)) (l := [115,108,111,116]) (n := 0) (x := x) (by have hl_ax : x.length = 32 := hl_x;first | assumption | (simp;done)))
       have hsl632_29 : (tagB (kK p b z) [115,108,111,116] 0 (wrapD (kK p b z) [115,108,111,116] 0 x)).length = 32 := (tagB_len (kK p b z) [115,108,111,116] 0 (wrapD (kK p b z) [115,108,111,116] 0 x))
       replace hM : Mem _ _ w13 [_,_,_,_,_,_,_] := hM.pick [2,0,1,3,4,5,6] rfl
       refine qq 0 30 (vss := [[.int .i64 h.m],[.int .i64 h.r],[.bool h.v0.1],[.int .u64 ((h.v0.2.1 : Nat) : Int)],bv h.v0.2.2.1,bv h.v0.2.2.2,[.bool h.v1.1],[.int .u64 ((h.v1.2.1 : Nat) : Int)],bv h.v1.2.2.1,bv h.v1.2.2.2,[.bool h.s0.1],[.int .i64 h.s0.2.1],bv h.s0.2.2.1,bv h.s0.2.2.2.1,bv h.s0.2.2.2.2,[.bool h.s1.1],[.int .i64 h.s1.2.1],bv h.s1.2.2.1,bv h.s1.2.2.2.1,bv h.s1.2.2.2.2,[.bool h.s2.1],[.int .i64 h.s2.2.1],bv h.s2.2.2.1,bv h.s2.2.2.2.1,bv h.s2.2.2.2.2,[.bool true],[.int .i64 z],bv b,bv (wrapD (kK p b z) [115,108,111,116] 0 x),bv (tagB (kK p b z) [115,108,111,116] 0 (wrapD (kK p b z) [115,108,111,116] 0 x))]) hE rfl rfl hM rfl sz62 (by simp only [List.take_succ_cons,List.take_zero,List.drop_zero,List.drop_succ_cons];simp only [List.map_cons,List.map_nil,vh,List.length_cons,List.length_nil,List.length_replicate,hsl632_4,hsl632_5,hsl632_8,hsl632_9,hsl632_12,hsl632_13,hsl632_14,hsl632_17,hsl632_18,hsl632_19,hsl632_22,hsl632_23,hsl632_24,hsl632_27,hsl632_28,hsl632_29]) (by decide) rfl (one_fl ⟨one1 rfl,one1 rfl,one1 rfl,one1 rfl,vc _,vc _,one1 rfl,one1 rfl,vc _,vc _,one1 rfl,one1 rfl,vc _,vc _,vc _,one1 rfl,one1 rfl,vc _,vc _,vc _,one1 rfl,one1 rfl,vc _,vc _,vc _,one1 rfl,one1 rfl,vc _,vc _,vc _,trivial⟩) rfl (by intro X h;cases h) fun w14 hM=>?_
       try simp only [List.take_zero,List.take_succ_cons,List.drop_zero,List.drop_succ_cons,List.take_nil,List.drop_nil,List.nil_append,List.append_nil,List.cons_append] at hM
       exact sas hE rfl fun a hE=>sas hE rfl fun a hE=>qa (K11 (wp_ret (qk hE rfl (res_cellN rfl (hM.get 0 rfl) row62 rfl) rfl rfl ⟨(by rw [e1];(try rw [hk2]);simp only [setS,newS,zH,zV,zS,slotT,List.flatten_cons,List.flatten_nil,List.append_nil,List.append_assoc,List.cons_append,List.nil_append];try rfl),hM.pick [] rfl⟩)))
      trivial
     trivial
end Go.Proofs.YtniekapfoaiieaaDoor
