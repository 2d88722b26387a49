/- Walks of functions of the given program that the claim reaches. -/
import Derived.Test.YtniekapfoaiieaaGreatDoorLk
set_option linter.unusedSimpArgs false
set_option linter.unusedVariables false
namespace Go.Proofs.YtniekapfoaiieaaGreatDoor
open Go Go.Kx
theorem slt71 : slT Tryz.prog 71 = some 1 := by kernel_rfl
theorem eqa34 : ∀ {a b : List UInt8},a.length = 16 → b.length = 16 → Bin Tryz.prog .eql 34 (.agg (bv a).toArray) (.agg (bv b).toArray) (.bool (decide (a = b))) ∧ Bin Tryz.prog .neq 34 (.agg (bv a).toArray) (.agg (bv b).toArray) (.bool (!decide (a = b))) := fun ha hb => bins_arr8 Tryz.underlying34 (by kernel_rfl) Tryz.underlying5 (by kernel_rfl) (by kernel_rfl) ha hb
theorem zeroL39 : Zero Tryz.prog 39 [[.int .i64 0],[.int .i64 0],[.bool false],[.int .u64 0],bv (List.replicate 32 0),bv (List.replicate 32 0),[.bool false],[.int .u64 0],bv (List.replicate 32 0),bv (List.replicate 32 0),[.bool false],[.int .i64 0],bv (List.replicate 16 0),bv (List.replicate 32 0),bv (List.replicate 32 0),[.bool false],[.int .i64 0],bv (List.replicate 16 0),bv (List.replicate 32 0),bv (List.replicate 32 0),[.bool false],[.int .i64 0],bv (List.replicate 16 0),bv (List.replicate 32 0),bv (List.replicate 32 0),[.bool false],[.int .i64 0],bv (List.replicate 16 0),bv (List.replicate 32 0),bv (List.replicate 32 0)] := ⟨.agg ([[.int .i64 0],[.int .i64 0],[.bool false],[.int .u64 0],bv (List.replicate 32 0),bv (List.replicate 32 0),[.bool false],[.int .u64 0],bv (List.replicate 32 0),bv (List.replicate 32 0),[.bool false],[.int .i64 0],bv (List.replicate 16 0),bv (List.replicate 32 0),bv (List.replicate 32 0),[.bool false],[.int .i64 0],bv (List.replicate 16 0),bv (List.replicate 32 0),bv (List.replicate 32 0),[.bool false],[.int .i64 0],bv (List.replicate 16 0),bv (List.replicate 32 0),bv (List.replicate 32 0),[.bool false],[.int .i64 0],bv (List.replicate 16 0),bv (List.replicate 32 0),bv (List.replicate 32 0)] : List (List Value)).flatten.toArray,by kernel_rfl,by kernel_rfl⟩
theorem zero39 : Zero Tryz.prog 39 [([.int .i64 0]) ++ ([.int .i64 0]),(List.replicate 2 (([.bool false]) ++ ([.int .u64 0]) ++ ((bv (List.replicate 32 0)) ++ (bv (List.replicate 32 0))))).flatten,(List.replicate 4 (([.bool false]) ++ ([.int .i64 0]) ++ (bv (List.replicate 16 0)) ++ ((bv (List.replicate 32 0)) ++ (bv (List.replicate 32 0))))).flatten] := ⟨.agg ([([.int .i64 0]) ++ ([.int .i64 0]),(List.replicate 2 (([.bool false]) ++ ([.int .u64 0]) ++ ((bv (List.replicate 32 0)) ++ (bv (List.replicate 32 0))))).flatten,(List.replicate 4 (([.bool false]) ++ ([.int .i64 0]) ++ (bv (List.replicate 16 0)) ++ ((bv (List.replicate 32 0)) ++ (bv (List.replicate 32 0))))).flatten] : List (List Value)).flatten.toArray,by kernel_rfl,by kernel_rfl⟩
theorem fpl39 : fldPl Tryz.prog 39 = some (plc 0 [2,132,328]) := by kernel_rfl
theorem sz39 : (Tryz.prog.info? 39).map (·.size) = some 462 := by kernel_rfl
set_option maxHeartbeats 2000000 in
theorem there_c (h : Hd) (p : List UInt8) (b : List UInt8) (w : World) (hG : (glb 1).holds w) (hT : tabP.holds w) (hk_h : OkHd h) (hl_b : b.length = 16) : Calls Tryz.prog 14 #[.agg ([[.int .i64 h.m],[.int .i64 h.r],[.bool h.v0.1],[.int .u64 ((h.v0.2.1 : Nat) : Int)],bv h.v0.2.2.1,bv h.v0.2.2.2,[.bool h.v1.1],[.int .u64 ((h.v1.2.1 : Nat) : Int)],bv h.v1.2.2.1,bv h.v1.2.2.2,[.bool h.s0.1],[.int .i64 h.s0.2.1],bv h.s0.2.2.1,bv h.s0.2.2.2.1,bv h.s0.2.2.2.2,[.bool h.s1.1],[.int .i64 h.s1.2.1],bv h.s1.2.2.1,bv h.s1.2.2.2.1,bv h.s1.2.2.2.2,[.bool h.s2.1],[.int .i64 h.s2.2.1],bv h.s2.2.2.1,bv h.s2.2.2.2.1,bv h.s2.2.2.2.2,[.bool h.s3.1],[.int .i64 h.s3.2.1],bv h.s3.2.2.1,bv h.s3.2.2.2.1,bv h.s3.2.2.2.2] : List (List Value)).flatten.toArray,.string (str p),.agg (bv b).toArray] w fun e w' => e = .returned (.bool (thereS h p b)) ∧ Mem w [] w' [] := by
 have hul := usedL_len (h := h)
 have hM : Mem w [] w [glb 1,tabP] := Mem.startR w (fun g hg => by
  simp only [List.mem_cons,List.not_mem_nil,or_false] at hg
  rcases hg with rfl | rfl
  ·exact ⟨hG,rfl⟩
  ·exact ⟨hT,rfl⟩)
 refine vf 36 Tryz.func14 rfl rfl rfl ?_
 intro a hE
 replace hE : Env a 36 [(0,_),(1,_),(2,_)] := hE
 refine ww1 fun _ K1=>wpp ?_
 have hbl3_4 : h.v0.2.2.1.length = 32 := hk_h.v0.2.1
 have hbl3_5 : h.v0.2.2.2.length = 32 := hk_h.v0.2.2
 have hbl3_8 : h.v1.2.2.1.length = 32 := hk_h.v1.2.1
 have hbl3_9 : h.v1.2.2.2.length = 32 := hk_h.v1.2.2
 have hbl3_12 : h.s0.2.2.1.length = 16 := hk_h.s0.2.1
 have hbl3_13 : h.s0.2.2.2.1.length = 32 := hk_h.s0.2.2.1
 have hbl3_14 : h.s0.2.2.2.2.length = 32 := hk_h.s0.2.2.2
 have hbl3_17 : h.s1.2.2.1.length = 16 := hk_h.s1.2.1
 have hbl3_18 : h.s1.2.2.2.1.length = 32 := hk_h.s1.2.2.1
 have hbl3_19 : h.s1.2.2.2.2.length = 32 := hk_h.s1.2.2.2
 have hbl3_22 : h.s2.2.2.1.length = 16 := hk_h.s2.2.1
 have hbl3_23 : h.s2.2.2.2.1.length = 32 := hk_h.s2.2.2.1
 have hbl3_24 : h.s2.2.2.2.2.length = 32 := hk_h.s2.2.2.2
 have hbl3_27 : h.s3.2.2.1.length = 16 := hk_h.s3.2.1
 have hbl3_28 : h.s3.2.2.2.1.length = 32 := hk_h.s3.2.2.1
 have hbl3_29 : h.s3.2.2.2.2.length = 32 := hk_h.s3.2.2.2
 refine s_box (ss := [[.int .i64 h.m],[.int .i64 h.r],[.bool h.v0.1],[.int .u64 ((h.v0.2.1 : Nat) : Int)],bv h.v0.2.2.1,bv h.v0.2.2.2,[.bool h.v1.1],[.int .u64 ((h.v1.2.1 : Nat) : Int)],bv h.v1.2.2.1,bv h.v1.2.2.2,[.bool h.s0.1],[.int .i64 h.s0.2.1],bv h.s0.2.2.1,bv h.s0.2.2.2.1,bv h.s0.2.2.2.2,[.bool h.s1.1],[.int .i64 h.s1.2.1],bv h.s1.2.2.1,bv h.s1.2.2.2.1,bv h.s1.2.2.2.2,[.bool h.s2.1],[.int .i64 h.s2.2.1],bv h.s2.2.2.1,bv h.s2.2.2.2.1,bv h.s2.2.2.2.2,[.bool h.s3.1],[.int .i64 h.s3.2.1],bv h.s3.2.2.1,bv h.s3.2.2.2.1,bv h.s3.2.2.2.2]) [1,1,1,1,32,32,1,1,32,32,1,1,16,32,32,1,1,16,32,32,1,1,16,32,32,1,1,16,32,32] hE hM rfl rfl (by simp only [List.map_cons,List.map_nil,vj,List.length_cons,List.length_nil,List.length_replicate,hbl3_4,hbl3_5,hbl3_8,hbl3_9,hbl3_12,hbl3_13,hbl3_14,hbl3_17,hbl3_18,hbl3_19,hbl3_22,hbl3_23,hbl3_24,hbl3_27,hbl3_28,hbl3_29]) rfl fun a b3 w1 hE hM=>?_
 refine s_box (ss := [bv b]) [16] hE hM rfl (by simp [Value.cells]) (by simp [*]) rfl fun a b5 w2 hE hM=>?_
 refine sas hE rfl fun a hE=>qa (K1 (ww1 fun _ K2=>ww1 fun _ K3=>wpp (ql hE rfl (hM.get 1 rfl) row39 rfl (by intro X h;cases h) rfl fun a hE=>?_)))
 replace hE := hE.cast 12 rfl (show _ = Value.agg ([[.int .i64 h.m],[.int .i64 h.r],[.bool h.v0.1],[.int .u64 ((h.v0.2.1 : Nat) : Int)],bv h.v0.2.2.1,bv h.v0.2.2.2,[.bool h.v1.1],[.int .u64 ((h.v1.2.1 : Nat) : Int)],bv h.v1.2.2.1,bv h.v1.2.2.2,[.bool h.s0.1],[.int .i64 h.s0.2.1],bv h.s0.2.2.1,bv h.s0.2.2.2.1,bv h.s0.2.2.2.2,[.bool h.s1.1],[.int .i64 h.s1.2.1],bv h.s1.2.2.1,bv h.s1.2.2.2.1,bv h.s1.2.2.2.2,[.bool h.s2.1],[.int .i64 h.s2.2.1],bv h.s2.2.2.1,bv h.s2.2.2.2.1,bv h.s2.2.2.2.2,[.bool h.s3.1],[.int .i64 h.s3.2.1],bv h.s3.2.2.1,bv h.s3.2.2.2.1,bv h.s3.2.2.2.2] : List (List Value)).flatten.toArray from (by first | rfl | simp only [List.flatten_cons,List.flatten_nil,List.append_nil,List.append_assoc]))
 refine qn hE rfl Tryz.call27 (used_c h _ hk_h) rfl ?_
 rintro e w3 ⟨v13_0,rfl,hN⟩
 refine ⟨_,rfl,trivial,fun a hE=>?_⟩
 replace hM : Mem _ _ w3 [_,_,_,_,_] := hM.call0 hN ⟨rfl,trivial⟩;clear hN
 refine s_len hE rfl Tryz.underlying71 (own_slice (hM.get 0 rfl)) rfl fun a hE=>sm hE rfl fun a hE=>qa (K3 (wp_block (c_loop (fun (i : Nat) a w' => i ≤ (usedL h).length ∧ saltI h b i ∧ Env a 36 [(1,.string (str p)),(3,.pointer (some ⟨b3,0,none⟩)),(5,.pointer (some ⟨b5,0,none⟩)),(6,.bool false),(13,v13_0),(14,.int .i64 (((usedL h).length : Nat) : Int)),(15,.int .i64 ((i : Nat) : Int))] ∧ Mem w [] w' [own v13_0 1 ((usedL h).length) ((usedL h).flatMap intC),blk b5 [bv b] [16] 34,blk b3 [[.int .i64 h.m],[.int .i64 h.r],[.bool h.v0.1],[.int .u64 ((h.v0.2.1 : Nat) : Int)],bv h.v0.2.2.1,bv h.v0.2.2.2,[.bool h.v1.1],[.int .u64 ((h.v1.2.1 : Nat) : Int)],bv h.v1.2.2.1,bv h.v1.2.2.2,[.bool h.s0.1],[.int .i64 h.s0.2.1],bv h.s0.2.2.1,bv h.s0.2.2.2.1,bv h.s0.2.2.2.2,[.bool h.s1.1],[.int .i64 h.s1.2.1],bv h.s1.2.2.1,bv h.s1.2.2.2.1,bv h.s1.2.2.2.2,[.bool h.s2.1],[.int .i64 h.s2.2.1],bv h.s2.2.2.1,bv h.s2.2.2.2.1,bv h.s2.2.2.2.2,[.bool h.s3.1],[.int .i64 h.s3.2.1],bv h.s3.2.2.1,bv h.s3.2.2.2.1,bv h.s3.2.2.2.2] [1,1,1,1,32,32,1,1,32,32,1,1,16,32,32,1,1,16,32,32,1,1,16,32,32,1,1,16,32,32] 39,glb 1,tabP]) (fun i => (usedL h).length - i) 0 ⟨Nat.zero_le _,saltI_zero,hE.sel [1,3,5,6,13,14,15] rfl,hM⟩ ?_)))
 rintro i a w4 ⟨hi,hpre,hE,hM⟩
 refine ww1 fun _ K4=>wpp (sb hE rfl rfl bin_lss fun a hE=>qa (K4 (ww1 fun _ K5=>?_)))
 refine hE.split 16 rfl (fun hb16 hE=>?_) (fun hb16 hE=>?_)
 ·replace hb16 := of_decide_eq_true hb16
  replace hb16 : i < ((usedL h).length) := by omega
  replace hb16 : i < (usedL h).length := by omega
  refine wct hE rfl (wp_skip (K5 (ww1 fun _ K6=>wp_block (ww1 fun _ K7=>wpp ?_))))
  obtain ⟨cx17,hx17⟩ := own_rd (hM.get 0 rfl)
  refine qu (j := i) hE rfl hx17 rfl slt71 (by first | rfl | omega) (by omega) rfl fun a p17 hE hc17 hp17=>?_
  have hlj17 : i < (usedL h).length := (by omega)
  have hok17 := usedL_lt _ (getD_mem (d := 0) hlj17)
  rw [flat_elem (d := 0) (fun x hx => (show (intC _).length = 1 from rfl)) hlj17] at hc17
  replace hc17 : (cellsAt _ [.int .i64 ((((usedL h).getD i 0) : Nat) : Int)]).holds _ := hc17
  refine qt hE rfl hc17 one3 (by intro X h;cases h) rfl fun a hE=>?_
  rcases usedL_four (h := h) (i := i) (by omega) with hcase | hcase | hcase | hcase
  ·replace hE := hE.cast 18 rfl (show _ = Value.int .i64 0 from congrArg (fun q : Nat => Value.int .i64 (q : Int)) hcase)
   refine sas hE rfl fun a hE=>qa (K7 (ww1 fun _ K8=>wp_drawnM hM (by kernel_rfl) (fun _ => False) [(0,true),(1,true),(2,true),(3,true),(4,true),(5,true),(6,true)] [] (by kernel_rfl) rfl ?_))
   intro w5 hM' hww5;replace hM := hM'
   refine sm hE rfl fun a hE=>sf hE rfl fo39_2 fun a hE=>qp (j := 0) hE rfl rfl arr37 rfl (by decide) rfl fun a hE=>?_
   refine sf hE rfl fo36_2 fun a hE=>ql hE rfl (hM.get 2 rfl) row34 rfl (by intro X h;cases h;simp) rfl fun a hE=>?_
   refine ql hE rfl (hM.get 1 rfl) row34 rfl (by intro X h;cases h;simp) rfl fun a hE=>?_
   refine s_bin hE rfl rfl (eqa34 hk_h.s0.2.1 hl_b).1 rfl fun a hE=>qa (K8 ?_)
   refine hE.split 25 rfl (fun hb25 hE=>?_) (fun hb25 hE=>?_)
   ·replace hb25 := of_decide_eq_true hb25
    have hth : thereS h p b = true := there_salt (i := i) (by omega) hcase hb25
    refine wct hE rfl (ww1 fun _ K9=>wpp (sas hE rfl fun a hE=>qa (K9 (wp_ret (qf (qb (qb ?_)))))))
    exact qf (qb (qi hE rfl rfl ⟨(by first | (simp [hth];done) | (simp [thereS,saltS_no hpre];done)),hM.pick [] rfl⟩))
   ·replace hb25 := of_decide_eq_false hb25
    have hst : saltI h b (i + 1) := saltI_succ hpre (by rw [hcase];exact hb25)
    refine wcf hE rfl (wp_skip (qe (K6 (wpp (sb hE rfl rfl (show Bin _ _ _ _ _ (.int .i64 ((i + 1 : Nat) : Int)) from bin_add (by rw [wrap_i64 (by omega) (by omega)];omega)) fun a hE=>?_)))))
    refine sm hE rfl fun a hE=>qa ?_
    replace hE := hE.cast 15 rfl (show _ = Value.int .i64 (((i + 1) : Nat) : Int) from (congrArg _ (by omega)))
    replace hM : Mem _ _ w5 [_,_,_,_,_] := hM.pick [0,1,2,3,4] rfl
    exact ⟨i + 1,⟨by omega,hst,hE.sel [1,3,5,6,13,14,15] rfl,hM⟩,by omega⟩
  ·replace hE := hE.cast 18 rfl (show _ = Value.int .i64 1 from congrArg (fun q : Nat => Value.int .i64 (q : Int)) hcase)
   refine sas hE rfl fun a hE=>qa (K7 (ww1 fun _ K8=>wp_drawnM hM (by kernel_rfl) (fun _ => False) [(0,true),(1,true),(2,true),(3,true),(4,true),(5,true),(6,true)] [] (by kernel_rfl) rfl ?_))
   intro w5 hM' hww5;replace hM := hM'
   refine sm hE rfl fun a hE=>sf hE rfl fo39_2 fun a hE=>qp (j := 1) hE rfl rfl arr37 rfl (by decide) rfl fun a hE=>?_
   refine sf hE rfl fo36_2 fun a hE=>ql hE rfl (hM.get 2 rfl) row34 rfl (by intro X h;cases h;simp) rfl fun a hE=>?_
   refine ql hE rfl (hM.get 1 rfl) row34 rfl (by intro X h;cases h;simp) rfl fun a hE=>?_
   refine s_bin hE rfl rfl (eqa34 hk_h.s1.2.1 hl_b).1 rfl fun a hE=>qa (K8 ?_)
   refine hE.split 25 rfl (fun hb25 hE=>?_) (fun hb25 hE=>?_)
   ·replace hb25 := of_decide_eq_true hb25
    have hth : thereS h p b = true := there_salt (i := i) (by omega) hcase hb25
    refine wct hE rfl (ww1 fun _ K9=>wpp (sas hE rfl fun a hE=>qa (K9 (wp_ret (qf (qb (qb ?_)))))))
    exact qf (qb (qi hE rfl rfl ⟨(by first | (simp [hth];done) | (simp [thereS,saltS_no hpre];done)),hM.pick [] rfl⟩))
   ·replace hb25 := of_decide_eq_false hb25
    have hst : saltI h b (i + 1) := saltI_succ hpre (by rw [hcase];exact hb25)
    refine wcf hE rfl (wp_skip (qe (K6 (wpp (sb hE rfl rfl (show Bin _ _ _ _ _ (.int .i64 ((i + 1 : Nat) : Int)) from bin_add (by rw [wrap_i64 (by omega) (by omega)];omega)) fun a hE=>?_)))))
    refine sm hE rfl fun a hE=>qa ?_
    replace hE := hE.cast 15 rfl (show _ = Value.int .i64 (((i + 1) : Nat) : Int) from (congrArg _ (by omega)))
    replace hM : Mem _ _ w5 [_,_,_,_,_] := hM.pick [0,1,2,3,4] rfl
    exact ⟨i + 1,⟨by omega,hst,hE.sel [1,3,5,6,13,14,15] rfl,hM⟩,by omega⟩
  ·replace hE := hE.cast 18 rfl (show _ = Value.int .i64 2 from congrArg (fun q : Nat => Value.int .i64 (q : Int)) hcase)
   refine sas hE rfl fun a hE=>qa (K7 (ww1 fun _ K8=>wp_drawnM hM (by kernel_rfl) (fun _ => False) [(0,true),(1,true),(2,true),(3,true),(4,true),(5,true),(6,true)] [] (by kernel_rfl) rfl ?_))
   intro w5 hM' hww5;replace hM := hM'
   refine sm hE rfl fun a hE=>sf hE rfl fo39_2 fun a hE=>qp (j := 2) hE rfl rfl arr37 rfl (by decide) rfl fun a hE=>?_
   refine sf hE rfl fo36_2 fun a hE=>ql hE rfl (hM.get 2 rfl) row34 rfl (by intro X h;cases h;simp) rfl fun a hE=>?_
   refine ql hE rfl (hM.get 1 rfl) row34 rfl (by intro X h;cases h;simp) rfl fun a hE=>?_
   refine s_bin hE rfl rfl (eqa34 hk_h.s2.2.1 hl_b).1 rfl fun a hE=>qa (K8 ?_)
   refine hE.split 25 rfl (fun hb25 hE=>?_) (fun hb25 hE=>?_)
   ·replace hb25 := of_decide_eq_true hb25
    have hth : thereS h p b = true := there_salt (i := i) (by omega) hcase hb25
    refine wct hE rfl (ww1 fun _ K9=>wpp (sas hE rfl fun a hE=>qa (K9 (wp_ret (qf (qb (qb ?_)))))))
    exact qf (qb (qi hE rfl rfl ⟨(by first | (simp [hth];done) | (simp [thereS,saltS_no hpre];done)),hM.pick [] rfl⟩))
   ·replace hb25 := of_decide_eq_false hb25
    have hst : saltI h b (i + 1) := saltI_succ hpre (by rw [hcase];exact hb25)
    refine wcf hE rfl (wp_skip (qe (K6 (wpp (sb hE rfl rfl (show Bin _ _ _ _ _ (.int .i64 ((i + 1 : Nat) : Int)) from bin_add (by rw [wrap_i64 (by omega) (by omega)];omega)) fun a hE=>?_)))))
    refine sm hE rfl fun a hE=>qa ?_
    replace hE := hE.cast 15 rfl (show _ = Value.int .i64 (((i + 1) : Nat) : Int) from (congrArg _ (by omega)))
    replace hM : Mem _ _ w5 [_,_,_,_,_] := hM.pick [0,1,2,3,4] rfl
    exact ⟨i + 1,⟨by omega,hst,hE.sel [1,3,5,6,13,14,15] rfl,hM⟩,by omega⟩
  ·replace hE := hE.cast 18 rfl (show _ = Value.int .i64 3 from congrArg (fun q : Nat => Value.int .i64 (q : Int)) hcase)
   refine sas hE rfl fun a hE=>qa (K7 (ww1 fun _ K8=>wp_drawnM hM (by kernel_rfl) (fun _ => False) [(0,true),(1,true),(2,true),(3,true),(4,true),(5,true),(6,true)] [] (by kernel_rfl) rfl ?_))
   intro w5 hM' hww5;replace hM := hM'
   refine sm hE rfl fun a hE=>sf hE rfl fo39_2 fun a hE=>qp (j := 3) hE rfl rfl arr37 rfl (by decide) rfl fun a hE=>?_
   refine sf hE rfl fo36_2 fun a hE=>ql hE rfl (hM.get 2 rfl) row34 rfl (by intro X h;cases h;simp) rfl fun a hE=>?_
   refine ql hE rfl (hM.get 1 rfl) row34 rfl (by intro X h;cases h;simp) rfl fun a hE=>?_
   refine s_bin hE rfl rfl (eqa34 hk_h.s3.2.1 hl_b).1 rfl fun a hE=>qa (K8 ?_)
   refine hE.split 25 rfl (fun hb25 hE=>?_) (fun hb25 hE=>?_)
   ·replace hb25 := of_decide_eq_true hb25
    have hth : thereS h p b = true := there_salt (i := i) (by omega) hcase hb25
    refine wct hE rfl (ww1 fun _ K9=>wpp (sas hE rfl fun a hE=>qa (K9 (wp_ret (qf (qb (qb ?_)))))))
    exact qf (qb (qi hE rfl rfl ⟨(by first | (simp [hth];done) | (simp [thereS,saltS_no hpre];done)),hM.pick [] rfl⟩))
   ·replace hb25 := of_decide_eq_false hb25
    have hst : saltI h b (i + 1) := saltI_succ hpre (by rw [hcase];exact hb25)
    refine wcf hE rfl (wp_skip (qe (K6 (wpp (sb hE rfl rfl (show Bin _ _ _ _ _ (.int .i64 ((i + 1 : Nat) : Int)) from bin_add (by rw [wrap_i64 (by omega) (by omega)];omega)) fun a hE=>?_)))))
    refine sm hE rfl fun a hE=>qa ?_
    replace hE := hE.cast 15 rfl (show _ = Value.int .i64 (((i + 1) : Nat) : Int) from (congrArg _ (by omega)))
    replace hM : Mem _ _ w5 [_,_,_,_,_] := hM.pick [0,1,2,3,4] rfl
    exact ⟨i + 1,⟨by omega,hst,hE.sel [1,3,5,6,13,14,15] rfl,hM⟩,by omega⟩
 ·replace hb16 := of_decide_eq_false hb16
  replace hb16 : ¬ (i < ((usedL h).length)) := by omega
  obtain rfl : (usedL h).length = i := by omega
  refine wcf hE rfl (wp_exit (qc (qc (qg (K2 (ww1 fun _ K6=>wpp (ql hE rfl (hM.get 2 rfl) row39 rfl (by intro X h;cases h) rfl fun a hE=>?_)))))))
  replace hE := hE.cast 28 rfl (show _ = Value.agg ([[.int .i64 h.m],[.int .i64 h.r],[.bool h.v0.1],[.int .u64 ((h.v0.2.1 : Nat) : Int)],bv h.v0.2.2.1,bv h.v0.2.2.2,[.bool h.v1.1],[.int .u64 ((h.v1.2.1 : Nat) : Int)],bv h.v1.2.2.1,bv h.v1.2.2.2,[.bool h.s0.1],[.int .i64 h.s0.2.1],bv h.s0.2.2.1,bv h.s0.2.2.2.1,bv h.s0.2.2.2.2,[.bool h.s1.1],[.int .i64 h.s1.2.1],bv h.s1.2.2.1,bv h.s1.2.2.2.1,bv h.s1.2.2.2.2,[.bool h.s2.1],[.int .i64 h.s2.2.1],bv h.s2.2.2.1,bv h.s2.2.2.2.1,bv h.s2.2.2.2.2,[.bool h.s3.1],[.int .i64 h.s3.2.1],bv h.s3.2.2.1,bv h.s3.2.2.2.1,bv h.s3.2.2.2.2] : List (List Value)).flatten.toArray from (by first | rfl | simp only [List.flatten_cons,List.flatten_nil,List.append_nil,List.append_assoc]))
  refine sm hE rfl fun a hE=>qn hE rfl Tryz.call23 (unlock_c h p _ (hM.get 3 rfl) (hM.get 4 rfl) hk_h) rfl ?_
  rintro e w5 ⟨rfl,hN⟩
  refine ⟨_,rfl,trivial,fun a hE=>?_⟩
  replace hM : Mem _ _ w5 [_,_,_,_,_] := hM.call0 hN trivial;clear hN
  refine sm hE rfl fun a hE=>sx hE rfl fun a hE=>sx hE rfl fun a hE=>sx hE rfl fun a hE=>qo [32] hE hM zero26 rfl rfl fun a b9 w6 hE hM=>qr 0 hE rfl rfl hM rfl sz26 ((vj _).trans (unl_len hk_h p)) (ve _) rfl ((vj _).trans (by first | (simp;done) | (simp [*];done) | (simp;omega))) rfl (by intro X h;cases h) fun w7 hM=>?_
  simp only [List.set_cons_zero,List.set_cons_succ] at hM
  refine sas hE rfl fun a hE=>sas hE rfl fun a hE=>qa (K6 (ww1 fun _ K7=>wpp (sm hE rfl fun a hE=>sb hE rfl rfl bin_eql fun a hE=>sas hE rfl fun a hE=>qa ?_)))
  exact K7 (wp_ret (qi hE rfl rfl ⟨(by first | (simp [hth];done) | (simp [thereS,saltS_no hpre];done)),hM.pick [] rfl⟩))
set_option maxRecDepth 20000 in
set_option maxHeartbeats 4000000 in
theorem add_c (h : Hd) (x : List UInt8) (p : List UInt8) (b : List UInt8) (z : Int) (w : World) (hG : (glb 1).holds w) (hT : tabP.holds w) (hk_h : OkHd h) (hl_x : x.length = 32) (hl_b : b.length = 16) (hz : In64 z) : Calls Tryz.prog 6 #[.agg ([[.int .i64 h.m],[.int .i64 h.r],[.bool h.v0.1],[.int .u64 ((h.v0.2.1 : Nat) : Int)],bv h.v0.2.2.1,bv h.v0.2.2.2,[.bool h.v1.1],[.int .u64 ((h.v1.2.1 : Nat) : Int)],bv h.v1.2.2.1,bv h.v1.2.2.2,[.bool h.s0.1],[.int .i64 h.s0.2.1],bv h.s0.2.2.1,bv h.s0.2.2.2.1,bv h.s0.2.2.2.2,[.bool h.s1.1],[.int .i64 h.s1.2.1],bv h.s1.2.2.1,bv h.s1.2.2.2.1,bv h.s1.2.2.2.2,[.bool h.s2.1],[.int .i64 h.s2.2.1],bv h.s2.2.2.1,bv h.s2.2.2.2.1,bv h.s2.2.2.2.2,[.bool h.s3.1],[.int .i64 h.s3.2.1],bv h.s3.2.2.1,bv h.s3.2.2.2.1,bv h.s3.2.2.2.2] : List (List Value)).flatten.toArray,.agg (bv x).toArray,.string (str p),.agg (bv b).toArray,.int .i64 z] w fun e w' => e = .returned (.tuple #[.agg ([[.int .i64 (((addS h x p b z).1).m)],[.int .i64 (((addS h x p b z).1).r)],[.bool (((addS h x p b z).1).v0.1)],[.int .u64 ((((addS h x p b z).1).v0.2.1 : Nat) : Int)],bv (((addS h x p b z).1).v0.2.2.1),bv (((addS h x p b z).1).v0.2.2.2),[.bool (((addS h x p b z).1).v1.1)],[.int .u64 ((((addS h x p b z).1).v1.2.1 : Nat) : Int)],bv (((addS h x p b z).1).v1.2.2.1),bv (((addS h x p b z).1).v1.2.2.2),[.bool (((addS h x p b z).1).s0.1)],[.int .i64 (((addS h x p b z).1).s0.2.1)],bv (((addS h x p b z).1).s0.2.2.1),bv (((addS h x p b z).1).s0.2.2.2.1),bv (((addS h x p b z).1).s0.2.2.2.2),[.bool (((addS h x p b z).1).s1.1)],[.int .i64 (((addS h x p b z).1).s1.2.1)],bv (((addS h x p b z).1).s1.2.2.1),bv (((addS h x p b z).1).s1.2.2.2.1),bv (((addS h x p b z).1).s1.2.2.2.2),[.bool (((addS h x p b z).1).s2.1)],[.int .i64 (((addS h x p b z).1).s2.2.1)],bv (((addS h x p b z).1).s2.2.2.1),bv (((addS h x p b z).1).s2.2.2.2.1),bv (((addS h x p b z).1).s2.2.2.2.2),[.bool (((addS h x p b z).1).s3.1)],[.int .i64 (((addS h x p b z).1).s3.2.1)],bv (((addS h x p b z).1).s3.2.2.1),bv (((addS h x p b z).1).s3.2.2.2.1),bv (((addS h x p b z).1).s3.2.2.2.2)] : List (List Value)).flatten.toArray,.int .i64 ((addS h x p b z).2.1),.int .i64 (((addS h x p b z).2.2 : Nat) : Int)]) ∧ Mem w [] w' [] := by
 have hM : Mem w [] w [glb 1,tabP] := Mem.startR w (fun g hg => by
  simp only [List.mem_cons,List.not_mem_nil,or_false] at hg
  rcases hg with rfl | rfl
  ·exact ⟨hG,rfl⟩
  ·exact ⟨hT,rfl⟩)
 refine vf 56 Tryz.func6 rfl rfl rfl ?_
 intro a hE
 replace hE : Env a 56 [(0,_),(1,_),(2,_),(3,_),(4,_)] := hE
 refine ww1 fun _ K1=>wpp ?_
 have hbl5_4 : h.v0.2.2.1.length = 32 := hk_h.v0.2.1
 have hbl5_5 : h.v0.2.2.2.length = 32 := hk_h.v0.2.2
 have hbl5_8 : h.v1.2.2.1.length = 32 := hk_h.v1.2.1
 have hbl5_9 : h.v1.2.2.2.length = 32 := hk_h.v1.2.2
 have hbl5_12 : h.s0.2.2.1.length = 16 := hk_h.s0.2.1
 have hbl5_13 : h.s0.2.2.2.1.length = 32 := hk_h.s0.2.2.1
 have hbl5_14 : h.s0.2.2.2.2.length = 32 := hk_h.s0.2.2.2
 have hbl5_17 : h.s1.2.2.1.length = 16 := hk_h.s1.2.1
 have hbl5_18 : h.s1.2.2.2.1.length = 32 := hk_h.s1.2.2.1
 have hbl5_19 : h.s1.2.2.2.2.length = 32 := hk_h.s1.2.2.2
 have hbl5_22 : h.s2.2.2.1.length = 16 := hk_h.s2.2.1
 have hbl5_23 : h.s2.2.2.2.1.length = 32 := hk_h.s2.2.2.1
 have hbl5_24 : h.s2.2.2.2.2.length = 32 := hk_h.s2.2.2.2
 have hbl5_27 : h.s3.2.2.1.length = 16 := hk_h.s3.2.1
 have hbl5_28 : h.s3.2.2.2.1.length = 32 := hk_h.s3.2.2.1
 have hbl5_29 : h.s3.2.2.2.2.length = 32 := hk_h.s3.2.2.2
 refine s_box (ss := [[.int .i64 h.m],[.int .i64 h.r],[.bool h.v0.1],[.int .u64 ((h.v0.2.1 : Nat) : Int)],bv h.v0.2.2.1,bv h.v0.2.2.2,[.bool h.v1.1],[.int .u64 ((h.v1.2.1 : Nat) : Int)],bv h.v1.2.2.1,bv h.v1.2.2.2,[.bool h.s0.1],[.int .i64 h.s0.2.1],bv h.s0.2.2.1,bv h.s0.2.2.2.1,bv h.s0.2.2.2.2,[.bool h.s1.1],[.int .i64 h.s1.2.1],bv h.s1.2.2.1,bv h.s1.2.2.2.1,bv h.s1.2.2.2.2,[.bool h.s2.1],[.int .i64 h.s2.2.1],bv h.s2.2.2.1,bv h.s2.2.2.2.1,bv h.s2.2.2.2.2,[.bool h.s3.1],[.int .i64 h.s3.2.1],bv h.s3.2.2.1,bv h.s3.2.2.2.1,bv h.s3.2.2.2.2]) [1,1,1,1,32,32,1,1,32,32,1,1,16,32,32,1,1,16,32,32,1,1,16,32,32,1,1,16,32,32] hE hM rfl rfl (by simp only [List.map_cons,List.map_nil,vj,List.length_cons,List.length_nil,List.length_replicate,hbl5_4,hbl5_5,hbl5_8,hbl5_9,hbl5_12,hbl5_13,hbl5_14,hbl5_17,hbl5_18,hbl5_19,hbl5_22,hbl5_23,hbl5_24,hbl5_27,hbl5_28,hbl5_29]) rfl fun a b5 w1 hE hM=>?_
 refine s_box (ss := [bv x]) [32] hE hM rfl (by simp [Value.cells]) (by simp [*]) rfl fun a b6 w2 hE hM=>?_
 refine s_box (ss := [bv b]) [16] hE hM rfl (by simp [Value.cells]) (by simp [*]) rfl fun a b8 w3 hE hM=>?_
 refine qo [1,1,1,1,32,32,1,1,32,32,1,1,16,32,32,1,1,16,32,32,1,1,16,32,32,1,1,16,32,32] hE hM zeroL39 rfl rfl fun a b10 w4 hE hM=>sas hE rfl fun a hE=>sas hE rfl fun a hE=>qa (K1 (ww1 fun _ K2=>ww1 fun _ K3=>wpp (ql hE rfl (hM.get 3 rfl) row39 rfl (by intro X h;cases h) rfl fun a hE=>?_)))
 replace hE := hE.cast 16 rfl (show _ = Value.agg ([[.int .i64 h.m],[.int .i64 h.r],[.bool h.v0.1],[.int .u64 ((h.v0.2.1 : Nat) : Int)],bv h.v0.2.2.1,bv h.v0.2.2.2,[.bool h.v1.1],[.int .u64 ((h.v1.2.1 : Nat) : Int)],bv h.v1.2.2.1,bv h.v1.2.2.2,[.bool h.s0.1],[.int .i64 h.s0.2.1],bv h.s0.2.2.1,bv h.s0.2.2.2.1,bv h.s0.2.2.2.2,[.bool h.s1.1],[.int .i64 h.s1.2.1],bv h.s1.2.2.1,bv h.s1.2.2.2.1,bv h.s1.2.2.2.2,[.bool h.s2.1],[.int .i64 h.s2.2.1],bv h.s2.2.2.1,bv h.s2.2.2.2.1,bv h.s2.2.2.2.2,[.bool h.s3.1],[.int .i64 h.s3.2.1],bv h.s3.2.2.1,bv h.s3.2.2.2.1,bv h.s3.2.2.2.2] : List (List Value)).flatten.toArray from (by first | (simp only [List.flatten_cons,List.flatten_nil,List.append_nil,List.append_assoc];done) | rfl))
 refine sm hE rfl fun a hE=>qn hE rfl Tryz.call11 (smay_c h p _ hk_h) rfl ?_
 rintro e w5 ⟨rfl,hN⟩
 refine ⟨_,rfl,trivial,fun a hE=>?_⟩
 replace hM : Mem _ _ w5 [_,_,_,_,_,_] := hM.call0 hN trivial;clear hN
 refine s_not hE rfl rfl fun a hE=>qa (K3 ?_)
 refine hE.split 19 rfl (fun hb19 hE=>?_) (fun hb19 hE=>?_)
 ·replace hb19 := not_true hb19
  have e1 : addS h x p b z = (zH,0,2) := by simp [addS,hb19]
  refine wct hE rfl (ww1 fun _ K4=>wpp (vg [] hE rfl zero39 (by kernel_rfl) fpl39 (by first | (simp [PartsOk,Value.cells];done) | (simp [PartsOk,Value.cells];omega)) rfl fun a hE=>?_))
  replace hE := hE.cast 20 rfl (show _ = Value.agg ([[.int .i64 0],[.int .i64 0],[.bool false],[.int .u64 0],bv (List.replicate 32 (0 : UInt8)),bv (List.replicate 32 (0 : UInt8)),[.bool false],[.int .u64 0],bv (List.replicate 32 (0 : UInt8)),bv (List.replicate 32 (0 : UInt8)),[.bool false],[.int .i64 0],bv (List.replicate 16 (0 : UInt8)),bv (List.replicate 32 (0 : UInt8)),bv (List.replicate 32 (0 : UInt8)),[.bool false],[.int .i64 0],bv (List.replicate 16 (0 : UInt8)),bv (List.replicate 32 (0 : UInt8)),bv (List.replicate 32 (0 : UInt8)),[.bool false],[.int .i64 0],bv (List.replicate 16 (0 : UInt8)),bv (List.replicate 32 (0 : UInt8)),bv (List.replicate 32 (0 : UInt8)),[.bool false],[.int .i64 0],bv (List.replicate 16 (0 : UInt8)),bv (List.replicate 32 (0 : UInt8)),bv (List.replicate 32 (0 : UInt8))] : List (List Value)).flatten.toArray from (by first | rfl | simp [setAll] | (simp only [setAll,List.set_cons_zero,List.set_cons_succ,List.flatten_cons,List.flatten_nil,List.append_nil,List.append_assoc,List.replicate_succ,List.replicate_zero])))
  have hsl62_4 : (List.replicate 32 (0 : UInt8)).length = 32 := List.length_replicate
  have hsl62_5 : (List.replicate 32 (0 : UInt8)).length = 32 := List.length_replicate
  have hsl62_8 : (List.replicate 32 (0 : UInt8)).length = 32 := List.length_replicate
  have hsl62_9 : (List.replicate 32 (0 : UInt8)).length = 32 := List.length_replicate
  have hsl62_12 : (List.replicate 16 (0 : UInt8)).length = 16 := List.length_replicate
  have hsl62_13 : (List.replicate 32 (0 : UInt8)).length = 32 := List.length_replicate
  have hsl62_14 : (List.replicate 32 (0 : UInt8)).length = 32 := List.length_replicate
  have hsl62_17 : (List.replicate 16 (0 : UInt8)).length = 16 := List.length_replicate
  have hsl62_18 : (List.replicate 32 (0 : UInt8)).length = 32 := List.length_replicate
  have hsl62_19 : (List.replicate 32 (0 : UInt8)).length = 32 := List.length_replicate
  have hsl62_22 : (List.replicate 16 (0 : UInt8)).length = 16 := List.length_replicate
  have hsl62_23 : (List.replicate 32 (0 : UInt8)).length = 32 := List.length_replicate
  have hsl62_24 : (List.replicate 32 (0 : UInt8)).length = 32 := List.length_replicate
  have hsl62_27 : (List.replicate 16 (0 : UInt8)).length = 16 := List.length_replicate
  have hsl62_28 : (List.replicate 32 (0 : UInt8)).length = 32 := List.length_replicate
  have hsl62_29 : (List.replicate 32 (0 : UInt8)).length = 32 := List.length_replicate
  refine qq 0 30 (vss := [[.int .i64 0],[.int .i64 0],[.bool false],[.int .u64 0],bv (List.replicate 32 (0 : UInt8)),bv (List.replicate 32 (0 : UInt8)),[.bool false],[.int .u64 0],bv (List.replicate 32 (0 : UInt8)),bv (List.replicate 32 (0 : UInt8)),[.bool false],[.int .i64 0],bv (List.replicate 16 (0 : UInt8)),bv (List.replicate 32 (0 : UInt8)),bv (List.replicate 32 (0 : UInt8)),[.bool false],[.int .i64 0],bv (List.replicate 16 (0 : UInt8)),bv (List.replicate 32 (0 : UInt8)),bv (List.replicate 32 (0 : UInt8)),[.bool false],[.int .i64 0],bv (List.replicate 16 (0 : UInt8)),bv (List.replicate 32 (0 : UInt8)),bv (List.replicate 32 (0 : UInt8)),[.bool false],[.int .i64 0],bv (List.replicate 16 (0 : UInt8)),bv (List.replicate 32 (0 : UInt8)),bv (List.replicate 32 (0 : UInt8))]) hE rfl rfl hM rfl sz39 (by simp only [List.take_succ_cons,List.take_zero,List.drop_zero,List.drop_succ_cons];simp only [List.map_cons,List.map_nil,vj,List.length_cons,List.length_nil,List.length_replicate,hsl62_4,hsl62_5,hsl62_8,hsl62_9,hsl62_12,hsl62_13,hsl62_14,hsl62_17,hsl62_18,hsl62_19,hsl62_22,hsl62_23,hsl62_24,hsl62_27,hsl62_28,hsl62_29]) (by decide) rfl (one_fl ⟨one1 rfl,one1 rfl,one1 rfl,one1 rfl,ve _,ve _,one1 rfl,one1 rfl,ve _,ve _,one1 rfl,one1 rfl,ve _,ve _,ve _,one1 rfl,one1 rfl,ve _,ve _,ve _,one1 rfl,one1 rfl,ve _,ve _,ve _,one1 rfl,one1 rfl,ve _,ve _,ve _,trivial⟩) rfl (by intro X h;cases h) fun w6 hM=>?_
  try simp only [List.take_zero,List.take_succ_cons,List.drop_zero,List.drop_succ_cons,List.take_nil,List.drop_nil,List.nil_append,List.append_nil,List.cons_append] at hM
  exact sas hE rfl fun a hE=>sas hE rfl fun a hE=>qa (K4 (wp_ret (qb (qk hE rfl (res_cellN rfl (hM.get 0 rfl) row39 rfl) rfl rfl ⟨(by rw [e1];(try rw [hk2]);simp only [setS,newS,zH,zV,zS,slotT,List.flatten_cons,List.flatten_nil,List.append_nil,List.append_assoc,List.cons_append,List.nil_append];try rfl),hM.pick [] rfl⟩))))
 ·replace hb19 := not_false' hb19
  refine wcf hE rfl (wp_skip (K2 (ww1 fun _ K4=>wpp (sm hE rfl fun a hE=>ql hE rfl (hM.get 1 rfl) row34 rfl (by intro X h;cases h) rfl fun a hE=>?_))))
  refine sm hE rfl fun a hE=>qn hE rfl Tryz.call12 (skey_c p b z _ (hM.get 4 rfl) hl_b) rfl ?_
  rintro e w6 ⟨rfl,hN⟩
  refine ⟨_,rfl,trivial,fun a hE=>?_⟩
  replace hM : Mem _ _ w6 [_,_,_,_,_,_] := hM.call0 hN trivial;clear hN
  refine sm hE rfl fun a hE=>sx hE rfl fun a hE=>sx hE rfl fun a hE=>qo [32] hE hM zero26 rfl rfl fun a b13 w7 hE hM=>qr 0 hE rfl rfl hM rfl sz26 ((vj _).trans (vh p b z)) (ve _) rfl ((vj _).trans (by first | (simp;done) | (simp [*];done) | (simp;omega))) rfl (by intro X h;cases h) fun w8 hM=>?_
  simp only [List.set_cons_zero,List.set_cons_succ] at hM
  refine sas hE rfl fun a hE=>qa (K4 (ww1 fun _ K5=>wpp (ql hE rfl (hM.get 4 rfl) row39 rfl (by intro X h;cases h) rfl fun a hE=>?_)))
  replace hE := hE.cast 28 rfl (show _ = Value.agg ([[.int .i64 h.m],[.int .i64 h.r],[.bool h.v0.1],[.int .u64 ((h.v0.2.1 : Nat) : Int)],bv h.v0.2.2.1,bv h.v0.2.2.2,[.bool h.v1.1],[.int .u64 ((h.v1.2.1 : Nat) : Int)],bv h.v1.2.2.1,bv h.v1.2.2.2,[.bool h.s0.1],[.int .i64 h.s0.2.1],bv h.s0.2.2.1,bv h.s0.2.2.2.1,bv h.s0.2.2.2.2,[.bool h.s1.1],[.int .i64 h.s1.2.1],bv h.s1.2.2.1,bv h.s1.2.2.2.1,bv h.s1.2.2.2.2,[.bool h.s2.1],[.int .i64 h.s2.2.1],bv h.s2.2.2.1,bv h.s2.2.2.2.1,bv h.s2.2.2.2.2,[.bool h.s3.1],[.int .i64 h.s3.2.1],bv h.s3.2.2.1,bv h.s3.2.2.2.1,bv h.s3.2.2.2.2] : List (List Value)).flatten.toArray from (by first | (simp only [List.flatten_cons,List.flatten_nil,List.append_nil,List.append_assoc];done) | rfl))
  refine qn hE rfl Tryz.call13 (free_c h _ hk_h) rfl ?_
  rintro e w9 ⟨rfl,hN⟩
  refine ⟨_,rfl,trivial,fun a hE=>?_⟩
  replace hM : Mem _ _ w9 [_,_,_,_,_,_,_] := hM.call0 hN trivial;clear hN
  refine sas hE rfl fun a hE=>qa (K5 (ww1 fun _ K6=>wp_block (ww1 fun _ K7=>wpp (sm hE rfl fun a hE=>sb hE rfl rfl bin_neq fun a hE=>sas hE rfl fun a hE=>?_))))
  refine qa (K7 ?_)
  refine hE.split 30 rfl (fun hb30 hE=>?_) (fun hb30 hE=>?_)
  ·replace hb30 := of_decide_eq_false (not_true hb30)
   replace hb30 : ¬ ((kE p z) = 0) := by omega
   have hk2 : kE p z = 2 := kE_two hb30
   have e1 : addS h x p b z = (zH,0,2) := by simp [addS,hb19,hk2]
   refine wct hE rfl (ww1 fun _ K8=>wpp (vg [] hE rfl zero39 (by kernel_rfl) fpl39 (by first | (simp [PartsOk,Value.cells];done) | (simp [PartsOk,Value.cells];omega)) rfl fun a hE=>?_))
   replace hE := hE.cast 33 rfl (show _ = Value.agg ([[.int .i64 0],[.int .i64 0],[.bool false],[.int .u64 0],bv (List.replicate 32 (0 : UInt8)),bv (List.replicate 32 (0 : UInt8)),[.bool false],[.int .u64 0],bv (List.replicate 32 (0 : UInt8)),bv (List.replicate 32 (0 : UInt8)),[.bool false],[.int .i64 0],bv (List.replicate 16 (0 : UInt8)),bv (List.replicate 32 (0 : UInt8)),bv (List.replicate 32 (0 : UInt8)),[.bool false],[.int .i64 0],bv (List.replicate 16 (0 : UInt8)),bv (List.replicate 32 (0 : UInt8)),bv (List.replicate 32 (0 : UInt8)),[.bool false],[.int .i64 0],bv (List.replicate 16 (0 : UInt8)),bv (List.replicate 32 (0 : UInt8)),bv (List.replicate 32 (0 : UInt8)),[.bool false],[.int .i64 0],bv (List.replicate 16 (0 : UInt8)),bv (List.replicate 32 (0 : UInt8)),bv (List.replicate 32 (0 : UInt8))] : List (List Value)).flatten.toArray from (by first | rfl | simp [setAll] | (simp only [setAll,List.set_cons_zero,List.set_cons_succ,List.flatten_cons,List.flatten_nil,List.append_nil,List.append_assoc,List.replicate_succ,List.replicate_zero])))
   refine sm hE rfl fun a hE=>?_
   have hsl148_4 : (List.replicate 32 (0 : UInt8)).length = 32 := List.length_replicate
   have hsl148_5 : (List.replicate 32 (0 : UInt8)).length = 32 := List.length_replicate
   have hsl148_8 : (List.replicate 32 (0 : UInt8)).length = 32 := List.length_replicate
   have hsl148_9 : (List.replicate 32 (0 : UInt8)).length = 32 := List.length_replicate
   have hsl148_12 : (List.replicate 16 (0 : UInt8)).length = 16 := List.length_replicate
   have hsl148_13 : (List.replicate 32 (0 : UInt8)).length = 32 := List.length_replicate
   have hsl148_14 : (List.replicate 32 (0 : UInt8)).length = 32 := List.length_replicate
   have hsl148_17 : (List.replicate 16 (0 : UInt8)).length = 16 := List.length_replicate
   have hsl148_18 : (List.replicate 32 (0 : UInt8)).length = 32 := List.length_replicate
   have hsl148_19 : (List.replicate 32 (0 : UInt8)).length = 32 := List.length_replicate
   have hsl148_22 : (List.replicate 16 (0 : UInt8)).length = 16 := List.length_replicate
   have hsl148_23 : (List.replicate 32 (0 : UInt8)).length = 32 := List.length_replicate
   have hsl148_24 : (List.replicate 32 (0 : UInt8)).length = 32 := List.length_replicate
   have hsl148_27 : (List.replicate 16 (0 : UInt8)).length = 16 := List.length_replicate
   have hsl148_28 : (List.replicate 32 (0 : UInt8)).length = 32 := List.length_replicate
   have hsl148_29 : (List.replicate 32 (0 : UInt8)).length = 32 := List.length_replicate
   replace hM : Mem _ _ w9 [_,_,_,_,_,_,_] := hM.pick [1,0,2,3,4,5,6] rfl
   refine qq 0 30 (vss := [[.int .i64 0],[.int .i64 0],[.bool false],[.int .u64 0],bv (List.replicate 32 (0 : UInt8)),bv (List.replicate 32 (0 : UInt8)),[.bool false],[.int .u64 0],bv (List.replicate 32 (0 : UInt8)),bv (List.replicate 32 (0 : UInt8)),[.bool false],[.int .i64 0],bv (List.replicate 16 (0 : UInt8)),bv (List.replicate 32 (0 : UInt8)),bv (List.replicate 32 (0 : UInt8)),[.bool false],[.int .i64 0],bv (List.replicate 16 (0 : UInt8)),bv (List.replicate 32 (0 : UInt8)),bv (List.replicate 32 (0 : UInt8)),[.bool false],[.int .i64 0],bv (List.replicate 16 (0 : UInt8)),bv (List.replicate 32 (0 : UInt8)),bv (List.replicate 32 (0 : UInt8)),[.bool false],[.int .i64 0],bv (List.replicate 16 (0 : UInt8)),bv (List.replicate 32 (0 : UInt8)),bv (List.replicate 32 (0 : UInt8))]) hE rfl rfl hM rfl sz39 (by simp only [List.take_succ_cons,List.take_zero,List.drop_zero,List.drop_succ_cons];simp only [List.map_cons,List.map_nil,vj,List.length_cons,List.length_nil,List.length_replicate,hsl148_4,hsl148_5,hsl148_8,hsl148_9,hsl148_12,hsl148_13,hsl148_14,hsl148_17,hsl148_18,hsl148_19,hsl148_22,hsl148_23,hsl148_24,hsl148_27,hsl148_28,hsl148_29]) (by decide) rfl (one_fl ⟨one1 rfl,one1 rfl,one1 rfl,one1 rfl,ve _,ve _,one1 rfl,one1 rfl,ve _,ve _,one1 rfl,one1 rfl,ve _,ve _,ve _,one1 rfl,one1 rfl,ve _,ve _,ve _,one1 rfl,one1 rfl,ve _,ve _,ve _,one1 rfl,one1 rfl,ve _,ve _,ve _,trivial⟩) rfl (by intro X h;cases h) fun w10 hM=>?_
   try simp only [List.take_zero,List.take_succ_cons,List.drop_zero,List.drop_succ_cons,List.take_nil,List.drop_nil,List.nil_append,List.append_nil,List.cons_append] at hM
   exact sas hE rfl fun a hE=>sas hE rfl fun a hE=>qa (K8 (wp_ret (qf (qb (qk hE rfl (res_cellN rfl (hM.get 0 rfl) row39 rfl) rfl rfl ⟨(by rw [e1];(try rw [hk2]);simp only [setS,newS,zH,zV,zS,slotT,List.flatten_cons,List.flatten_nil,List.append_nil,List.append_assoc,List.cons_append,List.nil_append];try rfl),hM.pick [] rfl⟩)))))
  ·replace hb30 := of_decide_eq_true (not_false' hb30)
   replace hb30 : (kE p z) = 0 := by omega
   refine wcf hE rfl (ww1 fun _ K8=>wpp (ql hE rfl (hM.get 4 rfl) row39 rfl (by intro X h;cases h) rfl fun a hE=>?_))
   replace hE := hE.cast 36 rfl (show _ = Value.agg ([[.int .i64 h.m],[.int .i64 h.r],[.bool h.v0.1],[.int .u64 ((h.v0.2.1 : Nat) : Int)],bv h.v0.2.2.1,bv h.v0.2.2.2,[.bool h.v1.1],[.int .u64 ((h.v1.2.1 : Nat) : Int)],bv h.v1.2.2.1,bv h.v1.2.2.2,[.bool h.s0.1],[.int .i64 h.s0.2.1],bv h.s0.2.2.1,bv h.s0.2.2.2.1,bv h.s0.2.2.2.2,[.bool h.s1.1],[.int .i64 h.s1.2.1],bv h.s1.2.2.1,bv h.s1.2.2.2.1,bv h.s1.2.2.2.2,[.bool h.s2.1],[.int .i64 h.s2.2.1],bv h.s2.2.2.1,bv h.s2.2.2.2.1,bv h.s2.2.2.2.2,[.bool h.s3.1],[.int .i64 h.s3.2.1],bv h.s3.2.2.1,bv h.s3.2.2.2.1,bv h.s3.2.2.2.2] : List (List Value)).flatten.toArray from (by first | (simp only [List.flatten_cons,List.flatten_nil,List.append_nil,List.append_assoc];done) | rfl))
   refine sm hE rfl fun a hE=>ql hE rfl (hM.get 2 rfl) row34 rfl (by intro X h;cases h) rfl fun a hE=>?_
   refine qn hE rfl Tryz.call14 (there_c h p b _ (hM.get 5 rfl) (hM.get 6 rfl) hk_h hl_b) rfl ?_
   rintro e w10 ⟨rfl,hN⟩
   refine ⟨_,rfl,trivial,fun a hE=>?_⟩
   replace hM : Mem _ _ w10 [_,_,_,_,_,_,_] := hM.call0 hN trivial;clear hN
   refine sas hE rfl fun a hE=>qa (K8 ?_)
   refine hE.split 35 rfl (fun hb35 hE=>?_) (fun hb35 hE=>?_)
   ·have e1 : addS h x p b z = (zH,0,6) := by simp [addS,hb19,hb30,hb35]
    refine wct hE rfl (ww1 fun _ K9=>wpp (vg [] hE rfl zero39 (by kernel_rfl) fpl39 (by first | (simp [PartsOk,Value.cells];done) | (simp [PartsOk,Value.cells];omega)) rfl fun a hE=>?_))
    replace hE := hE.cast 40 rfl (show _ = Value.agg ([[.int .i64 0],[.int .i64 0],[.bool false],[.int .u64 0],bv (List.replicate 32 (0 : UInt8)),bv (List.replicate 32 (0 : UInt8)),[.bool false],[.int .u64 0],bv (List.replicate 32 (0 : UInt8)),bv (List.replicate 32 (0 : UInt8)),[.bool false],[.int .i64 0],bv (List.replicate 16 (0 : UInt8)),bv (List.replicate 32 (0 : UInt8)),bv (List.replicate 32 (0 : UInt8)),[.bool false],[.int .i64 0],bv (List.replicate 16 (0 : UInt8)),bv (List.replicate 32 (0 : UInt8)),bv (List.replicate 32 (0 : UInt8)),[.bool false],[.int .i64 0],bv (List.replicate 16 (0 : UInt8)),bv (List.replicate 32 (0 : UInt8)),bv (List.replicate 32 (0 : UInt8)),[.bool false],[.int .i64 0],bv (List.replicate 16 (0 : UInt8)),bv (List.replicate 32 (0 : UInt8)),bv (List.replicate 32 (0 : UInt8))] : List (List Value)).flatten.toArray from (by first | rfl | simp [setAll] | (simp only [setAll,List.set_cons_zero,List.set_cons_succ,List.flatten_cons,List.flatten_nil,List.append_nil,List.append_assoc,List.replicate_succ,List.replicate_zero])))
    have hsl203_4 : (List.replicate 32 (0 : UInt8)).length = 32 := List.length_replicate
    have hsl203_5 : (List.replicate 32 (0 : UInt8)).length = 32 := List.length_replicate
    have hsl203_8 : (List.replicate 32 (0 : UInt8)).length = 32 := List.length_replicate
    have hsl203_9 : (List.replicate 32 (0 : UInt8)).length = 32 := List.length_replicate
    have hsl203_12 : (List.replicate 16 (0 : UInt8)).length = 16 := List.length_replicate
    have hsl203_13 : (List.replicate 32 (0 : UInt8)).length = 32 := List.length_replicate
    have hsl203_14 : (List.replicate 32 (0 : UInt8)).length = 32 := List.length_replicate
    have hsl203_17 : (List.replicate 16 (0 : UInt8)).length = 16 := List.length_replicate
    have hsl203_18 : (List.replicate 32 (0 : UInt8)).length = 32 := List.length_replicate
    have hsl203_19 : (List.replicate 32 (0 : UInt8)).length = 32 := List.length_replicate
    have hsl203_22 : (List.replicate 16 (0 : UInt8)).length = 16 := List.length_replicate
    have hsl203_23 : (List.replicate 32 (0 : UInt8)).length = 32 := List.length_replicate
    have hsl203_24 : (List.replicate 32 (0 : UInt8)).length = 32 := List.length_replicate
    have hsl203_27 : (List.replicate 16 (0 : UInt8)).length = 16 := List.length_replicate
    have hsl203_28 : (List.replicate 32 (0 : UInt8)).length = 32 := List.length_replicate
    have hsl203_29 : (List.replicate 32 (0 : UInt8)).length = 32 := List.length_replicate
    replace hM : Mem _ _ w10 [_,_,_,_,_,_,_] := hM.pick [1,0,2,3,4,5,6] rfl
    refine qq 0 30 (vss := [[.int .i64 0],[.int .i64 0],[.bool false],[.int .u64 0],bv (List.replicate 32 (0 : UInt8)),bv (List.replicate 32 (0 : UInt8)),[.bool false],[.int .u64 0],bv (List.replicate 32 (0 : UInt8)),bv (List.replicate 32 (0 : UInt8)),[.bool false],[.int .i64 0],bv (List.replicate 16 (0 : UInt8)),bv (List.replicate 32 (0 : UInt8)),bv (List.replicate 32 (0 : UInt8)),[.bool false],[.int .i64 0],bv (List.replicate 16 (0 : UInt8)),bv (List.replicate 32 (0 : UInt8)),bv (List.replicate 32 (0 : UInt8)),[.bool false],[.int .i64 0],bv (List.replicate 16 (0 : UInt8)),bv (List.replicate 32 (0 : UInt8)),bv (List.replicate 32 (0 : UInt8)),[.bool false],[.int .i64 0],bv (List.replicate 16 (0 : UInt8)),bv (List.replicate 32 (0 : UInt8)),bv (List.replicate 32 (0 : UInt8))]) hE rfl rfl hM rfl sz39 (by simp only [List.take_succ_cons,List.take_zero,List.drop_zero,List.drop_succ_cons];simp only [List.map_cons,List.map_nil,vj,List.length_cons,List.length_nil,List.length_replicate,hsl203_4,hsl203_5,hsl203_8,hsl203_9,hsl203_12,hsl203_13,hsl203_14,hsl203_17,hsl203_18,hsl203_19,hsl203_22,hsl203_23,hsl203_24,hsl203_27,hsl203_28,hsl203_29]) (by decide) rfl (one_fl ⟨one1 rfl,one1 rfl,one1 rfl,one1 rfl,ve _,ve _,one1 rfl,one1 rfl,ve _,ve _,one1 rfl,one1 rfl,ve _,ve _,ve _,one1 rfl,one1 rfl,ve _,ve _,ve _,one1 rfl,one1 rfl,ve _,ve _,ve _,one1 rfl,one1 rfl,ve _,ve _,ve _,trivial⟩) rfl (by intro X h;cases h) fun w11 hM=>?_
    try simp only [List.take_zero,List.take_succ_cons,List.drop_zero,List.drop_succ_cons,List.take_nil,List.drop_nil,List.nil_append,List.append_nil,List.cons_append] at hM
    exact sas hE rfl fun a hE=>sas hE rfl fun a hE=>qa (K9 (wp_ret (qf (qb (qk hE rfl (res_cellN rfl (hM.get 0 rfl) row39 rfl) rfl rfl ⟨(by rw [e1];(try rw [hk2]);simp only [setS,newS,zH,zV,zS,slotT,List.flatten_cons,List.flatten_nil,List.append_nil,List.append_assoc,List.cons_append,List.nil_append];try rfl),hM.pick [] rfl⟩)))))
   ·refine wcf hE rfl (ww1 fun _ K9=>wpp (sm hE rfl fun a hE=>?_))
    rcases freeS_five h with hfr | hfr | hfr | hfr | hfr
    ·replace hE := hE.cast 15 rfl (show _ = Value.int .i64 (-1) from congrArg (Value.int .i64) hfr)
     replace hE := hE.cast 42 rfl (show _ = Value.int .i64 (-1) from congrArg (Value.int .i64) hfr)
     refine sb hE rfl rfl bin_lss fun a hE=>sas hE rfl fun a hE=>qa (K9 ?_)
     have e1 : addS h x p b z = (zH,0,7) := by simp [addS,hb19,hb30,hb35,hfr]
     replace hE := hE.cast 41 rfl (show _ = Value.bool true from (congrArg Value.bool (by decide)))
     refine wct hE rfl (ww1 fun _ K10=>wpp (vg [] hE rfl zero39 (by kernel_rfl) fpl39 (by first | (simp [PartsOk,Value.cells];done) | (simp [PartsOk,Value.cells];omega)) rfl fun a hE=>?_))
     replace hE := hE.cast 44 rfl (show _ = Value.agg ([[.int .i64 0],[.int .i64 0],[.bool false],[.int .u64 0],bv (List.replicate 32 (0 : UInt8)),bv (List.replicate 32 (0 : UInt8)),[.bool false],[.int .u64 0],bv (List.replicate 32 (0 : UInt8)),bv (List.replicate 32 (0 : UInt8)),[.bool false],[.int .i64 0],bv (List.replicate 16 (0 : UInt8)),bv (List.replicate 32 (0 : UInt8)),bv (List.replicate 32 (0 : UInt8)),[.bool false],[.int .i64 0],bv (List.replicate 16 (0 : UInt8)),bv (List.replicate 32 (0 : UInt8)),bv (List.replicate 32 (0 : UInt8)),[.bool false],[.int .i64 0],bv (List.replicate 16 (0 : UInt8)),bv (List.replicate 32 (0 : UInt8)),bv (List.replicate 32 (0 : UInt8)),[.bool false],[.int .i64 0],bv (List.replicate 16 (0 : UInt8)),bv (List.replicate 32 (0 : UInt8)),bv (List.replicate 32 (0 : UInt8))] : List (List Value)).flatten.toArray from (by first | rfl | simp [setAll] | (simp only [setAll,List.set_cons_zero,List.set_cons_succ,List.flatten_cons,List.flatten_nil,List.append_nil,List.append_assoc,List.replicate_succ,List.replicate_zero])))
     have hsl252_4 : (List.replicate 32 (0 : UInt8)).length = 32 := List.length_replicate
     have hsl252_5 : (List.replicate 32 (0 : UInt8)).length = 32 := List.length_replicate
     have hsl252_8 : (List.replicate 32 (0 : UInt8)).length = 32 := List.length_replicate
     have hsl252_9 : (List.replicate 32 (0 : UInt8)).length = 32 := List.length_replicate
     have hsl252_12 : (List.replicate 16 (0 : UInt8)).length = 16 := List.length_replicate
     have hsl252_13 : (List.replicate 32 (0 : UInt8)).length = 32 := List.length_replicate
     have hsl252_14 : (List.replicate 32 (0 : UInt8)).length = 32 := List.length_replicate
     have hsl252_17 : (List.replicate 16 (0 : UInt8)).length = 16 := List.length_replicate
     have hsl252_18 : (List.replicate 32 (0 : UInt8)).length = 32 := List.length_replicate
     have hsl252_19 : (List.replicate 32 (0 : UInt8)).length = 32 := List.length_replicate
     have hsl252_22 : (List.replicate 16 (0 : UInt8)).length = 16 := List.length_replicate
     have hsl252_23 : (List.replicate 32 (0 : UInt8)).length = 32 := List.length_replicate
     have hsl252_24 : (List.replicate 32 (0 : UInt8)).length = 32 := List.length_replicate
     have hsl252_27 : (List.replicate 16 (0 : UInt8)).length = 16 := List.length_replicate
     have hsl252_28 : (List.replicate 32 (0 : UInt8)).length = 32 := List.length_replicate
     have hsl252_29 : (List.replicate 32 (0 : UInt8)).length = 32 := List.length_replicate
     replace hM : Mem _ _ w10 [_,_,_,_,_,_,_] := hM.pick [1,0,2,3,4,5,6] rfl
     refine qq 0 30 (vss := [[.int .i64 0],[.int .i64 0],[.bool false],[.int .u64 0],bv (List.replicate 32 (0 : UInt8)),bv (List.replicate 32 (0 : UInt8)),[.bool false],[.int .u64 0],bv (List.replicate 32 (0 : UInt8)),bv (List.replicate 32 (0 : UInt8)),[.bool false],[.int .i64 0],bv (List.replicate 16 (0 : UInt8)),bv (List.replicate 32 (0 : UInt8)),bv (List.replicate 32 (0 : UInt8)),[.bool false],[.int .i64 0],bv (List.replicate 16 (0 : UInt8)),bv (List.replicate 32 (0 : UInt8)),bv (List.replicate 32 (0 : UInt8)),[.bool false],[.int .i64 0],bv (List.replicate 16 (0 : UInt8)),bv (List.replicate 32 (0 : UInt8)),bv (List.replicate 32 (0 : UInt8)),[.bool false],[.int .i64 0],bv (List.replicate 16 (0 : UInt8)),bv (List.replicate 32 (0 : UInt8)),bv (List.replicate 32 (0 : UInt8))]) hE rfl rfl hM rfl sz39 (by simp only [List.take_succ_cons,List.take_zero,List.drop_zero,List.drop_succ_cons];simp only [List.map_cons,List.map_nil,vj,List.length_cons,List.length_nil,List.length_replicate,hsl252_4,hsl252_5,hsl252_8,hsl252_9,hsl252_12,hsl252_13,hsl252_14,hsl252_17,hsl252_18,hsl252_19,hsl252_22,hsl252_23,hsl252_24,hsl252_27,hsl252_28,hsl252_29]) (by decide) rfl (one_fl ⟨one1 rfl,one1 rfl,one1 rfl,one1 rfl,ve _,ve _,one1 rfl,one1 rfl,ve _,ve _,one1 rfl,one1 rfl,ve _,ve _,ve _,one1 rfl,one1 rfl,ve _,ve _,ve _,one1 rfl,one1 rfl,ve _,ve _,ve _,one1 rfl,one1 rfl,ve _,ve _,ve _,trivial⟩) rfl (by intro X h;cases h) fun w11 hM=>?_
     try simp only [List.take_zero,List.take_succ_cons,List.drop_zero,List.drop_succ_cons,List.take_nil,List.drop_nil,List.nil_append,List.append_nil,List.cons_append] at hM
     exact sas hE rfl fun a hE=>sas hE rfl fun a hE=>qa (K10 (wp_ret (qf (qb (qk hE rfl (res_cellN rfl (hM.get 0 rfl) row39 rfl) rfl rfl ⟨(by rw [e1];(try rw [hk2]);simp only [setS,newS,zH,zV,zS,slotT,List.flatten_cons,List.flatten_nil,List.append_nil,List.append_assoc,List.cons_append,List.nil_append];try rfl),hM.pick [] rfl⟩)))))
    ·replace hE := hE.cast 15 rfl (show _ = Value.int .i64 0 from congrArg (Value.int .i64) hfr)
     replace hE := hE.cast 42 rfl (show _ = Value.int .i64 0 from congrArg (Value.int .i64) hfr)
     have e1 : addS h x p b z = (setS h 0 (newS p b z x),0,0) := by simp [addS,hb19,hb30,hb35,hfr]
     refine sb hE rfl rfl bin_lss fun a hE=>?_
     replace hE := hE.cast 43 rfl (show _ = Value.bool false from (congrArg Value.bool (by decide)))
     refine sas hE rfl fun a hE=>qa (K9 (wcf hE rfl (wp_skip (qe (K6 (ww1 fun _ K10=>qz hM (by kernel_rfl) (fun _ => True) (fun _ => True) (.re [(0,true),(1,true),(7,true),(2,true),(3,true),(4,true),(5,false),(6,true),(8,true),(9,false)] (.fl 3 (.weak (.fl 3 (.or 5 (.re [(6,true),(8,true),(9,false)] (.fl 2 (.fl 0 (.cut (.or 9 (.cut (.re [] (.weak (.leaf 0)))) (.stop)))))) (.stop)))))) [(0,true),(1,true),(7,true),(2,true),(3,true),(4,true),(5,false),(6,true),(8,true),(9,false)] [(2,[(6,2),(8,2),(9,2)]),(3,[(5,3),(6,5),(8,3),(9,3)]),(4,[(5,4),(6,5),(8,4),(9,4)]),(5,[(6,5),(8,5),(9,5)]),(6,[(8,6),(9,6)]),(7,[(8,7),(9,8)]),(8,[(9,8)]),(9,[])] (by kernel_rfl) ?_))))))
     intro w11 hM' hww11;replace hM := hM'
     refine o_re (o_fl rfl (sm hE rfl fun a hE=>sm hE rfl fun a hE=>sf hE rfl fo39_2 fun a hE=>qa (qh (vc (fun _ => False) (fun _ _ => trivial) (o_fl rfl (ql hE rfl (hM.get 2 rfl) row34 rfl (by intro X h;cases h;simp) rfl fun a hE=>?_))))))
     refine ql hE rfl (hM.get 0 rfl) row26 rfl (by intro X h;cases h;simp) rfl fun a hE=>?_
     refine ql hE rfl (hM.get 3 rfl) row26 rfl (by intro X h;cases h;simp) rfl fun a hE=>?_
     refine qa (qh ?_)
     refine o_or rfl ?_ ?_
     ·refine qn hE rfl Tryz.call15 (wrap_c (kK p b z) [115,108,111,116] 0 x _ (hM.get 5 rfl) (hM.get 6 rfl) (vh p b z) hl_x (by have hl_0 : (kK p b z).length = 32 := (vh p b z);have hl_1 : [115,108,111,116].length = 4 := (by first | (simp;done) | (simp [*];done) | (simp;omega));have hl_3 : x.length = 32 := hl_x;first | omega | assumption | (simp;done) | (simp;omega) | decide) (by have hl_0 : (kK p b z).length = 32 := (vh p b z);have hl_1 : [115,108,111,116].length = 4 := (by first | (simp;done) | (simp [*];done) | (simp;omega));have hl_3 : x.length = 32 := hl_x;first | omega | assumption | (simp;done) | (simp;omega) | decide)) rfl ?_
      rintro e w12 ⟨rfl,hN⟩
      refine ⟨_,rfl,hN.sta0 _,fun a hE=>?_⟩
      replace hM : Mem _ _ w12 [_,_,_,_,_,_,_] := hM.call0 hN trivial;clear hN
      refine qa (qh (o_re (o_fl rfl ?_)))
      have hbd51_2_0 : b.length = 16 := hl_b
      have hbd51_3_0 : (wrapD (kK p b z) [115,108,111,116] 0 x).length = 32 := (wrapD_len (k := (kK p b z)) (l := [115,108,111,116]) (n := 0) (x := x) (by have hl_ax : x.length = 32 := hl_x;first | assumption | (simp;done)))
      have hbd51_3_1 : (tagB (kK p b z) [115,108,111,116] 0 (wrapD (kK p b z) [115,108,111,116] 0 x)).length = 32 := (tagB_len (kK p b z) [115,108,111,116] 0 (wrapD (kK p b z) [115,108,111,116] 0 x))
      refine vg [[.bool true],[.int .i64 z],bv b,([bv (wrapD (kK p b z) [115,108,111,116] 0 x),bv (tagB (kK p b z) [115,108,111,116] 0 (wrapD (kK p b z) [115,108,111,116] 0 x))] : List (List Value)).flatten] hE rfl zero36 (by kernel_rfl) fpl36 (by first | (simp [PartsOk,Value.cells,hbd51_2_0,hbd51_3_0,hbd51_3_1];done) | (simp [PartsOk,Value.cells,hbd51_2_0,hbd51_3_0,hbd51_3_1];omega)) rfl fun a hE=>?_
      replace hE := hE.cast 51 rfl (show _ = Value.agg ([[.bool true],[.int .i64 z],bv b,bv (wrapD (kK p b z) [115,108,111,116] 0 x),bv (tagB (kK p b z) [115,108,111,116] 0 (wrapD (kK p b z) [115,108,111,116] 0 x))] : List (List Value)).flatten.toArray from (by first | rfl | simp [setAll] | (simp only [setAll,List.set_cons_zero,List.set_cons_succ,List.flatten_cons,List.flatten_nil,List.append_nil,List.append_assoc,List.replicate_succ,List.replicate_zero])))
      refine qp (j := 0) hE rfl rfl arr37 rfl (by decide) rfl fun a hE=>?_
      refine qa (qh (o_fl rfl (qa (qh (o_cut (fun b => b = b5) ?_)))))
      refine o_or rfl ?_ ?_
      ·have hsl328_2 : b.length = 16 := hl_b
       have hsl328_3 : (wrapD (kK p b z) [115,108,111,116] 0 x).length = 32 := (wrapD_len (k := (kK p b z)) (l := [115,108,111,116]) (n := 0) (x := x) (by have hl_ax : x.length = 32 := hl_x;first | assumption | (simp;done)))
       have hsl328_4 : (tagB (kK p b z) [115,108,111,116] 0 (wrapD (kK p b z) [115,108,111,116] 0 x)).length = 32 := (tagB_len (kK p b z) [115,108,111,116] 0 (wrapD (kK p b z) [115,108,111,116] 0 x))
       replace hM : Mem _ _ w12 [_,_,_,_,_,_,_] := hM.pick [4,0,1,2,3,5,6] rfl
       refine qq 10 5 (vss := [[.bool true],[.int .i64 z],bv b,bv (wrapD (kK p b z) [115,108,111,116] 0 x),bv (tagB (kK p b z) [115,108,111,116] 0 (wrapD (kK p b z) [115,108,111,116] 0 x))]) hE rfl rfl hM rfl sz36 (by simp only [List.take_succ_cons,List.take_zero,List.drop_zero,List.drop_succ_cons];simp only [List.map_cons,List.map_nil,vj,List.length_cons,List.length_nil,List.length_replicate,hsl328_2,hsl328_3,hsl328_4]) (by decide) rfl (one_fl ⟨one1 rfl,one1 rfl,ve _,ve _,ve _,trivial⟩) rfl (by intro X h;cases h;rfl) fun w13 hM=>?_
       try simp only [List.take_zero,List.take_succ_cons,List.drop_zero,List.drop_succ_cons,List.take_nil,List.drop_nil,List.nil_append,List.append_nil,List.cons_append] at hM
       refine qa (qh (o_cut (fun _ => True) (o_re (vc (fun _ => False) (fun _ _ => trivial) (va rfl rfl (qa (q_ph (qa (K10 (ww1 fun _ K11=>wpp (ql hE rfl (hM.get 0 rfl) row39 rfl (by intro X h;cases h) rfl fun a hE=>?_)))))))))))
       replace hE := hE.cast 54 rfl (show _ = Value.agg ([[.int .i64 h.m],[.int .i64 h.r],[.bool h.v0.1],[.int .u64 ((h.v0.2.1 : Nat) : Int)],bv h.v0.2.2.1,bv h.v0.2.2.2,[.bool h.v1.1],[.int .u64 ((h.v1.2.1 : Nat) : Int)],bv h.v1.2.2.1,bv h.v1.2.2.2,[.bool true],[.int .i64 z],bv b,bv (wrapD (kK p b z) [115,108,111,116] 0 x),bv (tagB (kK p b z) [115,108,111,116] 0 (wrapD (kK p b z) [115,108,111,116] 0 x)),[.bool h.s1.1],[.int .i64 h.s1.2.1],bv h.s1.2.2.1,bv h.s1.2.2.2.1,bv h.s1.2.2.2.2,[.bool h.s2.1],[.int .i64 h.s2.2.1],bv h.s2.2.2.1,bv h.s2.2.2.2.1,bv h.s2.2.2.2.2,[.bool h.s3.1],[.int .i64 h.s3.2.1],bv h.s3.2.2.1,bv h.s3.2.2.2.1,bv h.s3.2.2.2.2] : List (List Value)).flatten.toArray from (by first | (simp only [List.flatten_cons,List.flatten_nil,List.append_nil,List.append_assoc];done) | rfl))
       refine sm hE rfl fun a hE=>?_
       have hsl347_4 : h.v0.2.2.1.length = 32 := hk_h.v0.2.1
       have hsl347_5 : h.v0.2.2.2.length = 32 := hk_h.v0.2.2
       have hsl347_8 : h.v1.2.2.1.length = 32 := hk_h.v1.2.1
       have hsl347_9 : h.v1.2.2.2.length = 32 := hk_h.v1.2.2
       have hsl347_12 : b.length = 16 := hl_b
       have hsl347_13 : (wrapD (kK p b z) [115,108,111,116] 0 x).length = 32 := (wrapD_len (k := (kK p b z)) (l := [115,108,111,116]) (n := 0) (x := x) (by have hl_ax : x.length = 32 := hl_x;first | assumption | (simp;done)))
       have hsl347_14 : (tagB (kK p b z) [115,108,111,116] 0 (wrapD (kK p b z) [115,108,111,116] 0 x)).length = 32 := (tagB_len (kK p b z) [115,108,111,116] 0 (wrapD (kK p b z) [115,108,111,116] 0 x))
       have hsl347_17 : h.s1.2.2.1.length = 16 := hk_h.s1.2.1
       have hsl347_18 : h.s1.2.2.2.1.length = 32 := hk_h.s1.2.2.1
       have hsl347_19 : h.s1.2.2.2.2.length = 32 := hk_h.s1.2.2.2
       have hsl347_22 : h.s2.2.2.1.length = 16 := hk_h.s2.2.1
       have hsl347_23 : h.s2.2.2.2.1.length = 32 := hk_h.s2.2.2.1
       have hsl347_24 : h.s2.2.2.2.2.length = 32 := hk_h.s2.2.2.2
       have hsl347_27 : h.s3.2.2.1.length = 16 := hk_h.s3.2.1
       have hsl347_28 : h.s3.2.2.2.1.length = 32 := hk_h.s3.2.2.1
       have hsl347_29 : h.s3.2.2.2.2.length = 32 := hk_h.s3.2.2.2
       replace hM : Mem _ _ w13 [_,_,_,_,_,_,_] := hM.pick [2,0,1,3,4,5,6] rfl
       refine qq 0 30 (vss := [[.int .i64 h.m],[.int .i64 h.r],[.bool h.v0.1],[.int .u64 ((h.v0.2.1 : Nat) : Int)],bv h.v0.2.2.1,bv h.v0.2.2.2,[.bool h.v1.1],[.int .u64 ((h.v1.2.1 : Nat) : Int)],bv h.v1.2.2.1,bv h.v1.2.2.2,[.bool true],[.int .i64 z],bv b,bv (wrapD (kK p b z) [115,108,111,116] 0 x),bv (tagB (kK p b z) [115,108,111,116] 0 (wrapD (kK p b z) [115,108,111,116] 0 x)),[.bool h.s1.1],[.int .i64 h.s1.2.1],bv h.s1.2.2.1,bv h.s1.2.2.2.1,bv h.s1.2.2.2.2,[.bool h.s2.1],[.int .i64 h.s2.2.1],bv h.s2.2.2.1,bv h.s2.2.2.2.1,bv h.s2.2.2.2.2,[.bool h.s3.1],[.int .i64 h.s3.2.1],bv h.s3.2.2.1,bv h.s3.2.2.2.1,bv h.s3.2.2.2.2]) hE rfl rfl hM rfl sz39 (by simp only [List.take_succ_cons,List.take_zero,List.drop_zero,List.drop_succ_cons];simp only [List.map_cons,List.map_nil,vj,List.length_cons,List.length_nil,List.length_replicate,hsl347_4,hsl347_5,hsl347_8,hsl347_9,hsl347_12,hsl347_13,hsl347_14,hsl347_17,hsl347_18,hsl347_19,hsl347_22,hsl347_23,hsl347_24,hsl347_27,hsl347_28,hsl347_29]) (by decide) rfl (one_fl ⟨one1 rfl,one1 rfl,one1 rfl,one1 rfl,ve _,ve _,one1 rfl,one1 rfl,ve _,ve _,one1 rfl,one1 rfl,ve _,ve _,ve _,one1 rfl,one1 rfl,ve _,ve _,ve _,one1 rfl,one1 rfl,ve _,ve _,ve _,one1 rfl,one1 rfl,ve _,ve _,ve _,trivial⟩) rfl (by intro X h;cases h) fun w14 hM=>?_
       try simp only [List.take_zero,List.take_succ_cons,List.drop_zero,List.drop_succ_cons,List.take_nil,List.drop_nil,List.nil_append,List.append_nil,List.cons_append] at hM
       exact sas hE rfl fun a hE=>sas hE rfl fun a hE=>qa (K11 (wp_ret (qk hE rfl (res_cellN rfl (hM.get 0 rfl) row39 rfl) rfl rfl ⟨(by rw [e1];(try rw [hk2]);simp only [setS,newS,zH,zV,zS,slotT,List.flatten_cons,List.flatten_nil,List.append_nil,List.append_assoc,List.cons_append,List.nil_append];try rfl),hM.pick [] rfl⟩)))
      trivial
     trivial
    ·replace hE := hE.cast 15 rfl (show _ = Value.int .i64 1 from congrArg (Value.int .i64) hfr)
     replace hE := hE.cast 42 rfl (show _ = Value.int .i64 1 from congrArg (Value.int .i64) hfr)
     have e1 : addS h x p b z = (setS h 1 (newS p b z x),1,0) := by simp [addS,hb19,hb30,hb35,hfr]
     refine sb hE rfl rfl bin_lss fun a hE=>?_
     replace hE := hE.cast 43 rfl (show _ = Value.bool false from (congrArg Value.bool (by decide)))
     refine sas hE rfl fun a hE=>qa (K9 (wcf hE rfl (wp_skip (qe (K6 (ww1 fun _ K10=>qz hM (by kernel_rfl) (fun _ => True) (fun _ => True) (.re [(0,true),(1,true),(7,true),(2,true),(3,true),(4,true),(5,false),(6,true),(8,true),(9,false)] (.fl 3 (.weak (.fl 3 (.or 5 (.re [(6,true),(8,true),(9,false)] (.fl 2 (.fl 0 (.cut (.or 9 (.cut (.re [] (.weak (.leaf 0)))) (.stop)))))) (.stop)))))) [(0,true),(1,true),(7,true),(2,true),(3,true),(4,true),(5,false),(6,true),(8,true),(9,false)] [(2,[(6,2),(8,2),(9,2)]),(3,[(5,3),(6,5),(8,3),(9,3)]),(4,[(5,4),(6,5),(8,4),(9,4)]),(5,[(6,5),(8,5),(9,5)]),(6,[(8,6),(9,6)]),(7,[(8,7),(9,8)]),(8,[(9,8)]),(9,[])] (by kernel_rfl) ?_))))))
     intro w11 hM' hww11;replace hM := hM'
     refine o_re (o_fl rfl (sm hE rfl fun a hE=>sm hE rfl fun a hE=>sf hE rfl fo39_2 fun a hE=>qa (qh (vc (fun _ => False) (fun _ _ => trivial) (o_fl rfl (ql hE rfl (hM.get 2 rfl) row34 rfl (by intro X h;cases h;simp) rfl fun a hE=>?_))))))
     refine ql hE rfl (hM.get 0 rfl) row26 rfl (by intro X h;cases h;simp) rfl fun a hE=>?_
     refine ql hE rfl (hM.get 3 rfl) row26 rfl (by intro X h;cases h;simp) rfl fun a hE=>?_
     refine qa (qh ?_)
     refine o_or rfl ?_ ?_
     ·refine qn hE rfl Tryz.call15 (wrap_c (kK p b z) [115,108,111,116] 0 x _ (hM.get 5 rfl) (hM.get 6 rfl) (vh p b z) hl_x (by have hl_0 : (kK p b z).length = 32 := (vh p b z);have hl_1 : [115,108,111,116].length = 4 := (by first | (simp;done) | (simp [*];done) | (simp;omega));have hl_3 : x.length = 32 := hl_x;first | omega | assumption | (simp;done) | (simp;omega) | decide) (by have hl_0 : (kK p b z).length = 32 := (vh p b z);have hl_1 : [115,108,111,116].length = 4 := (by first | (simp;done) | (simp [*];done) | (simp;omega));have hl_3 : x.length = 32 := hl_x;first | omega | assumption | (simp;done) | (simp;omega) | decide)) rfl ?_
      rintro e w12 ⟨rfl,hN⟩
      refine ⟨_,rfl,hN.sta0 _,fun a hE=>?_⟩
      replace hM : Mem _ _ w12 [_,_,_,_,_,_,_] := hM.call0 hN trivial;clear hN
      refine qa (qh (o_re (o_fl rfl ?_)))
      have hbd51_2_0 : b.length = 16 := hl_b
      have hbd51_3_0 : (wrapD (kK p b z) [115,108,111,116] 0 x).length = 32 := (wrapD_len (k := (kK p b z)) (l := [115,108,111,116]) (n := 0) (x := x) (by have hl_ax : x.length = 32 := hl_x;first | assumption | (simp;done)))
      have hbd51_3_1 : (tagB (kK p b z) [115,108,111,116] 0 (wrapD (kK p b z) [115,108,111,116] 0 x)).length = 32 := (tagB_len (kK p b z) [115,108,111,116] 0 (wrapD (kK p b z) [115,108,111,116] 0 x))
      refine vg [[.bool true],[.int .i64 z],bv b,([bv (wrapD (kK p b z) [115,108,111,116] 0 x),bv (tagB (kK p b z) [115,108,111,116] 0 (wrapD (kK p b z) [115,108,111,116] 0 x))] : List (List Value)).flatten] hE rfl zero36 (by kernel_rfl) fpl36 (by first | (simp [PartsOk,Value.cells,hbd51_2_0,hbd51_3_0,hbd51_3_1];done) | (simp [PartsOk,Value.cells,hbd51_2_0,hbd51_3_0,hbd51_3_1];omega)) rfl fun a hE=>?_
      replace hE := hE.cast 51 rfl (show _ = Value.agg ([[.bool true],[.int .i64 z],bv b,bv (wrapD (kK p b z) [115,108,111,116] 0 x),bv (tagB (kK p b z) [115,108,111,116] 0 (wrapD (kK p b z) [115,108,111,116] 0 x))] : List (List Value)).flatten.toArray from (by first | rfl | simp [setAll] | (simp only [setAll,List.set_cons_zero,List.set_cons_succ,List.flatten_cons,List.flatten_nil,List.append_nil,List.append_assoc,List.replicate_succ,List.replicate_zero])))
      refine qp (j := 1) hE rfl rfl arr37 rfl (by decide) rfl fun a hE=>?_
      refine qa (qh (o_fl rfl (qa (qh (o_cut (fun b => b = b5) ?_)))))
      refine o_or rfl ?_ ?_
      ·have hsl423_2 : b.length = 16 := hl_b
       have hsl423_3 : (wrapD (kK p b z) [115,108,111,116] 0 x).length = 32 := (wrapD_len (k := (kK p b z)) (l := [115,108,111,116]) (n := 0) (x := x) (by have hl_ax : x.length = 32 := hl_x;first | assumption | (simp;done)))
       have hsl423_4 : (tagB (kK p b z) [115,108,111,116] 0 (wrapD (kK p b z) [115,108,111,116] 0 x)).length = 32 := (tagB_len (kK p b z) [115,108,111,116] 0 (wrapD (kK p b z) [115,108,111,116] 0 x))
       replace hM : Mem _ _ w12 [_,_,_,_,_,_,_] := hM.pick [4,0,1,2,3,5,6] rfl
       refine qq 15 5 (vss := [[.bool true],[.int .i64 z],bv b,bv (wrapD (kK p b z) [115,108,111,116] 0 x),bv (tagB (kK p b z) [115,108,111,116] 0 (wrapD (kK p b z) [115,108,111,116] 0 x))]) hE rfl rfl hM rfl sz36 (by simp only [List.take_succ_cons,List.take_zero,List.drop_zero,List.drop_succ_cons];simp only [List.map_cons,List.map_nil,vj,List.length_cons,List.length_nil,List.length_replicate,hsl423_2,hsl423_3,hsl423_4]) (by decide) rfl (one_fl ⟨one1 rfl,one1 rfl,ve _,ve _,ve _,trivial⟩) rfl (by intro X h;cases h;rfl) fun w13 hM=>?_
       try simp only [List.take_zero,List.take_succ_cons,List.drop_zero,List.drop_succ_cons,List.take_nil,List.drop_nil,List.nil_append,List.append_nil,List.cons_append] at hM
       refine qa (qh (o_cut (fun _ => True) (o_re (vc (fun _ => False) (fun _ _ => trivial) (va rfl rfl (qa (q_ph (qa (K10 (ww1 fun _ K11=>wpp (ql hE rfl (hM.get 0 rfl) row39 rfl (by intro X h;cases h) rfl fun a hE=>?_)))))))))))
       replace hE := hE.cast 54 rfl (show _ = Value.agg ([[.int .i64 h.m],[.int .i64 h.r],[.bool h.v0.1],[.int .u64 ((h.v0.2.1 : Nat) : Int)],bv h.v0.2.2.1,bv h.v0.2.2.2,[.bool h.v1.1],[.int .u64 ((h.v1.2.1 : Nat) : Int)],bv h.v1.2.2.1,bv h.v1.2.2.2,[.bool h.s0.1],[.int .i64 h.s0.2.1],bv h.s0.2.2.1,bv h.s0.2.2.2.1,bv h.s0.2.2.2.2,[.bool true],[.int .i64 z],bv b,bv (wrapD (kK p b z) [115,108,111,116] 0 x),bv (tagB (kK p b z) [115,108,111,116] 0 (wrapD (kK p b z) [115,108,111,116] 0 x)),[.bool h.s2.1],[.int .i64 h.s2.2.1],bv h.s2.2.2.1,bv h.s2.2.2.2.1,bv h.s2.2.2.2.2,[.bool h.s3.1],[.int .i64 h.s3.2.1],bv h.s3.2.2.1,bv h.s3.2.2.2.1,bv h.s3.2.2.2.2] : List (List Value)).flatten.toArray from (by first | (simp only [List.flatten_cons,List.flatten_nil,List.append_nil,List.append_assoc];done) | rfl))
       refine sm hE rfl fun a hE=>?_
       have hsl442_4 : h.v0.2.2.1.length = 32 := hk_h.v0.2.1
       have hsl442_5 : h.v0.2.2.2.length = 32 := hk_h.v0.2.2
       have hsl442_8 : h.v1.2.2.1.length = 32 := hk_h.v1.2.1
       have hsl442_9 : h.v1.2.2.2.length = 32 := hk_h.v1.2.2
       have hsl442_12 : h.s0.2.2.1.length = 16 := hk_h.s0.2.1
       have hsl442_13 : h.s0.2.2.2.1.length = 32 := hk_h.s0.2.2.1
       have hsl442_14 : h.s0.2.2.2.2.length = 32 := hk_h.s0.2.2.2
       have hsl442_17 : b.length = 16 := hl_b
       have hsl442_18 : (wrapD (kK p b z) [115,108,111,116] 0 x).length = 32 := (wrapD_len (k := (kK p b z)) (l := [115,108,111,116]) (n := 0) (x := x) (by have hl_ax : x.length = 32 := hl_x;first | assumption | (simp;done)))
       have hsl442_19 : (tagB (kK p b z) [115,108,111,116] 0 (wrapD (kK p b z) [115,108,111,116] 0 x)).length = 32 := (tagB_len (kK p b z) [115,108,111,116] 0 (wrapD (kK p b z) [115,108,111,116] 0 x))
       have hsl442_22 : h.s2.2.2.1.length = 16 := hk_h.s2.2.1
       have hsl442_23 : h.s2.2.2.2.1.length = 32 := hk_h.s2.2.2.1
       have hsl442_24 : h.s2.2.2.2.2.length = 32 := hk_h.s2.2.2.2
       have hsl442_27 : h.s3.2.2.1.length = 16 := hk_h.s3.2.1
       have hsl442_28 : h.s3.2.2.2.1.length = 32 := hk_h.s3.2.2.1
       have hsl442_29 : h.s3.2.2.2.2.length = 32 := hk_h.s3.2.2.2
       replace hM : Mem _ _ w13 [_,_,_,_,_,_,_] := hM.pick [2,0,1,3,4,5,6] rfl
       refine qq 0 30 (vss := [[.int .i64 h.m],[.int .i64 h.r],[.bool h.v0.1],[.int .u64 ((h.v0.2.1 : Nat) : Int)],bv h.v0.2.2.1,bv h.v0.2.2.2,[.bool h.v1.1],[.int .u64 ((h.v1.2.1 : Nat) : Int)],bv h.v1.2.2.1,bv h.v1.2.2.2,[.bool h.s0.1],[.int .i64 h.s0.2.1],bv h.s0.2.2.1,bv h.s0.2.2.2.1,bv h.s0.2.2.2.2,[.bool true],[.int .i64 z],bv b,bv (wrapD (kK p b z) [115,108,111,116] 0 x),bv (tagB (kK p b z) [115,108,111,116] 0 (wrapD (kK p b z) [115,108,111,116] 0 x)),[.bool h.s2.1],[.int .i64 h.s2.2.1],bv h.s2.2.2.1,bv h.s2.2.2.2.1,bv h.s2.2.2.2.2,[.bool h.s3.1],[.int .i64 h.s3.2.1],bv h.s3.2.2.1,bv h.s3.2.2.2.1,bv h.s3.2.2.2.2]) hE rfl rfl hM rfl sz39 (by simp only [List.take_succ_cons,List.take_zero,List.drop_zero,List.drop_succ_cons];simp only [List.map_cons,List.map_nil,vj,List.length_cons,List.length_nil,List.length_replicate,hsl442_4,hsl442_5,hsl442_8,hsl442_9,hsl442_12,hsl442_13,hsl442_14,hsl442_17,hsl442_18,hsl442_19,hsl442_22,hsl442_23,hsl442_24,hsl442_27,hsl442_28,hsl442_29]) (by decide) rfl (one_fl ⟨one1 rfl,one1 rfl,one1 rfl,one1 rfl,ve _,ve _,one1 rfl,one1 rfl,ve _,ve _,one1 rfl,one1 rfl,ve _,ve _,ve _,one1 rfl,one1 rfl,ve _,ve _,ve _,one1 rfl,one1 rfl,ve _,ve _,ve _,one1 rfl,one1 rfl,ve _,ve _,ve _,trivial⟩) rfl (by intro X h;cases h) fun w14 hM=>?_
       try simp only [List.take_zero,List.take_succ_cons,List.drop_zero,List.drop_succ_cons,List.take_nil,List.drop_nil,List.nil_append,List.append_nil,List.cons_append] at hM
       exact sas hE rfl fun a hE=>sas hE rfl fun a hE=>qa (K11 (wp_ret (qk hE rfl (res_cellN rfl (hM.get 0 rfl) row39 rfl) rfl rfl ⟨(by rw [e1];(try rw [hk2]);simp only [setS,newS,zH,zV,zS,slotT,List.flatten_cons,List.flatten_nil,List.append_nil,List.append_assoc,List.cons_append,List.nil_append];try rfl),hM.pick [] rfl⟩)))
      trivial
     trivial
    ·replace hE := hE.cast 15 rfl (show _ = Value.int .i64 2 from congrArg (Value.int .i64) hfr)
     replace hE := hE.cast 42 rfl (show _ = Value.int .i64 2 from congrArg (Value.int .i64) hfr)
     have e1 : addS h x p b z = (setS h 2 (newS p b z x),2,0) := by simp [addS,hb19,hb30,hb35,hfr]
     refine sb hE rfl rfl bin_lss fun a hE=>?_
     replace hE := hE.cast 43 rfl (show _ = Value.bool false from (congrArg Value.bool (by decide)))
     refine sas hE rfl fun a hE=>qa (K9 (wcf hE rfl (wp_skip (qe (K6 (ww1 fun _ K10=>qz hM (by kernel_rfl) (fun _ => True) (fun _ => True) (.re [(0,true),(1,true),(7,true),(2,true),(3,true),(4,true),(5,false),(6,true),(8,true),(9,false)] (.fl 3 (.weak (.fl 3 (.or 5 (.re [(6,true),(8,true),(9,false)] (.fl 2 (.fl 0 (.cut (.or 9 (.cut (.re [] (.weak (.leaf 0)))) (.stop)))))) (.stop)))))) [(0,true),(1,true),(7,true),(2,true),(3,true),(4,true),(5,false),(6,true),(8,true),(9,false)] [(2,[(6,2),(8,2),(9,2)]),(3,[(5,3),(6,5),(8,3),(9,3)]),(4,[(5,4),(6,5),(8,4),(9,4)]),(5,[(6,5),(8,5),(9,5)]),(6,[(8,6),(9,6)]),(7,[(8,7),(9,8)]),(8,[(9,8)]),(9,[])] (by kernel_rfl) ?_))))))
     intro w11 hM' hww11;replace hM := hM'
     refine o_re (o_fl rfl (sm hE rfl fun a hE=>sm hE rfl fun a hE=>sf hE rfl fo39_2 fun a hE=>qa (qh (vc (fun _ => False) (fun _ _ => trivial) (o_fl rfl (ql hE rfl (hM.get 2 rfl) row34 rfl (by intro X h;cases h;simp) rfl fun a hE=>?_))))))
     refine ql hE rfl (hM.get 0 rfl) row26 rfl (by intro X h;cases h;simp) rfl fun a hE=>?_
     refine ql hE rfl (hM.get 3 rfl) row26 rfl (by intro X h;cases h;simp) rfl fun a hE=>?_
     refine qa (qh ?_)
     refine o_or rfl ?_ ?_
     ·refine qn hE rfl Tryz.call15 (wrap_c (kK p b z) [115,108,111,116] 0 x _ (hM.get 5 rfl) (hM.get 6 rfl) (vh p b z) hl_x (by have hl_0 : (kK p b z).length = 32 := (vh p b z);have hl_1 : [115,108,111,116].length = 4 := (by first | (simp;done) | (simp [*];done) | (simp;omega));have hl_3 : x.length = 32 := hl_x;first | omega | assumption | (simp;done) | (simp;omega) | decide) (by have hl_0 : (kK p b z).length = 32 := (vh p b z);have hl_1 : [115,108,111,116].length = 4 := (by first | (simp;done) | (simp [*];done) | (simp;omega));have hl_3 : x.length = 32 := hl_x;first | omega | assumption | (simp;done) | (simp;omega) | decide)) rfl ?_
      rintro e w12 ⟨rfl,hN⟩
      refine ⟨_,rfl,hN.sta0 _,fun a hE=>?_⟩
      replace hM : Mem _ _ w12 [_,_,_,_,_,_,_] := hM.call0 hN trivial;clear hN
      refine qa (qh (o_re (o_fl rfl ?_)))
      have hbd51_2_0 : b.length = 16 := hl_b
      have hbd51_3_0 : (wrapD (kK p b z) [115,108,111,116] 0 x).length = 32 := (wrapD_len (k := (kK p b z)) (l := [115,108,111,116]) (n := 0) (x := x) (by have hl_ax : x.length = 32 := hl_x;first | assumption | (simp;done)))
      have hbd51_3_1 : (tagB (kK p b z) [115,108,111,116] 0 (wrapD (kK p b z) [115,108,111,116] 0 x)).length = 32 := (tagB_len (kK p b z) [115,108,111,116] 0 (wrapD (kK p b z) [115,108,111,116] 0 x))
      refine vg [[.bool true],[.int .i64 z],bv b,([bv (wrapD (kK p b z) [115,108,111,116] 0 x),bv (tagB (kK p b z) [115,108,111,116] 0 (wrapD (kK p b z) [115,108,111,116] 0 x))] : List (List Value)).flatten] hE rfl zero36 (by kernel_rfl) fpl36 (by first | (simp [PartsOk,Value.cells,hbd51_2_0,hbd51_3_0,hbd51_3_1];done) | (simp [PartsOk,Value.cells,hbd51_2_0,hbd51_3_0,hbd51_3_1];omega)) rfl fun a hE=>?_
      replace hE := hE.cast 51 rfl (show _ = Value.agg ([[.bool true],[.int .i64 z],bv b,bv (wrapD (kK p b z) [115,108,111,116] 0 x),bv (tagB (kK p b z) [115,108,111,116] 0 (wrapD (kK p b z) [115,108,111,116] 0 x))] : List (List Value)).flatten.toArray from (by first | rfl | simp [setAll] | (simp only [setAll,List.set_cons_zero,List.set_cons_succ,List.flatten_cons,List.flatten_nil,List.append_nil,List.append_assoc,List.replicate_succ,List.replicate_zero])))
      refine qp (j := 2) hE rfl rfl arr37 rfl (by decide) rfl fun a hE=>?_
      refine qa (qh (o_fl rfl (qa (qh (o_cut (fun b => b = b5) ?_)))))
      refine o_or rfl ?_ ?_
      ·have hsl518_2 : b.length = 16 := hl_b
       have hsl518_3 : (wrapD (kK p b z) [115,108,111,116] 0 x).length = 32 := (wrapD_len (k := (kK p b z)) (l := [115,108,111,116]) (n := 0) (x := x) (by have hl_ax : x.length = 32 := hl_x;first | assumption | (simp;done)))
       have hsl518_4 : (tagB (kK p b z) [115,108,111,116] 0 (wrapD (kK p b z) [115,108,111,116] 0 x)).length = 32 := (tagB_len (kK p b z) [115,108,111,116] 0 (wrapD (kK p b z) [115,108,111,116] 0 x))
       replace hM : Mem _ _ w12 [_,_,_,_,_,_,_] := hM.pick [4,0,1,2,3,5,6] rfl
       refine qq 20 5 (vss := [[.bool true],[.int .i64 z],bv b,bv (wrapD (kK p b z) [115,108,111,116] 0 x),bv (tagB (kK p b z) [115,108,111,116] 0 (wrapD (kK p b z) [115,108,111,116] 0 x))]) hE rfl rfl hM rfl sz36 (by simp only [List.take_succ_cons,List.take_zero,List.drop_zero,List.drop_succ_cons];simp only [List.map_cons,List.map_nil,vj,List.length_cons,List.length_nil,List.length_replicate,hsl518_2,hsl518_3,hsl518_4]) (by decide) rfl (one_fl ⟨one1 rfl,one1 rfl,ve _,ve _,ve _,trivial⟩) rfl (by intro X h;cases h;rfl) fun w13 hM=>?_
       try simp only [List.take_zero,List.take_succ_cons,List.drop_zero,List.drop_succ_cons,List.take_nil,List.drop_nil,List.nil_append,List.append_nil,List.cons_append] at hM
       refine qa (qh (o_cut (fun _ => True) (o_re (vc (fun _ => False) (fun _ _ => trivial) (va rfl rfl (qa (q_ph (qa (K10 (ww1 fun _ K11=>wpp (ql hE rfl (hM.get 0 rfl) row39 rfl (by intro X h;cases h) rfl fun a hE=>?_)))))))))))
       replace hE := hE.cast 54 rfl (show _ = Value.agg ([[.int .i64 h.m],[.int .i64 h.r],[.bool h.v0.1],[.int .u64 ((h.v0.2.1 : Nat) : Int)],bv h.v0.2.2.1,bv h.v0.2.2.2,[.bool h.v1.1],[.int .u64 ((h.v1.2.1 : Nat) : Int)],bv h.v1.2.2.1,bv h.v1.2.2.2,[.bool h.s0.1],[.int .i64 h.s0.2.1],bv h.s0.2.2.1,bv h.s0.2.2.2.1,bv h.s0.2.2.2.2,[.bool h.s1.1],[.int .i64 h.s1.2.1],bv h.s1.2.2.1,bv h.s1.2.2.2.1,bv h.s1.2.2.2.2,[.bool true],[.int .i64 z],bv b,bv (wrapD (kK p b z) [115,108,111,116] 0 x),bv (tagB (kK p b z) [115,108,111,116] 0 (wrapD (kK p b z) [115,108,111,116] 0 x)),[.bool h.s3.1],[.int .i64 h.s3.2.1],bv h.s3.2.2.1,bv h.s3.2.2.2.1,bv h.s3.2.2.2.2] : List (List Value)).flatten.toArray from (by first | (simp only [List.flatten_cons,List.flatten_nil,List.append_nil,List.append_assoc];done) | rfl))
       refine sm hE rfl fun a hE=>?_
       have hsl537_4 : h.v0.2.2.1.length = 32 := hk_h.v0.2.1
       have hsl537_5 : h.v0.2.2.2.length = 32 := hk_h.v0.2.2
       have hsl537_8 : h.v1.2.2.1.length = 32 := hk_h.v1.2.1
       have hsl537_9 : h.v1.2.2.2.length = 32 := hk_h.v1.2.2
       have hsl537_12 : h.s0.2.2.1.length = 16 := hk_h.s0.2.1
       have hsl537_13 : h.s0.2.2.2.1.length = 32 := hk_h.s0.2.2.1
       have hsl537_14 : h.s0.2.2.2.2.length = 32 := hk_h.s0.2.2.2
       have hsl537_17 : h.s1.2.2.1.length = 16 := hk_h.s1.2.1
       have hsl537_18 : h.s1.2.2.2.1.length = 32 := hk_h.s1.2.2.1
       have hsl537_19 : h.s1.2.2.2.2.length = 32 := hk_h.s1.2.2.2
       have hsl537_22 : b.length = 16 := hl_b
       have hsl537_23 : (wrapD (kK p b z) [115,108,111,116] 0 x).length = 32 := (wrapD_len (k := (kK p b z)) (l := [115,108,111,116]) (n := 0) (x := x) (by have hl_ax : x.length = 32 := hl_x;first | assumption | (simp;done)))
       have hsl537_24 : (tagB (kK p b z) [115,108,111,116] 0 (wrapD (kK p b z) [115,108,111,116] 0 x)).length = 32 := (tagB_len (kK p b z) [115,108,111,116] 0 (wrapD (kK p b z) [115,108,111,116] 0 x))
       have hsl537_27 : h.s3.2.2.1.length = 16 := hk_h.s3.2.1
       have hsl537_28 : h.s3.2.2.2.1.length = 32 := hk_h.s3.2.2.1
       have hsl537_29 : h.s3.2.2.2.2.length = 32 := hk_h.s3.2.2.2
       replace hM : Mem _ _ w13 [_,_,_,_,_,_,_] := hM.pick [2,0,1,3,4,5,6] rfl
       refine qq 0 30 (vss := [[.int .i64 h.m],[.int .i64 h.r],[.bool h.v0.1],[.int .u64 ((h.v0.2.1 : Nat) : Int)],bv h.v0.2.2.1,bv h.v0.2.2.2,[.bool h.v1.1],[.int .u64 ((h.v1.2.1 : Nat) : Int)],bv h.v1.2.2.1,bv h.v1.2.2.2,[.bool h.s0.1],[.int .i64 h.s0.2.1],bv h.s0.2.2.1,bv h.s0.2.2.2.1,bv h.s0.2.2.2.2,[.bool h.s1.1],[.int .i64 h.s1.2.1],bv h.s1.2.2.1,bv h.s1.2.2.2.1,bv h.s1.2.2.2.2,[.bool true],[.int .i64 z],bv b,bv (wrapD (kK p b z) [115,108,111,116] 0 x),bv (tagB (kK p b z) [115,108,111,116] 0 (wrapD (kK p b z) [115,108,111,116] 0 x)),[.bool h.s3.1],[.int .i64 h.s3.2.1],bv h.s3.2.2.1,bv h.s3.2.2.2.1,bv h.s3.2.2.2.2]) hE rfl rfl hM rfl sz39 (by simp only [List.take_succ_cons,List.take_zero,List.drop_zero,List.drop_succ_cons];simp only [List.map_cons,List.map_nil,vj,List.length_cons,List.length_nil,List.length_replicate,hsl537_4,hsl537_5,hsl537_8,hsl537_9,hsl537_12,hsl537_13,hsl537_14,hsl537_17,hsl537_18,hsl537_19,hsl537_22,hsl537_23,hsl537_24,hsl537_27,hsl537_28,hsl537_29]) (by decide) rfl (one_fl ⟨one1 rfl,one1 rfl,one1 rfl,one1 rfl,ve _,ve _,one1 rfl,one1 rfl,ve _,ve _,one1 rfl,one1 rfl,ve _,ve _,ve _,one1 rfl,one1 rfl,ve _,ve _,ve _,one1 rfl,one1 rfl,ve _,ve _,ve _,one1 rfl,one1 rfl,ve _,ve _,ve _,trivial⟩) rfl (by intro X h;cases h) fun w14 hM=>?_
       try simp only [List.take_zero,List.take_succ_cons,List.drop_zero,List.drop_succ_cons,List.take_nil,List.drop_nil,List.nil_append,List.append_nil,List.cons_append] at hM
       exact sas hE rfl fun a hE=>sas hE rfl fun a hE=>qa (K11 (wp_ret (qk hE rfl (res_cellN rfl (hM.get 0 rfl) row39 rfl) rfl rfl ⟨(by rw [e1];(try rw [hk2]);simp only [setS,newS,zH,zV,zS,slotT,List.flatten_cons,List.flatten_nil,List.append_nil,List.append_assoc,List.cons_append,List.nil_append];try rfl),hM.pick [] rfl⟩)))
      trivial
     trivial
    ·replace hE := hE.cast 15 rfl (show _ = Value.int .i64 3 from congrArg (Value.int .i64) hfr)
     replace hE := hE.cast 42 rfl (show _ = Value.int .i64 3 from congrArg (Value.int .i64) hfr)
     have e1 : addS h x p b z = (setS h 3 (newS p b z x),3,0) := by simp [addS,hb19,hb30,hb35,hfr]
     refine sb hE rfl rfl bin_lss fun a hE=>?_
     replace hE := hE.cast 43 rfl (show _ = Value.bool false from (congrArg Value.bool (by decide)))
     refine sas hE rfl fun a hE=>qa (K9 (wcf hE rfl (wp_skip (qe (K6 (ww1 fun _ K10=>qz hM (by kernel_rfl) (fun _ => True) (fun _ => True) (.re [(0,true),(1,true),(7,true),(2,true),(3,true),(4,true),(5,false),(6,true),(8,true),(9,false)] (.fl 3 (.weak (.fl 3 (.or 5 (.re [(6,true),(8,true),(9,false)] (.fl 2 (.fl 0 (.cut (.or 9 (.cut (.re [] (.weak (.leaf 0)))) (.stop)))))) (.stop)))))) [(0,true),(1,true),(7,true),(2,true),(3,true),(4,true),(5,false),(6,true),(8,true),(9,false)] [(2,[(6,2),(8,2),(9,2)]),(3,[(5,3),(6,5),(8,3),(9,3)]),(4,[(5,4),(6,5),(8,4),(9,4)]),(5,[(6,5),(8,5),(9,5)]),(6,[(8,6),(9,6)]),(7,[(8,7),(9,8)]),(8,[(9,8)]),(9,[])] (by kernel_rfl) ?_))))))
     intro w11 hM' hww11;replace hM := hM'
     refine o_re (o_fl rfl (sm hE rfl fun a hE=>sm hE rfl fun a hE=>sf hE rfl fo39_2 fun a hE=>qa (qh (vc (fun _ => False) (fun _ _ => trivial) (o_fl rfl (ql hE rfl (hM.get 2 rfl) row34 rfl (by intro X h;cases h;simp) rfl fun a hE=>?_))))))
     refine ql hE rfl (hM.get 0 rfl) row26 rfl (by intro X h;cases h;simp) rfl fun a hE=>?_
     refine ql hE rfl (hM.get 3 rfl) row26 rfl (by intro X h;cases h;simp) rfl fun a hE=>?_
     refine qa (qh ?_)
     refine o_or rfl ?_ ?_
     ·refine qn hE rfl Tryz.call15 (wrap_c (kK p b z) [115,108,111,116] 0 x _ (hM.get 5 rfl) (hM.get 6 rfl) (vh p b z) hl_x (by have hl_0 : (kK p b z).length = 32 := (vh p b z);have hl_1 : [115,108,111,116].length = 4 := (by first | (simp;done) | (simp [*];done) | (simp;omega));have hl_3 : x.length = 32 := hl_x;first | omega | assumption | (simp;done) | (simp;omega) | decide) (by have hl_0 : (kK p b z).length = 32 := (vh p b z);have hl_1 : [115,108,111,116].length = 4 := (by first | (simp;done) | (simp [*];done) | (simp;omega));have hl_3 : x.length = 32 := hl_x;first | omega | assumption | (simp;done) | (simp;omega) | decide)) rfl ?_
      rintro e w12 ⟨rfl,hN⟩
      refine ⟨_,rfl,hN.sta0 _,fun a hE=>?_⟩
      replace hM : Mem _ _ w12 [_,_,_,_,_,_,_] := hM.call0 hN trivial;clear hN
      refine qa (qh (o_re (o_fl rfl ?_)))
      have hbd51_2_0 : b.length = 16 := hl_b
      have hbd51_3_0 : (wrapD (kK p b z) [115,108,111,116] 0 x).length = 32 := (wrapD_len (k := (kK p b z)) (l := [115,108,111,116]) (n := 0) (x := x) (by have hl_ax : x.length = 32 := hl_x;first | assumption | (simp;done)))
      have hbd51_3_1 : (tagB (kK p b z) [115,108,111,116] 0 (wrapD (kK p b z) [115,108,111,116] 0 x)).length = 32 := (tagB_len (kK p b z) [115,108,111,116] 0 (wrapD (kK p b z) [115,108,111,116] 0 x))
      refine vg [[.bool true],[.int .i64 z],bv b,([bv (wrapD (kK p b z) [115,108,111,116] 0 x),bv (tagB (kK p b z) [115,108,111,116] 0 (wrapD (kK p b z) [115,108,111,116] 0 x))] : List (List Value)).flatten] hE rfl zero36 (by kernel_rfl) fpl36 (by first | (simp [PartsOk,Value.cells,hbd51_2_0,hbd51_3_0,hbd51_3_1];done) | (simp [PartsOk,Value.cells,hbd51_2_0,hbd51_3_0,hbd51_3_1];omega)) rfl fun a hE=>?_
      replace hE := hE.cast 51 rfl (show _ = Value.agg ([[.bool true],[.int .i64 z],bv b,bv (wrapD (kK p b z) [115,108,111,116] 0 x),bv (tagB (kK p b z) [115,108,111,116] 0 (wrapD (kK p b z) [115,108,111,116] 0 x))] : List (List Value)).flatten.toArray from (by first | rfl | simp [setAll] | (simp only [setAll,List.set_cons_zero,List.set_cons_succ,List.flatten_cons,List.flatten_nil,List.append_nil,List.append_assoc,List.replicate_succ,List.replicate_zero])))
      refine qp (j := 3) hE rfl rfl arr37 rfl (by decide) rfl fun a hE=>?_
      refine qa (qh (o_fl rfl (qa (qh (o_cut (fun b => b = b5) ?_)))))
      refine o_or rfl ?_ ?_
      ·have hsl613_2 : b.length = 16 := hl_b
       have hsl613_3 : (wrapD (kK p b z) [115,108,111,116] 0 x).length = 32 := (wrapD_len (k := (kK p b z)) (l := [115,108,111,116]) (n := 0) (x := x) (by have hl_ax : x.length = 32 := hl_x;first | assumption | (simp;done)))
       have hsl613_4 : (tagB (kK p b z) [115,108,111,116] 0 (wrapD (kK p b z) [115,108,111,116] 0 x)).length = 32 := (tagB_len (kK p b z) [115,108,111,116] 0 (wrapD (kK p b z) [115,108,111,116] 0 x))
       replace hM : Mem _ _ w12 [_,_,_,_,_,_,_] := hM.pick [4,0,1,2,3,5,6] rfl
       refine qq 25 5 (vss := [[.bool true],[.int .i64 z],bv b,bv (wrapD (kK p b z) [115,108,111,116] 0 x),bv (tagB (kK p b z) [115,108,111,116] 0 (wrapD (kK p b z) [115,108,111,116] 0 x))]) hE rfl rfl hM rfl sz36 (by simp only [List.take_succ_cons,List.take_zero,List.drop_zero,List.drop_succ_cons];simp only [List.map_cons,List.map_nil,vj,List.length_cons,List.length_nil,List.length_replicate,hsl613_2,hsl613_3,hsl613_4]) (by decide) rfl (one_fl ⟨one1 rfl,one1 rfl,ve _,ve _,ve _,trivial⟩) rfl (by intro X h;cases h;rfl) fun w13 hM=>?_
       try simp only [List.take_zero,List.take_succ_cons,List.drop_zero,List.drop_succ_cons,List.take_nil,List.drop_nil,List.nil_append,List.append_nil,List.cons_append] at hM
       refine qa (qh (o_cut (fun _ => True) (o_re (vc (fun _ => False) (fun _ _ => trivial) (va rfl rfl (qa (q_ph (qa (K10 (ww1 fun _ K11=>wpp (ql hE rfl (hM.get 0 rfl) row39 rfl (by intro X h;cases h) rfl fun a hE=>?_)))))))))))
       replace hE := hE.cast 54 rfl (show _ = Value.agg ([[.int .i64 h.m],[.int .i64 h.r],[.bool h.v0.1],[.int .u64 ((h.v0.2.1 : Nat) : Int)],bv h.v0.2.2.1,bv h.v0.2.2.2,[.bool h.v1.1],[.int .u64 ((h.v1.2.1 : Nat) : Int)],bv h.v1.2.2.1,bv h.v1.2.2.2,[.bool h.s0.1],[.int .i64 h.s0.2.1],bv h.s0.2.2.1,bv h.s0.2.2.2.1,bv h.s0.2.2.2.2,[.bool h.s1.1],[.int .i64 h.s1.2.1],bv h.s1.2.2.1,bv h.s1.2.2.2.1,bv h.s1.2.2.2.2,[.bool h.s2.1],[.int .i64 h.s2.2.1],bv h.s2.2.2.1,bv h.s2.2.2.2.1,bv h.s2.2.2.2.2,[.bool true],[.int .i64 z],bv b,bv (wrapD (kK p b z) [115,108,111,116] 0 x),bv (tagB (kK p b z) [115,108,111,116] 0 (wrapD (kK p b z) [115,108,111,116] 0 x))] : List (List Value)).flatten.toArray from (by first | (simp only [List.flatten_cons,List.flatten_nil,List.append_nil,List.append_assoc];done) | rfl))
       refine sm hE rfl fun a hE=>?_
       have hsl632_4 : h.v0.2.2.1.length = 32 := hk_h.v0.2.1
       have hsl632_5 : h.v0.2.2.2.length = 32 := hk_h.v0.2.2
       have hsl632_8 : h.v1.2.2.1.length = 32 := hk_h.v1.2.1
       have hsl632_9 : h.v1.2.2.2.length = 32 := hk_h.v1.2.2
       have hsl632_12 : h.s0.2.2.1.length = 16 := hk_h.s0.2.1
       have hsl632_13 : h.s0.2.2.2.1.length = 32 := hk_h.s0.2.2.1
       have hsl632_14 : h.s0.2.2.2.2.length = 32 := hk_h.s0.2.2.2
       have hsl632_17 : h.s1.2.2.1.length = 16 := hk_h.s1.2.1
       have hsl632_18 : h.s1.2.2.2.1.length = 32 := hk_h.s1.2.2.1
       have hsl632_19 : h.s1.2.2.2.2.length = 32 := hk_h.s1.2.2.2
       have hsl632_22 : h.s2.2.2.1.length = 16 := hk_h.s2.2.1
       have hsl632_23 : h.s2.2.2.2.1.length = 32 := hk_h.s2.2.2.1
       have hsl632_24 : h.s2.2.2.2.2.length = 32 := hk_h.s2.2.2.2
       have hsl632_27 : b.length = 16 := hl_b
       have hsl632_28 : (wrapD (kK p b z) [115,108,111,116] 0 x).length = 32 := (wrapD_len (k := (kK p b z)) (l := [115,108,111,116]) (n := 0) (x := x) (by have hl_ax : x.length = 32 := hl_x;first | assumption | (simp;done)))
       have hsl632_29 : (tagB (kK p b z) [115,108,111,116] 0 (wrapD (kK p b z) [115,108,111,116] 0 x)).length = 32 := (tagB_len (kK p b z) [115,108,111,116] 0 (wrapD (kK p b z) [115,108,111,116] 0 x))
       replace hM : Mem _ _ w13 [_,_,_,_,_,_,_] := hM.pick [2,0,1,3,4,5,6] rfl
       refine qq 0 30 (vss := [[.int .i64 h.m],[.int .i64 h.r],[.bool h.v0.1],[.int .u64 ((h.v0.2.1 : Nat) : Int)],bv h.v0.2.2.1,bv h.v0.2.2.2,[.bool h.v1.1],[.int .u64 ((h.v1.2.1 : Nat) : Int)],bv h.v1.2.2.1,bv h.v1.2.2.2,[.bool h.s0.1],[.int .i64 h.s0.2.1],bv h.s0.2.2.1,bv h.s0.2.2.2.1,bv h.s0.2.2.2.2,[.bool h.s1.1],[.int .i64 h.s1.2.1],bv h.s1.2.2.1,bv h.s1.2.2.2.1,bv h.s1.2.2.2.2,[.bool h.s2.1],[.int .i64 h.s2.2.1],bv h.s2.2.2.1,bv h.s2.2.2.2.1,bv h.s2.2.2.2.2,[.bool true],[.int .i64 z],bv b,bv (wrapD (kK p b z) [115,108,111,116] 0 x),bv (tagB (kK p b z) [115,108,111,116] 0 (wrapD (kK p b z) [115,108,111,116] 0 x))]) hE rfl rfl hM rfl sz39 (by simp only [List.take_succ_cons,List.take_zero,List.drop_zero,List.drop_succ_cons];simp only [List.map_cons,List.map_nil,vj,List.length_cons,List.length_nil,List.length_replicate,hsl632_4,hsl632_5,hsl632_8,hsl632_9,hsl632_12,hsl632_13,hsl632_14,hsl632_17,hsl632_18,hsl632_19,hsl632_22,hsl632_23,hsl632_24,hsl632_27,hsl632_28,hsl632_29]) (by decide) rfl (one_fl ⟨one1 rfl,one1 rfl,one1 rfl,one1 rfl,ve _,ve _,one1 rfl,one1 rfl,ve _,ve _,one1 rfl,one1 rfl,ve _,ve _,ve _,one1 rfl,one1 rfl,ve _,ve _,ve _,one1 rfl,one1 rfl,ve _,ve _,ve _,one1 rfl,one1 rfl,ve _,ve _,ve _,trivial⟩) rfl (by intro X h;cases h) fun w14 hM=>?_
       try simp only [List.take_zero,List.take_succ_cons,List.drop_zero,List.drop_succ_cons,List.take_nil,List.drop_nil,List.nil_append,List.append_nil,List.cons_append] at hM
       exact sas hE rfl fun a hE=>sas hE rfl fun a hE=>qa (K11 (wp_ret (qk hE rfl (res_cellN rfl (hM.get 0 rfl) row39 rfl) rfl rfl ⟨(by rw [e1];(try rw [hk2]);simp only [setS,newS,zH,zV,zS,slotT,List.flatten_cons,List.flatten_nil,List.append_nil,List.append_assoc,List.cons_append,List.nil_append];try rfl),hM.pick [] rfl⟩)))
      trivial
     trivial
end Go.Proofs.YtniekapfoaiieaaGreatDoor
