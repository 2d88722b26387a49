/- Walks of functions of the given program that the claim reaches. -/
import Derived.Test.YtniekapfoaiieaaDoorLj
set_option linter.unusedSimpArgs false
set_option linter.unusedVariables false
namespace Go.Proofs.YtniekapfoaiieaaDoor
open Go Go.Kx
theorem fo59_2 : fieldOff Tryd.prog 59 2 = some 2 := by kernel_rfl
theorem row57 : RowT Tryd.prog 57 16 := RowT.of Tryd.underlying57 rfl (by kernel_rfl)
theorem fo59_3 : fieldOff Tryd.prog 59 3 = some 18 := by kernel_rfl
theorem sl77 : SlT Tryd.prog 77 3 1 8 := ⟨Tryd.underlying77,by kernel_rfl,by kernel_rfl,.int .i64 0,by kernel_rfl,rfl⟩
theorem smay_c (h : Hd) (p : List UInt8) (w : World) (hk_h : OkHd h) : Calls Tryd.prog 55 #[.agg ([[.int .i64 h.m],[.int .i64 h.r],[.bool h.v0.1],[.int .u64 ((h.v0.2.1 : Nat) : Int)],bv h.v0.2.2.1,bv h.v0.2.2.2,[.bool h.v1.1],[.int .u64 ((h.v1.2.1 : Nat) : Int)],bv h.v1.2.2.1,bv h.v1.2.2.2,[.bool h.s0.1],[.int .i64 h.s0.2.1],bv h.s0.2.2.1,bv h.s0.2.2.2.1,bv h.s0.2.2.2.2,[.bool h.s1.1],[.int .i64 h.s1.2.1],bv h.s1.2.2.1,bv h.s1.2.2.2.1,bv h.s1.2.2.2.2,[.bool h.s2.1],[.int .i64 h.s2.2.1],bv h.s2.2.2.1,bv h.s2.2.2.2.1,bv h.s2.2.2.2.2,[.bool h.s3.1],[.int .i64 h.s3.2.1],bv h.s3.2.2.1,bv h.s3.2.2.2.1,bv h.s3.2.2.2.2] : List (List Value)).flatten.toArray,.string (str p)] w fun e w' => e = .returned (.bool (mayS h p)) ∧ Mem w [] w' [] := by
 have hM := Mem.start0 w
 refine f_enter 19 Tryd.func55 rfl rfl rfl ?_
 intro a hE
 replace hE : Env a 19 [(0,_),(1,_)] := hE
 refine wp_seq_k fun K1 hK1=>wp_plain [false,true] rfl rfl ?_
 have hbl2_4 : h.v0.2.2.1.length = 32 := hk_h.v0.2.1
 have hbl2_5 : h.v0.2.2.2.length = 32 := hk_h.v0.2.2
 have hbl2_8 : h.v1.2.2.1.length = 32 := hk_h.v1.2.1
 have hbl2_9 : h.v1.2.2.2.length = 32 := hk_h.v1.2.2
 have hbl2_12 : h.s0.2.2.1.length = 16 := hk_h.s0.2.1
 have hbl2_13 : h.s0.2.2.2.1.length = 32 := hk_h.s0.2.2.1
 have hbl2_14 : h.s0.2.2.2.2.length = 32 := hk_h.s0.2.2.2
 have hbl2_17 : h.s1.2.2.1.length = 16 := hk_h.s1.2.1
 have hbl2_18 : h.s1.2.2.2.1.length = 32 := hk_h.s1.2.2.1
 have hbl2_19 : h.s1.2.2.2.2.length = 32 := hk_h.s1.2.2.2
 have hbl2_22 : h.s2.2.2.1.length = 16 := hk_h.s2.2.1
 have hbl2_23 : h.s2.2.2.2.1.length = 32 := hk_h.s2.2.2.1
 have hbl2_24 : h.s2.2.2.2.2.length = 32 := hk_h.s2.2.2.2
 have hbl2_27 : h.s3.2.2.1.length = 16 := hk_h.s3.2.1
 have hbl2_28 : h.s3.2.2.2.1.length = 32 := hk_h.s3.2.2.1
 have hbl2_29 : h.s3.2.2.2.2.length = 32 := hk_h.s3.2.2.2
 refine s_box (ss := [[.int .i64 h.m],[.int .i64 h.r],[.bool h.v0.1],[.int .u64 ((h.v0.2.1 : Nat) : Int)],bv h.v0.2.2.1,bv h.v0.2.2.2,[.bool h.v1.1],[.int .u64 ((h.v1.2.1 : Nat) : Int)],bv h.v1.2.2.1,bv h.v1.2.2.2,[.bool h.s0.1],[.int .i64 h.s0.2.1],bv h.s0.2.2.1,bv h.s0.2.2.2.1,bv h.s0.2.2.2.2,[.bool h.s1.1],[.int .i64 h.s1.2.1],bv h.s1.2.2.1,bv h.s1.2.2.2.1,bv h.s1.2.2.2.2,[.bool h.s2.1],[.int .i64 h.s2.2.1],bv h.s2.2.2.1,bv h.s2.2.2.2.1,bv h.s2.2.2.2.2,[.bool h.s3.1],[.int .i64 h.s3.2.1],bv h.s3.2.2.1,bv h.s3.2.2.2.1,bv h.s3.2.2.2.2]) [1,1,1,1,32,32,1,1,32,32,1,1,16,32,32,1,1,16,32,32,1,1,16,32,32,1,1,16,32,32] hE hM rfl rfl (by simp only [List.map_cons,List.map_nil,bv_length,List.length_cons,List.length_nil,List.length_replicate,hbl2_4,hbl2_5,hbl2_8,hbl2_9,hbl2_12,hbl2_13,hbl2_14,hbl2_17,hbl2_18,hbl2_19,hbl2_22,hbl2_23,hbl2_24,hbl2_27,hbl2_28,hbl2_29]) rfl ?_;intro a b2 w1 hE hM'
 replace hM := hM'
 refine s_assign hE rfl rfl fun a hE=>q_nil ?_
 replace hE : Env a 19 [(1,_),(2,_),(4,_)] := hE.sl rfl
 refine hK1 _ _ (wp_seq_k fun K2 hK2=>wp_plain [true,false,true,true,true,true,true] rfl rfl (s_move hE rfl rfl fun a hE=>s_call hE rfl Tryd.call30 (pass_a p _) rfl ?_))
 rintro e w2 ⟨v9,rfl,hN⟩
 refine ⟨_,rfl,trivial,fun a hE=>?_⟩
 replace hM : Mem _ _ w2 [_,_] := hM.call0 hN ⟨rfl,trivial⟩;clear hN
 refine s_move hE rfl rfl fun a hE=>s_extract hE rfl rfl rfl fun a hE=>s_extract hE rfl rfl rfl fun a hE=>s_assign hE rfl rfl fun a hE=>s_assign hE rfl rfl fun a hE=>q_nil ?_
 replace hE : Env a 19 [(2,_),(4,_),(6,_)] := hE.sl rfl
 refine hK2 _ _ (wp_seq_k fun K3 hK3=>wp_plain [true,true,true,true,false,true,true,true] rfl rfl (s_move hE rfl rfl fun a hE=>s_bin hE rfl rfl bin_eql rfl fun a hE=>s_move hE rfl rfl fun a hE=>?_))
 refine hE.split 14 rfl (fun hb14 hE=>?_) (fun hb14 hE=>?_)
 ·replace hb14 := of_decide_eq_true hb14
  replace hb14 : (passE p) = 0 := by omega
  have hop : okp p = true := passE_zero.1 (by omega)
  refine g_yes hE rfl rfl (s_loadN hE rfl (hM.get 1 rfl) row62 rfl (by intro X h;cases h) rfl fun a hE=>?_)
  replace hE := hE.cast 15 rfl (show _ = Value.agg ([[.int .i64 h.m],[.int .i64 h.r],[.bool h.v0.1],[.int .u64 ((h.v0.2.1 : Nat) : Int)],bv h.v0.2.2.1,bv h.v0.2.2.2,[.bool h.v1.1],[.int .u64 ((h.v1.2.1 : Nat) : Int)],bv h.v1.2.2.1,bv h.v1.2.2.2,[.bool h.s0.1],[.int .i64 h.s0.2.1],bv h.s0.2.2.1,bv h.s0.2.2.2.1,bv h.s0.2.2.2.2,[.bool h.s1.1],[.int .i64 h.s1.2.1],bv h.s1.2.2.1,bv h.s1.2.2.2.1,bv h.s1.2.2.2.2,[.bool h.s2.1],[.int .i64 h.s2.2.1],bv h.s2.2.2.1,bv h.s2.2.2.2.1,bv h.s2.2.2.2.2,[.bool h.s3.1],[.int .i64 h.s3.2.1],bv h.s3.2.2.1,bv h.s3.2.2.2.1,bv h.s3.2.2.2.2] : List (List Value)).flatten.toArray from (by first | rfl | simp only [List.flatten_cons,List.flatten_nil,List.append_nil,List.append_assoc]))
  refine g_yes hE rfl rfl (s_call hE rfl Tryd.call58 (check_c h _ hk_h ) rfl ?_)
  rintro e w3 ⟨rfl,hN⟩
  refine ⟨_,rfl,trivial,fun a hE=>?_⟩
  replace hM : Mem _ _ w3 [_,_] := hM.call0 hN trivial;clear hN
  refine g_yes hE rfl rfl (s_bin hE rfl rfl bin_eql rfl fun a hE=>s_pickt hE rfl rfl rfl fun a hE=>s_assign hE rfl rfl fun a hE=>q_nil ?_)
  replace hE : Env a 19 [(4,_)] := hE.sl rfl
  exact hK3 _ _ (wp_ret (f_ret1 hE rfl rfl ⟨(by simp [mayS,hop]),hM.pick [] rfl⟩))
 ·replace hb14 := of_decide_eq_false hb14
  replace hb14 : ¬ ((passE p) = 0) := by omega
  have hop : okp p = false := passE_no hb14
  refine g_no (b := false) hE rfl rfl rfl fun a hE=>g_no (b := false) hE rfl rfl rfl fun a hE=>g_no (b := false) hE rfl rfl rfl fun a hE=>s_pickf hE rfl rfl rfl fun a hE=>s_assign hE rfl rfl fun a hE=>q_nil ?_
  replace hE : Env a 19 [(4,_)] := hE.sl rfl
  exact hK3 _ _ (wp_ret (f_ret1 hE rfl rfl ⟨(by simp [mayS,hop]),hM.pick [] rfl⟩))
set_option maxHeartbeats 4000000 in
theorem unlock_c (h : Hd) (p : List UInt8) (w : World) (hG : (glb 1).holds w) (hT : tabP.holds w) (hk_h : OkHd h) : Calls Tryd.prog 29 #[.agg ([[.int .i64 h.m],[.int .i64 h.r],[.bool h.v0.1],[.int .u64 ((h.v0.2.1 : Nat) : Int)],bv h.v0.2.2.1,bv h.v0.2.2.2,[.bool h.v1.1],[.int .u64 ((h.v1.2.1 : Nat) : Int)],bv h.v1.2.2.1,bv h.v1.2.2.2,[.bool h.s0.1],[.int .i64 h.s0.2.1],bv h.s0.2.2.1,bv h.s0.2.2.2.1,bv h.s0.2.2.2.2,[.bool h.s1.1],[.int .i64 h.s1.2.1],bv h.s1.2.2.1,bv h.s1.2.2.2.1,bv h.s1.2.2.2.2,[.bool h.s2.1],[.int .i64 h.s2.2.1],bv h.s2.2.2.1,bv h.s2.2.2.2.1,bv h.s2.2.2.2.2,[.bool h.s3.1],[.int .i64 h.s3.2.1],bv h.s3.2.2.1,bv h.s3.2.2.2.1,bv h.s3.2.2.2.2] : List (List Value)).flatten.toArray,.string (str p)] w fun e w' => e = .returned (.tuple #[.agg (bv ((unl h p).1)).toArray,.int .i64 (((unl h p).2.1 : Nat) : Int),.int .i64 (((unl h p).2.2 : Nat) : Int)]) ∧ Mem w [] w' [] := by
 have hM : Mem w [] w [glb 1,tabP] := Mem.startR w (fun g hg => by
  simp only [List.mem_cons,List.not_mem_nil,or_false] at hg
  rcases hg with rfl | rfl
  ·exact ⟨hG,rfl⟩
  ·exact ⟨hT,rfl⟩)
 refine f_enter 50 Tryd.func29 rfl rfl rfl ?_
 intro a hE
 replace hE : Env a 50 [(0,_),(1,_)] := hE
 refine wp_seq_k fun K1 hK1=>wp_plain [false,false,true,true] rfl rfl ?_
 have hbl2_4 : h.v0.2.2.1.length = 32 := hk_h.v0.2.1
 have hbl2_5 : h.v0.2.2.2.length = 32 := hk_h.v0.2.2
 have hbl2_8 : h.v1.2.2.1.length = 32 := hk_h.v1.2.1
 have hbl2_9 : h.v1.2.2.2.length = 32 := hk_h.v1.2.2
 have hbl2_12 : h.s0.2.2.1.length = 16 := hk_h.s0.2.1
 have hbl2_13 : h.s0.2.2.2.1.length = 32 := hk_h.s0.2.2.1
 have hbl2_14 : h.s0.2.2.2.2.length = 32 := hk_h.s0.2.2.2
 have hbl2_17 : h.s1.2.2.1.length = 16 := hk_h.s1.2.1
 have hbl2_18 : h.s1.2.2.2.1.length = 32 := hk_h.s1.2.2.1
 have hbl2_19 : h.s1.2.2.2.2.length = 32 := hk_h.s1.2.2.2
 have hbl2_22 : h.s2.2.2.1.length = 16 := hk_h.s2.2.1
 have hbl2_23 : h.s2.2.2.2.1.length = 32 := hk_h.s2.2.2.1
 have hbl2_24 : h.s2.2.2.2.2.length = 32 := hk_h.s2.2.2.2
 have hbl2_27 : h.s3.2.2.1.length = 16 := hk_h.s3.2.1
 have hbl2_28 : h.s3.2.2.2.1.length = 32 := hk_h.s3.2.2.1
 have hbl2_29 : h.s3.2.2.2.2.length = 32 := hk_h.s3.2.2.2
 refine s_box (ss := [[.int .i64 h.m],[.int .i64 h.r],[.bool h.v0.1],[.int .u64 ((h.v0.2.1 : Nat) : Int)],bv h.v0.2.2.1,bv h.v0.2.2.2,[.bool h.v1.1],[.int .u64 ((h.v1.2.1 : Nat) : Int)],bv h.v1.2.2.1,bv h.v1.2.2.2,[.bool h.s0.1],[.int .i64 h.s0.2.1],bv h.s0.2.2.1,bv h.s0.2.2.2.1,bv h.s0.2.2.2.2,[.bool h.s1.1],[.int .i64 h.s1.2.1],bv h.s1.2.2.1,bv h.s1.2.2.2.1,bv h.s1.2.2.2.2,[.bool h.s2.1],[.int .i64 h.s2.2.1],bv h.s2.2.2.1,bv h.s2.2.2.2.1,bv h.s2.2.2.2.2,[.bool h.s3.1],[.int .i64 h.s3.2.1],bv h.s3.2.2.1,bv h.s3.2.2.2.1,bv h.s3.2.2.2.2]) [1,1,1,1,32,32,1,1,32,32,1,1,16,32,32,1,1,16,32,32,1,1,16,32,32,1,1,16,32,32] hE hM rfl rfl (by simp only [List.map_cons,List.map_nil,bv_length,List.length_cons,List.length_nil,List.length_replicate,hbl2_4,hbl2_5,hbl2_8,hbl2_9,hbl2_12,hbl2_13,hbl2_14,hbl2_17,hbl2_18,hbl2_19,hbl2_22,hbl2_23,hbl2_24,hbl2_27,hbl2_28,hbl2_29]) rfl ?_;intro a b2 w1 hE hM'
 replace hM := hM'
 refine s_alloc [32] hE hM zero23 rfl rfl ?_;intro a b4 w2 hE hM'
 replace hM := hM'
 refine s_assign hE rfl rfl fun a hE=>s_assign hE rfl rfl fun a hE=>q_nil ?_
 replace hE : Env a 50 [(1,_),(2,_),(4,_),(5,_),(6,_)] := hE.sl rfl
 refine hK1 _ _ (wp_seq_k fun K2 hK2=>wp_seq_k fun K3 hK3=>wp_plain [true,true,false,true] rfl rfl (s_loadN hE rfl (hM.get 1 rfl) row62 rfl (by intro X h;cases h) rfl fun a hE=>?_))
 replace hE := hE.cast 13 rfl (show _ = Value.agg ([[.int .i64 h.m],[.int .i64 h.r],[.bool h.v0.1],[.int .u64 ((h.v0.2.1 : Nat) : Int)],bv h.v0.2.2.1,bv h.v0.2.2.2,[.bool h.v1.1],[.int .u64 ((h.v1.2.1 : Nat) : Int)],bv h.v1.2.2.1,bv h.v1.2.2.2,[.bool h.s0.1],[.int .i64 h.s0.2.1],bv h.s0.2.2.1,bv h.s0.2.2.2.1,bv h.s0.2.2.2.2,[.bool h.s1.1],[.int .i64 h.s1.2.1],bv h.s1.2.2.1,bv h.s1.2.2.2.1,bv h.s1.2.2.2.2,[.bool h.s2.1],[.int .i64 h.s2.2.1],bv h.s2.2.2.1,bv h.s2.2.2.2.1,bv h.s2.2.2.2.2,[.bool h.s3.1],[.int .i64 h.s3.2.1],bv h.s3.2.2.1,bv h.s3.2.2.2.1,bv h.s3.2.2.2.2] : List (List Value)).flatten.toArray from (by first | rfl | simp only [List.flatten_cons,List.flatten_nil,List.append_nil,List.append_assoc]))
 refine s_move hE rfl rfl fun a hE=>s_call hE rfl Tryd.call55 (smay_c h p _ hk_h) rfl ?_
 rintro e w3 ⟨rfl,hN⟩
 refine ⟨_,rfl,trivial,fun a hE=>?_⟩
 replace hM : Mem _ _ w3 [_,_,_,_] := hM.call0 hN trivial;clear hN
 refine s_not hE rfl rfl fun a hE=>q_nil ?_
 replace hE : Env a 50 [(1,_),(2,_),(4,_),(5,_),(6,_),(16,_)] := hE.sl rfl
 refine hK3 _ _ ?_
 refine hE.split 16 rfl (fun hb16 hE=>?_) (fun hb16 hE=>?_)
 ·replace hb16 := not_true hb16
  refine wp_cond_true (hE.eval rfl) (wp_seq_k fun K4 hK4=>wp_plain [true,false,true,true] rfl rfl (s_build (r := .agg (bv (List.replicate 32 (0 : UInt8))).toArray) _ hE rfl (fun w => by kernel_rfl) rfl fun a hE=>?_))
  refine s_storeSeg 0 hE rfl rfl hM rfl sz23 ((bv_length _).trans (by first | (simp;done) | (simp [*];done) | (simp;omega))) (bv_one _) rfl ((bv_length _).trans (by first | (simp;done) | (simp [*];done) | (simp;omega))) rfl (by intro X h;cases h) ?_;intro w4 hM';replace hM := hM'
  simp only [List.set_cons_zero,List.set_cons_succ] at hM
  refine s_assign hE rfl rfl fun a hE=>s_assign hE rfl rfl fun a hE=>q_nil ?_
  replace hE : Env a 50 [(1,_),(2,_),(4,_),(5,_),(6,_),(16,_)] := hE.sl rfl
  exact hK4 _ _ (wp_ret (q_then_r (f_ret3 hE rfl (res_cellN rfl (hM.get 0 rfl) row23 rfl) rfl rfl ⟨(by simp [unl,hb16]),hM.pick [] rfl⟩)))
 ·replace hb16 := not_false' hb16
  refine wp_cond_false (hE.eval rfl) (wp_skip (hK2 _ _ (wp_seq_k fun K4 hK4=>wp_seq_k fun K5 hK5=>wp_plain [true] rfl rfl (s_move hE rfl rfl fun a hE=>q_nil (hK5 _ _ (wp_block ?_))))))
  refine wp_loop_rounds 5 ?_
  refine c_roundsJ (fun a w' => opS p h.s0 = false ∧ Env a 50 [(1,.string (str p)),(2,.pointer (some ⟨b2,0,none⟩)),(4,.pointer (some ⟨b4,0,none⟩)),(5,.int .i64 0),(6,.int .i64 0),(16,.bool false),(18,.int .i64 1)] ∧ Mem w [] w' [blk b4 [bv (List.replicate 32 (0 : UInt8))] [32] 23,blk b2 [[.int .i64 h.m],[.int .i64 h.r],[.bool h.v0.1],[.int .u64 ((h.v0.2.1 : Nat) : Int)],bv h.v0.2.2.1,bv h.v0.2.2.2,[.bool h.v1.1],[.int .u64 ((h.v1.2.1 : Nat) : Int)],bv h.v1.2.2.1,bv h.v1.2.2.2,[.bool h.s0.1],[.int .i64 h.s0.2.1],bv h.s0.2.2.1,bv h.s0.2.2.2.1,bv h.s0.2.2.2.2,[.bool h.s1.1],[.int .i64 h.s1.2.1],bv h.s1.2.2.1,bv h.s1.2.2.2.1,bv h.s1.2.2.2.2,[.bool h.s2.1],[.int .i64 h.s2.2.1],bv h.s2.2.2.1,bv h.s2.2.2.2.1,bv h.s2.2.2.2.2,[.bool h.s3.1],[.int .i64 h.s3.2.1],bv h.s3.2.2.1,bv h.s3.2.2.2.1,bv h.s3.2.2.2.2] [1,1,1,1,32,32,1,1,32,32,1,1,16,32,32,1,1,16,32,32,1,1,16,32,32,1,1,16,32,32] 62,glb 1,tabP]) ?_ ?_
  ·skip
   refine wp_seq_k fun K6 hK6=>wp_plain [true] rfl rfl (s_bin hE rfl rfl bin_lss rfl fun a hE=>?_)
   replace hE := hE.cast 19 rfl (show _ = Value.bool true from (congrArg Value.bool (by decide)))
   refine q_nil (hK6 _ _ (wp_seq_k fun K7 hK7=>wp_cond_true (hE.eval rfl) (wp_skip (hK7 _ _ (wp_seq_k fun K8 hK8=>wp_block (wp_seq_k fun K9 hK9=>wp_plain [true,true] rfl rfl ?_))))))
   refine s_move hE rfl rfl fun a hE=>s_assign hE rfl rfl fun a hE=>q_nil ?_
   replace hE : Env a 50 [(1,_),(2,_),(4,_),(5,_),(6,_),(7,_),(16,_),(18,_),(19,_)] := hE.sl rfl
   refine hK9 _ _ (wp_seq_k fun K10 hK10=>wp_plain [true,true,true,true,false,false] rfl rfl (s_move hE rfl rfl fun a hE=>s_fieldAddr hE rfl fo62_2 rfl fun a hE=>s_indexArr (j := 0) hE rfl rfl arr60 rfl (by decide) rfl fun a hE=>?_))
   refine s_loadN hE rfl (hM.get 1 rfl) row59 rfl (by intro X h;cases h) rfl fun a hE=>?_
   replace hE := hE.cast 24 rfl (show _ = Value.agg ([[.bool h.s0.1],[.int .i64 h.s0.2.1],bv h.s0.2.2.1,bv h.s0.2.2.2.1,bv h.s0.2.2.2.2] : List (List Value)).flatten.toArray from (by first | rfl | simp only [List.flatten_cons,List.flatten_nil,List.append_nil,List.append_assoc]))
   refine s_alloc [1,1,16,32,32] hE hM zeroL59 rfl rfl ?_;intro a b8 w4 hE hM'
   replace hM := hM'
   have hsl110_2 : h.s0.2.2.1.length = 16 := hk_h.s0.2.1
   have hsl110_3 : h.s0.2.2.2.1.length = 32 := hk_h.s0.2.2.1
   have hsl110_4 : h.s0.2.2.2.2.length = 32 := hk_h.s0.2.2.2
   refine s_storeSegs 0 5 (vss := [[.bool h.s0.1],[.int .i64 h.s0.2.1],bv h.s0.2.2.1,bv h.s0.2.2.2.1,bv h.s0.2.2.2.2]) hE rfl rfl hM rfl sz59 (by simp only [List.take_succ_cons,List.take_zero,List.drop_zero,List.drop_succ_cons];simp only [List.map_cons,List.map_nil,bv_length,List.length_cons,List.length_nil,List.length_replicate,hsl110_2,hsl110_3,hsl110_4]) (by decide) rfl (one_fl ⟨one1 rfl,one1 rfl,bv_one _,bv_one _,bv_one _,trivial⟩) rfl (by intro X h;cases h) ?_;intro w5 hM';replace hM := hM'
   try simp only [List.take_zero,List.take_succ_cons,List.drop_zero,List.drop_succ_cons,List.take_nil,List.drop_nil,List.nil_append,List.append_nil,List.cons_append] at hM
   refine q_nil ?_
   replace hE : Env a 50 [(1,_),(2,_),(4,_),(5,_),(6,_),(7,_),(8,_),(16,_),(18,_),(19,_)] := hE.sl rfl
   refine hK10 _ _ (wp_seq_k fun K11 hK11=>wp_seq_k fun K12 hK12=>wp_plain [true,true,true] rfl rfl (s_fieldAddr hE rfl fo59_0 rfl fun a hE=>s_load1 hE rfl (hM.get 0 rfl) rfl one4 (by intro X h;cases h) rfl fun a hE=>?_))
   refine s_not hE rfl rfl fun a hE=>q_nil ?_
   replace hE : Env a 50 [(1,_),(2,_),(4,_),(5,_),(6,_),(7,_),(8,_),(16,_),(18,_),(19,_),(27,_)] := hE.sl rfl
   refine hK12 _ _ ?_
   refine hE.split 27 rfl (fun hb27 hE=>?_) (fun hb27 hE=>?_)
   ·replace hb27 := not_true hb27
    refine wp_cond_true (hE.eval rfl) (wp_exit (q_then_e (q_block_x (hK8 _ _ (wp_plain [true,true] rfl rfl (s_bin hE rfl rfl (show Bin _ _ _ _ _ (.int .i64 1) from bin_add (by rw [wrap_i64 (by omega) (by omega)];omega)) rfl fun a hE=>?_))))))
    refine s_move hE rfl rfl fun a hE=>q_nil ?_
    replace hE : Env a 50 [(1,_),(2,_),(4,_),(5,_),(6,_),(7,_),(8,_),(16,_),(18,_),(19,_),(27,_)] := hE.sl rfl
    replace hM : Mem _ _ w5 [_,_,_,_] := hM.pick [1,2,3,4] rfl
    refine q_then_n ⟨(by first | exact op_unused hb27 | exact op_no hb27),hE.sel [1,2,4,5,6,16,18] rfl,hM⟩
   ·replace hb27 := not_false' hb27
    refine wp_cond_false (hE.eval rfl) (wp_skip (hK11 _ _ (wp_seq_k fun K13 hK13=>wp_plain [true,true,true,true,true,false,true,true,true,false,false,true] rfl rfl (s_move hE rfl rfl fun a hE=>s_fieldAddr hE rfl fo59_2 rfl fun a hE=>s_loadN hE rfl (hM.get 0 rfl) row57 rfl (by intro X h;cases h) rfl fun a hE=>?_))))
    refine s_fieldAddr hE rfl fo59_1 rfl fun a hE=>s_load1 hE rfl (hM.get 0 rfl) rfl one3 (by intro X h;cases h) rfl fun a hE=>?_
    refine s_call hE rfl Tryd.call56 (skey_c p h.s0.2.2.1 h.s0.2.1 _ (hM.get 3 rfl) hk_h.s0.2.1) rfl ?_
    rintro e w6 ⟨rfl,hN⟩
    refine ⟨_,rfl,trivial,fun a hE=>?_⟩
    replace hM : Mem _ _ w6 [_,_,_,_,_] := hM.call0 hN trivial;clear hN
    refine s_move hE rfl rfl fun a hE=>s_extract hE rfl rfl rfl fun a hE=>s_extract hE rfl rfl rfl fun a hE=>?_
    refine s_alloc [32] hE hM zero23 rfl rfl ?_;intro a b9 w7 hE hM'
    replace hM := hM'
    refine s_storeSeg 0 hE rfl rfl hM rfl sz23 ((bv_length _).trans (kK_len p h.s0.2.2.1 h.s0.2.1)) (bv_one _) rfl ((bv_length _).trans (by first | (simp;done) | (simp [*];done) | (simp;omega))) rfl (by intro X h;cases h) ?_;intro w8 hM';replace hM := hM'
    simp only [List.set_cons_zero,List.set_cons_succ] at hM
    refine s_assign hE rfl rfl fun a hE=>q_nil ?_
    replace hE : Env a 50 [(1,_),(2,_),(4,_),(5,_),(6,_),(7,_),(8,_),(9,_),(16,_),(18,_),(19,_),(27,_)] := hE.sl rfl
    refine hK13 _ _ (wp_seq_k fun K14 hK14=>wp_plain [true,true,true,false,true,true,true,false,false,true] rfl rfl (s_loadN hE rfl (hM.get 0 rfl) row23 rfl (by intro X h;cases h) rfl fun a hE=>?_))
    refine s_fieldAddr hE rfl fo59_3 rfl fun a hE=>s_loadN hE rfl (hM.get 1 rfl) row29 rfl (by intro X h;cases h) rfl fun a hE=>?_
    replace hE := hE.cast 40 rfl (show _ = Value.agg ([bv h.s0.2.2.2.1,bv h.s0.2.2.2.2] : List (List Value)).flatten.toArray from (by first | rfl | simp only [List.flatten_cons,List.flatten_nil,List.append_nil,List.append_assoc]))
    refine s_call hE rfl Tryd.call16 (unwrap_c (kK p h.s0.2.2.1 h.s0.2.1) [115,108,111,116] 0 h.s0.2.2.2.1 h.s0.2.2.2.2 _ (hM.get 4 rfl) (hM.get 5 rfl) (kK_len p h.s0.2.2.1 h.s0.2.1) hk_h.s0.2.2.1 hk_h.s0.2.2.2 (by have hl_0 : (kK p h.s0.2.2.1 h.s0.2.1).length = 32 := (kK_len p h.s0.2.2.1 h.s0.2.1);have hl_1 : [115,108,111,116].length = 4 := (by first | (simp;done) | (simp [*];done) | (simp;omega));have hl_3d : h.s0.2.2.2.1.length = 32 := hk_h.s0.2.2.1;have hl_3t : h.s0.2.2.2.2.length = 32 := hk_h.s0.2.2.2;first | omega | assumption | (simp;done) | (simp;omega) | decide) (by have hl_0 : (kK p h.s0.2.2.1 h.s0.2.1).length = 32 := (kK_len p h.s0.2.2.1 h.s0.2.1);have hl_1 : [115,108,111,116].length = 4 := (by first | (simp;done) | (simp [*];done) | (simp;omega));have hl_3d : h.s0.2.2.2.1.length = 32 := hk_h.s0.2.2.1;have hl_3t : h.s0.2.2.2.2.length = 32 := hk_h.s0.2.2.2;first | omega | assumption | (simp;done) | (simp;omega) | decide)) rfl ?_
    rintro e w9 ⟨rfl,hN⟩
    refine ⟨_,rfl,trivial,fun a hE=>?_⟩
    replace hM : Mem _ _ w9 [_,_,_,_,_,_] := hM.call0 hN trivial;clear hN
    refine s_move hE rfl rfl fun a hE=>s_extract hE rfl rfl rfl fun a hE=>s_extract hE rfl rfl rfl fun a hE=>?_
    refine s_alloc [32] hE hM zero23 rfl rfl ?_;intro a b11 w10 hE hM'
    replace hM := hM'
    refine s_storeSeg 0 hE rfl rfl hM rfl sz23 ((bv_length _).trans (unwK_len (k := (kK p h.s0.2.2.1 h.s0.2.1)) (l := [115,108,111,116]) (n := 0) (d := h.s0.2.2.2.1) (t := h.s0.2.2.2.2) (by have hl_std : h.s0.2.2.2.1.length = 32 := hk_h.s0.2.2.1;first | assumption | (simp;done)))) (bv_one _) rfl ((bv_length _).trans (by first | (simp;done) | (simp [*];done) | (simp;omega))) rfl (by intro X h;cases h) ?_;intro w11 hM';replace hM := hM'
    simp only [List.set_cons_zero,List.set_cons_succ] at hM
    refine s_assign hE rfl rfl fun a hE=>q_nil ?_
    replace hE : Env a 50 [(1,_),(2,_),(4,_),(5,_),(6,_),(7,_),(8,_),(9,_),(11,_),(12,_),(16,_),(18,_),(19,_),(27,_)] := hE.sl rfl
    refine hK14 _ _ (wp_seq_k fun K15 hK15=>wp_plain [true,true] rfl rfl (s_move hE rfl rfl fun a hE=>s_bin hE rfl rfl bin_eql rfl fun a hE=>q_nil ?_))
    replace hE : Env a 50 [(1,_),(2,_),(4,_),(5,_),(6,_),(7,_),(8,_),(9,_),(11,_),(12,_),(16,_),(18,_),(19,_),(27,_),(45,_)] := hE.sl rfl
    refine hK15 _ _ ?_
    refine hE.split 45 rfl (fun hb45 hE=>?_) (fun hb45 hE=>?_)
    ·replace hb45 := of_decide_eq_true hb45
     replace hb45 : (unwE (kK p h.s0.2.2.1 h.s0.2.1) [115,108,111,116] 0 h.s0.2.2.2.1 h.s0.2.2.2.2) = 0 := by omega
     obtain ⟨hoy,huk⟩ := op_yes (p := p) (s := h.s0) hb27 hb45
     simp only [slotT] at huk
     refine wp_cond_true (hE.eval rfl) (wp_seq_k fun K16 hK16=>wp_plain [true,true,false,true,true] rfl rfl (s_loadN hE rfl (hM.get 0 rfl) row23 rfl (by intro X h;cases h) rfl fun a hE=>?_))
     refine s_move hE rfl rfl fun a hE=>?_
     replace hM : Mem _ _ w11 [_,_,_,_,_,_,_] := hM.pick [3,0,1,2,4,5,6] rfl
     refine s_storeSeg 0 hE rfl rfl hM rfl sz23 ((bv_length _).trans (unwK_len (k := (kK p h.s0.2.2.1 h.s0.2.1)) (l := [115,108,111,116]) (n := 0) (d := h.s0.2.2.2.1) (t := h.s0.2.2.2.2) (by have hl_std : h.s0.2.2.2.1.length = 32 := hk_h.s0.2.2.1;first | assumption | (simp;done)))) (bv_one _) rfl ((bv_length _).trans (by first | (simp;done) | (simp [*];done) | (simp;omega))) rfl (by intro X h;cases h) ?_;intro w12 hM';replace hM := hM'
     simp only [List.set_cons_zero,List.set_cons_succ] at hM
     refine s_assign hE rfl rfl fun a hE=>s_assign hE rfl rfl fun a hE=>q_nil ?_
     replace hE : Env a 50 [(1,_),(2,_),(4,_),(5,_),(6,_),(7,_),(8,_),(9,_),(11,_),(12,_),(16,_),(18,_),(19,_),(27,_),(45,_)] := hE.sl rfl
     exact hK16 _ _ (wp_ret (q_block_r (q_then_r (q_then_r (q_block_r (q_then_r (f_ret3 hE rfl (res_cellN rfl (hM.get 0 rfl) row23 rfl) rfl rfl ⟨(by rw [huk];simp [unl,hoy,hb16]),hM.pick [] rfl⟩)))))))
    ·replace hb45 := of_decide_eq_false hb45
     replace hb45 : ¬ ((unwE (kK p h.s0.2.2.1 h.s0.2.1) [115,108,111,116] 0 h.s0.2.2.2.1 h.s0.2.2.2.2) = 0) := by omega
     refine wp_cond_false (hE.eval rfl) (wp_skip (q_block_n (hK8 _ _ (wp_plain [true,true] rfl rfl (s_bin hE rfl rfl (show Bin _ _ _ _ _ (.int .i64 1) from bin_add (by rw [wrap_i64 (by omega) (by omega)];omega)) rfl fun a hE=>?_)))))
     refine s_move hE rfl rfl fun a hE=>q_nil ?_
     replace hE : Env a 50 [(1,_),(2,_),(4,_),(5,_),(6,_),(7,_),(8,_),(9,_),(11,_),(12,_),(16,_),(18,_),(19,_),(27,_),(45,_)] := hE.sl rfl
     replace hM : Mem _ _ w11 [_,_,_,_] := hM.pick [3,4,5,6] rfl
     refine q_then_n ⟨(by first | exact op_unused hb27 | exact op_no hb45),hE.sel [1,2,4,5,6,16,18] rfl,hM⟩
  rintro a w4 ⟨hJ4_0,hE,hM⟩
  refine c_roundsJ (fun a w' => opS p h.s1 = false ∧ Env a 50 [(1,.string (str p)),(2,.pointer (some ⟨b2,0,none⟩)),(4,.pointer (some ⟨b4,0,none⟩)),(5,.int .i64 0),(6,.int .i64 0),(16,.bool false),(18,.int .i64 2)] ∧ Mem w [] w' [blk b4 [bv (List.replicate 32 (0 : UInt8))] [32] 23,blk b2 [[.int .i64 h.m],[.int .i64 h.r],[.bool h.v0.1],[.int .u64 ((h.v0.2.1 : Nat) : Int)],bv h.v0.2.2.1,bv h.v0.2.2.2,[.bool h.v1.1],[.int .u64 ((h.v1.2.1 : Nat) : Int)],bv h.v1.2.2.1,bv h.v1.2.2.2,[.bool h.s0.1],[.int .i64 h.s0.2.1],bv h.s0.2.2.1,bv h.s0.2.2.2.1,bv h.s0.2.2.2.2,[.bool h.s1.1],[.int .i64 h.s1.2.1],bv h.s1.2.2.1,bv h.s1.2.2.2.1,bv h.s1.2.2.2.2,[.bool h.s2.1],[.int .i64 h.s2.2.1],bv h.s2.2.2.1,bv h.s2.2.2.2.1,bv h.s2.2.2.2.2,[.bool h.s3.1],[.int .i64 h.s3.2.1],bv h.s3.2.2.1,bv h.s3.2.2.2.1,bv h.s3.2.2.2.2] [1,1,1,1,32,32,1,1,32,32,1,1,16,32,32,1,1,16,32,32,1,1,16,32,32,1,1,16,32,32] 62,glb 1,tabP]) ?_ ?_
  ·skip
   refine wp_seq_k fun K6 hK6=>wp_plain [true] rfl rfl (s_bin hE rfl rfl bin_lss rfl fun a hE=>?_)
   replace hE := hE.cast 19 rfl (show _ = Value.bool true from (congrArg Value.bool (by decide)))
   refine q_nil (hK6 _ _ (wp_seq_k fun K7 hK7=>wp_cond_true (hE.eval rfl) (wp_skip (hK7 _ _ (wp_seq_k fun K8 hK8=>wp_block (wp_seq_k fun K9 hK9=>wp_plain [true,true] rfl rfl ?_))))))
   refine s_move hE rfl rfl fun a hE=>s_assign hE rfl rfl fun a hE=>q_nil ?_
   replace hE : Env a 50 [(1,_),(2,_),(4,_),(5,_),(6,_),(7,_),(16,_),(18,_),(19,_)] := hE.sl rfl
   refine hK9 _ _ (wp_seq_k fun K10 hK10=>wp_plain [true,true,true,true,false,false] rfl rfl (s_move hE rfl rfl fun a hE=>s_fieldAddr hE rfl fo62_2 rfl fun a hE=>s_indexArr (j := 1) hE rfl rfl arr60 rfl (by decide) rfl fun a hE=>?_))
   refine s_loadN hE rfl (hM.get 1 rfl) row59 rfl (by intro X h;cases h) rfl fun a hE=>?_
   replace hE := hE.cast 24 rfl (show _ = Value.agg ([[.bool h.s1.1],[.int .i64 h.s1.2.1],bv h.s1.2.2.1,bv h.s1.2.2.2.1,bv h.s1.2.2.2.2] : List (List Value)).flatten.toArray from (by first | rfl | simp only [List.flatten_cons,List.flatten_nil,List.append_nil,List.append_assoc]))
   refine s_alloc [1,1,16,32,32] hE hM zeroL59 rfl rfl ?_;intro a b8 w5 hE hM'
   replace hM := hM'
   have hsl269_2 : h.s1.2.2.1.length = 16 := hk_h.s1.2.1
   have hsl269_3 : h.s1.2.2.2.1.length = 32 := hk_h.s1.2.2.1
   have hsl269_4 : h.s1.2.2.2.2.length = 32 := hk_h.s1.2.2.2
   refine s_storeSegs 0 5 (vss := [[.bool h.s1.1],[.int .i64 h.s1.2.1],bv h.s1.2.2.1,bv h.s1.2.2.2.1,bv h.s1.2.2.2.2]) hE rfl rfl hM rfl sz59 (by simp only [List.take_succ_cons,List.take_zero,List.drop_zero,List.drop_succ_cons];simp only [List.map_cons,List.map_nil,bv_length,List.length_cons,List.length_nil,List.length_replicate,hsl269_2,hsl269_3,hsl269_4]) (by decide) rfl (one_fl ⟨one1 rfl,one1 rfl,bv_one _,bv_one _,bv_one _,trivial⟩) rfl (by intro X h;cases h) ?_;intro w6 hM';replace hM := hM'
   try simp only [List.take_zero,List.take_succ_cons,List.drop_zero,List.drop_succ_cons,List.take_nil,List.drop_nil,List.nil_append,List.append_nil,List.cons_append] at hM
   refine q_nil ?_
   replace hE : Env a 50 [(1,_),(2,_),(4,_),(5,_),(6,_),(7,_),(8,_),(16,_),(18,_),(19,_)] := hE.sl rfl
   refine hK10 _ _ (wp_seq_k fun K11 hK11=>wp_seq_k fun K12 hK12=>wp_plain [true,true,true] rfl rfl (s_fieldAddr hE rfl fo59_0 rfl fun a hE=>s_load1 hE rfl (hM.get 0 rfl) rfl one4 (by intro X h;cases h) rfl fun a hE=>?_))
   refine s_not hE rfl rfl fun a hE=>q_nil ?_
   replace hE : Env a 50 [(1,_),(2,_),(4,_),(5,_),(6,_),(7,_),(8,_),(16,_),(18,_),(19,_),(27,_)] := hE.sl rfl
   refine hK12 _ _ ?_
   refine hE.split 27 rfl (fun hb27 hE=>?_) (fun hb27 hE=>?_)
   ·replace hb27 := not_true hb27
    refine wp_cond_true (hE.eval rfl) (wp_exit (q_then_e (q_block_x (hK8 _ _ (wp_plain [true,true] rfl rfl (s_bin hE rfl rfl (show Bin _ _ _ _ _ (.int .i64 2) from bin_add (by rw [wrap_i64 (by omega) (by omega)];omega)) rfl fun a hE=>?_))))))
    refine s_move hE rfl rfl fun a hE=>q_nil ?_
    replace hE : Env a 50 [(1,_),(2,_),(4,_),(5,_),(6,_),(7,_),(8,_),(16,_),(18,_),(19,_),(27,_)] := hE.sl rfl
    replace hM : Mem _ _ w6 [_,_,_,_] := hM.pick [1,2,3,4] rfl
    refine q_then_n ⟨(by first | exact op_unused hb27 | exact op_no hb27),hE.sel [1,2,4,5,6,16,18] rfl,hM⟩
   ·replace hb27 := not_false' hb27
    refine wp_cond_false (hE.eval rfl) (wp_skip (hK11 _ _ (wp_seq_k fun K13 hK13=>wp_plain [true,true,true,true,true,false,true,true,true,false,false,true] rfl rfl (s_move hE rfl rfl fun a hE=>s_fieldAddr hE rfl fo59_2 rfl fun a hE=>s_loadN hE rfl (hM.get 0 rfl) row57 rfl (by intro X h;cases h) rfl fun a hE=>?_))))
    refine s_fieldAddr hE rfl fo59_1 rfl fun a hE=>s_load1 hE rfl (hM.get 0 rfl) rfl one3 (by intro X h;cases h) rfl fun a hE=>?_
    refine s_call hE rfl Tryd.call56 (skey_c p h.s1.2.2.1 h.s1.2.1 _ (hM.get 3 rfl) hk_h.s1.2.1) rfl ?_
    rintro e w7 ⟨rfl,hN⟩
    refine ⟨_,rfl,trivial,fun a hE=>?_⟩
    replace hM : Mem _ _ w7 [_,_,_,_,_] := hM.call0 hN trivial;clear hN
    refine s_move hE rfl rfl fun a hE=>s_extract hE rfl rfl rfl fun a hE=>s_extract hE rfl rfl rfl fun a hE=>?_
    refine s_alloc [32] hE hM zero23 rfl rfl ?_;intro a b9 w8 hE hM'
    replace hM := hM'
    refine s_storeSeg 0 hE rfl rfl hM rfl sz23 ((bv_length _).trans (kK_len p h.s1.2.2.1 h.s1.2.1)) (bv_one _) rfl ((bv_length _).trans (by first | (simp;done) | (simp [*];done) | (simp;omega))) rfl (by intro X h;cases h) ?_;intro w9 hM';replace hM := hM'
    simp only [List.set_cons_zero,List.set_cons_succ] at hM
    refine s_assign hE rfl rfl fun a hE=>q_nil ?_
    replace hE : Env a 50 [(1,_),(2,_),(4,_),(5,_),(6,_),(7,_),(8,_),(9,_),(16,_),(18,_),(19,_),(27,_)] := hE.sl rfl
    refine hK13 _ _ (wp_seq_k fun K14 hK14=>wp_plain [true,true,true,false,true,true,true,false,false,true] rfl rfl (s_loadN hE rfl (hM.get 0 rfl) row23 rfl (by intro X h;cases h) rfl fun a hE=>?_))
    refine s_fieldAddr hE rfl fo59_3 rfl fun a hE=>s_loadN hE rfl (hM.get 1 rfl) row29 rfl (by intro X h;cases h) rfl fun a hE=>?_
    replace hE := hE.cast 40 rfl (show _ = Value.agg ([bv h.s1.2.2.2.1,bv h.s1.2.2.2.2] : List (List Value)).flatten.toArray from (by first | rfl | simp only [List.flatten_cons,List.flatten_nil,List.append_nil,List.append_assoc]))
    refine s_call hE rfl Tryd.call16 (unwrap_c (kK p h.s1.2.2.1 h.s1.2.1) [115,108,111,116] 0 h.s1.2.2.2.1 h.s1.2.2.2.2 _ (hM.get 4 rfl) (hM.get 5 rfl) (kK_len p h.s1.2.2.1 h.s1.2.1) hk_h.s1.2.2.1 hk_h.s1.2.2.2 (by have hl_0 : (kK p h.s1.2.2.1 h.s1.2.1).length = 32 := (kK_len p h.s1.2.2.1 h.s1.2.1);have hl_1 : [115,108,111,116].length = 4 := (by first | (simp;done) | (simp [*];done) | (simp;omega));have hl_3d : h.s1.2.2.2.1.length = 32 := hk_h.s1.2.2.1;have hl_3t : h.s1.2.2.2.2.length = 32 := hk_h.s1.2.2.2;first | omega | assumption | (simp;done) | (simp;omega) | decide) (by have hl_0 : (kK p h.s1.2.2.1 h.s1.2.1).length = 32 := (kK_len p h.s1.2.2.1 h.s1.2.1);have hl_1 : [115,108,111,116].length = 4 := (by first | (simp;done) | (simp [*];done) | (simp;omega));have hl_3d : h.s1.2.2.2.1.length = 32 := hk_h.s1.2.2.1;have hl_3t : h.s1.2.2.2.2.length = 32 := hk_h.s1.2.2.2;first | omega | assumption | (simp;done) | (simp;omega) | decide)) rfl ?_
    rintro e w10 ⟨rfl,hN⟩
    refine ⟨_,rfl,trivial,fun a hE=>?_⟩
    replace hM : Mem _ _ w10 [_,_,_,_,_,_] := hM.call0 hN trivial;clear hN
    refine s_move hE rfl rfl fun a hE=>s_extract hE rfl rfl rfl fun a hE=>s_extract hE rfl rfl rfl fun a hE=>?_
    refine s_alloc [32] hE hM zero23 rfl rfl ?_;intro a b11 w11 hE hM'
    replace hM := hM'
    refine s_storeSeg 0 hE rfl rfl hM rfl sz23 ((bv_length _).trans (unwK_len (k := (kK p h.s1.2.2.1 h.s1.2.1)) (l := [115,108,111,116]) (n := 0) (d := h.s1.2.2.2.1) (t := h.s1.2.2.2.2) (by have hl_std : h.s1.2.2.2.1.length = 32 := hk_h.s1.2.2.1;first | assumption | (simp;done)))) (bv_one _) rfl ((bv_length _).trans (by first | (simp;done) | (simp [*];done) | (simp;omega))) rfl (by intro X h;cases h) ?_;intro w12 hM';replace hM := hM'
    simp only [List.set_cons_zero,List.set_cons_succ] at hM
    refine s_assign hE rfl rfl fun a hE=>q_nil ?_
    replace hE : Env a 50 [(1,_),(2,_),(4,_),(5,_),(6,_),(7,_),(8,_),(9,_),(11,_),(12,_),(16,_),(18,_),(19,_),(27,_)] := hE.sl rfl
    refine hK14 _ _ (wp_seq_k fun K15 hK15=>wp_plain [true,true] rfl rfl (s_move hE rfl rfl fun a hE=>s_bin hE rfl rfl bin_eql rfl fun a hE=>q_nil ?_))
    replace hE : Env a 50 [(1,_),(2,_),(4,_),(5,_),(6,_),(7,_),(8,_),(9,_),(11,_),(12,_),(16,_),(18,_),(19,_),(27,_),(45,_)] := hE.sl rfl
    refine hK15 _ _ ?_
    refine hE.split 45 rfl (fun hb45 hE=>?_) (fun hb45 hE=>?_)
    ·replace hb45 := of_decide_eq_true hb45
     replace hb45 : (unwE (kK p h.s1.2.2.1 h.s1.2.1) [115,108,111,116] 0 h.s1.2.2.2.1 h.s1.2.2.2.2) = 0 := by omega
     obtain ⟨hoy,huk⟩ := op_yes (p := p) (s := h.s1) hb27 hb45
     simp only [slotT] at huk
     refine wp_cond_true (hE.eval rfl) (wp_seq_k fun K16 hK16=>wp_plain [true,true,false,true,true] rfl rfl (s_loadN hE rfl (hM.get 0 rfl) row23 rfl (by intro X h;cases h) rfl fun a hE=>?_))
     refine s_move hE rfl rfl fun a hE=>?_
     replace hM : Mem _ _ w12 [_,_,_,_,_,_,_] := hM.pick [3,0,1,2,4,5,6] rfl
     refine s_storeSeg 0 hE rfl rfl hM rfl sz23 ((bv_length _).trans (unwK_len (k := (kK p h.s1.2.2.1 h.s1.2.1)) (l := [115,108,111,116]) (n := 0) (d := h.s1.2.2.2.1) (t := h.s1.2.2.2.2) (by have hl_std : h.s1.2.2.2.1.length = 32 := hk_h.s1.2.2.1;first | assumption | (simp;done)))) (bv_one _) rfl ((bv_length _).trans (by first | (simp;done) | (simp [*];done) | (simp;omega))) rfl (by intro X h;cases h) ?_;intro w13 hM';replace hM := hM'
     simp only [List.set_cons_zero,List.set_cons_succ] at hM
     refine s_assign hE rfl rfl fun a hE=>s_assign hE rfl rfl fun a hE=>q_nil ?_
     replace hE : Env a 50 [(1,_),(2,_),(4,_),(5,_),(6,_),(7,_),(8,_),(9,_),(11,_),(12,_),(16,_),(18,_),(19,_),(27,_),(45,_)] := hE.sl rfl
     exact hK16 _ _ (wp_ret (q_block_r (q_then_r (q_then_r (q_block_r (q_then_r (f_ret3 hE rfl (res_cellN rfl (hM.get 0 rfl) row23 rfl) rfl rfl ⟨(by rw [huk];simp [unl,hoy,hJ4_0,hb16]),hM.pick [] rfl⟩)))))))
    ·replace hb45 := of_decide_eq_false hb45
     replace hb45 : ¬ ((unwE (kK p h.s1.2.2.1 h.s1.2.1) [115,108,111,116] 0 h.s1.2.2.2.1 h.s1.2.2.2.2) = 0) := by omega
     refine wp_cond_false (hE.eval rfl) (wp_skip (q_block_n (hK8 _ _ (wp_plain [true,true] rfl rfl (s_bin hE rfl rfl (show Bin _ _ _ _ _ (.int .i64 2) from bin_add (by rw [wrap_i64 (by omega) (by omega)];omega)) rfl fun a hE=>?_)))))
     refine s_move hE rfl rfl fun a hE=>q_nil ?_
     replace hE : Env a 50 [(1,_),(2,_),(4,_),(5,_),(6,_),(7,_),(8,_),(9,_),(11,_),(12,_),(16,_),(18,_),(19,_),(27,_),(45,_)] := hE.sl rfl
     replace hM : Mem _ _ w12 [_,_,_,_] := hM.pick [3,4,5,6] rfl
     refine q_then_n ⟨(by first | exact op_unused hb27 | exact op_no hb45),hE.sel [1,2,4,5,6,16,18] rfl,hM⟩
  rintro a w5 ⟨hJ4_1,hE,hM⟩
  refine c_roundsJ (fun a w' => opS p h.s2 = false ∧ Env a 50 [(1,.string (str p)),(2,.pointer (some ⟨b2,0,none⟩)),(4,.pointer (some ⟨b4,0,none⟩)),(5,.int .i64 0),(6,.int .i64 0),(16,.bool false),(18,.int .i64 3)] ∧ Mem w [] w' [blk b4 [bv (List.replicate 32 (0 : UInt8))] [32] 23,blk b2 [[.int .i64 h.m],[.int .i64 h.r],[.bool h.v0.1],[.int .u64 ((h.v0.2.1 : Nat) : Int)],bv h.v0.2.2.1,bv h.v0.2.2.2,[.bool h.v1.1],[.int .u64 ((h.v1.2.1 : Nat) : Int)],bv h.v1.2.2.1,bv h.v1.2.2.2,[.bool h.s0.1],[.int .i64 h.s0.2.1],bv h.s0.2.2.1,bv h.s0.2.2.2.1,bv h.s0.2.2.2.2,[.bool h.s1.1],[.int .i64 h.s1.2.1],bv h.s1.2.2.1,bv h.s1.2.2.2.1,bv h.s1.2.2.2.2,[.bool h.s2.1],[.int .i64 h.s2.2.1],bv h.s2.2.2.1,bv h.s2.2.2.2.1,bv h.s2.2.2.2.2,[.bool h.s3.1],[.int .i64 h.s3.2.1],bv h.s3.2.2.1,bv h.s3.2.2.2.1,bv h.s3.2.2.2.2] [1,1,1,1,32,32,1,1,32,32,1,1,16,32,32,1,1,16,32,32,1,1,16,32,32,1,1,16,32,32] 62,glb 1,tabP]) ?_ ?_
  ·skip
   refine wp_seq_k fun K6 hK6=>wp_plain [true] rfl rfl (s_bin hE rfl rfl bin_lss rfl fun a hE=>?_)
   replace hE := hE.cast 19 rfl (show _ = Value.bool true from (congrArg Value.bool (by decide)))
   refine q_nil (hK6 _ _ (wp_seq_k fun K7 hK7=>wp_cond_true (hE.eval rfl) (wp_skip (hK7 _ _ (wp_seq_k fun K8 hK8=>wp_block (wp_seq_k fun K9 hK9=>wp_plain [true,true] rfl rfl ?_))))))
   refine s_move hE rfl rfl fun a hE=>s_assign hE rfl rfl fun a hE=>q_nil ?_
   replace hE : Env a 50 [(1,_),(2,_),(4,_),(5,_),(6,_),(7,_),(16,_),(18,_),(19,_)] := hE.sl rfl
   refine hK9 _ _ (wp_seq_k fun K10 hK10=>wp_plain [true,true,true,true,false,false] rfl rfl (s_move hE rfl rfl fun a hE=>s_fieldAddr hE rfl fo62_2 rfl fun a hE=>s_indexArr (j := 2) hE rfl rfl arr60 rfl (by decide) rfl fun a hE=>?_))
   refine s_loadN hE rfl (hM.get 1 rfl) row59 rfl (by intro X h;cases h) rfl fun a hE=>?_
   replace hE := hE.cast 24 rfl (show _ = Value.agg ([[.bool h.s2.1],[.int .i64 h.s2.2.1],bv h.s2.2.2.1,bv h.s2.2.2.2.1,bv h.s2.2.2.2.2] : List (List Value)).flatten.toArray from (by first | rfl | simp only [List.flatten_cons,List.flatten_nil,List.append_nil,List.append_assoc]))
   refine s_alloc [1,1,16,32,32] hE hM zeroL59 rfl rfl ?_;intro a b8 w6 hE hM'
   replace hM := hM'
   have hsl428_2 : h.s2.2.2.1.length = 16 := hk_h.s2.2.1
   have hsl428_3 : h.s2.2.2.2.1.length = 32 := hk_h.s2.2.2.1
   have hsl428_4 : h.s2.2.2.2.2.length = 32 := hk_h.s2.2.2.2
   refine s_storeSegs 0 5 (vss := [[.bool h.s2.1],[.int .i64 h.s2.2.1],bv h.s2.2.2.1,bv h.s2.2.2.2.1,bv h.s2.2.2.2.2]) hE rfl rfl hM rfl sz59 (by simp only [List.take_succ_cons,List.take_zero,List.drop_zero,List.drop_succ_cons];simp only [List.map_cons,List.map_nil,bv_length,List.length_cons,List.length_nil,List.length_replicate,hsl428_2,hsl428_3,hsl428_4]) (by decide) rfl (one_fl ⟨one1 rfl,one1 rfl,bv_one _,bv_one _,bv_one _,trivial⟩) rfl (by intro X h;cases h) ?_;intro w7 hM';replace hM := hM'
   try simp only [List.take_zero,List.take_succ_cons,List.drop_zero,List.drop_succ_cons,List.take_nil,List.drop_nil,List.nil_append,List.append_nil,List.cons_append] at hM
   refine q_nil ?_
   replace hE : Env a 50 [(1,_),(2,_),(4,_),(5,_),(6,_),(7,_),(8,_),(16,_),(18,_),(19,_)] := hE.sl rfl
   refine hK10 _ _ (wp_seq_k fun K11 hK11=>wp_seq_k fun K12 hK12=>wp_plain [true,true,true] rfl rfl (s_fieldAddr hE rfl fo59_0 rfl fun a hE=>s_load1 hE rfl (hM.get 0 rfl) rfl one4 (by intro X h;cases h) rfl fun a hE=>?_))
   refine s_not hE rfl rfl fun a hE=>q_nil ?_
   replace hE : Env a 50 [(1,_),(2,_),(4,_),(5,_),(6,_),(7,_),(8,_),(16,_),(18,_),(19,_),(27,_)] := hE.sl rfl
   refine hK12 _ _ ?_
   refine hE.split 27 rfl (fun hb27 hE=>?_) (fun hb27 hE=>?_)
   ·replace hb27 := not_true hb27
    refine wp_cond_true (hE.eval rfl) (wp_exit (q_then_e (q_block_x (hK8 _ _ (wp_plain [true,true] rfl rfl (s_bin hE rfl rfl (show Bin _ _ _ _ _ (.int .i64 3) from bin_add (by rw [wrap_i64 (by omega) (by omega)];omega)) rfl fun a hE=>?_))))))
    refine s_move hE rfl rfl fun a hE=>q_nil ?_
    replace hE : Env a 50 [(1,_),(2,_),(4,_),(5,_),(6,_),(7,_),(8,_),(16,_),(18,_),(19,_),(27,_)] := hE.sl rfl
    replace hM : Mem _ _ w7 [_,_,_,_] := hM.pick [1,2,3,4] rfl
    refine q_then_n ⟨(by first | exact op_unused hb27 | exact op_no hb27),hE.sel [1,2,4,5,6,16,18] rfl,hM⟩
   ·replace hb27 := not_false' hb27
    refine wp_cond_false (hE.eval rfl) (wp_skip (hK11 _ _ (wp_seq_k fun K13 hK13=>wp_plain [true,true,true,true,true,false,true,true,true,false,false,true] rfl rfl (s_move hE rfl rfl fun a hE=>s_fieldAddr hE rfl fo59_2 rfl fun a hE=>s_loadN hE rfl (hM.get 0 rfl) row57 rfl (by intro X h;cases h) rfl fun a hE=>?_))))
    refine s_fieldAddr hE rfl fo59_1 rfl fun a hE=>s_load1 hE rfl (hM.get 0 rfl) rfl one3 (by intro X h;cases h) rfl fun a hE=>?_
    refine s_call hE rfl Tryd.call56 (skey_c p h.s2.2.2.1 h.s2.2.1 _ (hM.get 3 rfl) hk_h.s2.2.1) rfl ?_
    rintro e w8 ⟨rfl,hN⟩
    refine ⟨_,rfl,trivial,fun a hE=>?_⟩
    replace hM : Mem _ _ w8 [_,_,_,_,_] := hM.call0 hN trivial;clear hN
    refine s_move hE rfl rfl fun a hE=>s_extract hE rfl rfl rfl fun a hE=>s_extract hE rfl rfl rfl fun a hE=>?_
    refine s_alloc [32] hE hM zero23 rfl rfl ?_;intro a b9 w9 hE hM'
    replace hM := hM'
    refine s_storeSeg 0 hE rfl rfl hM rfl sz23 ((bv_length _).trans (kK_len p h.s2.2.2.1 h.s2.2.1)) (bv_one _) rfl ((bv_length _).trans (by first | (simp;done) | (simp [*];done) | (simp;omega))) rfl (by intro X h;cases h) ?_;intro w10 hM';replace hM := hM'
    simp only [List.set_cons_zero,List.set_cons_succ] at hM
    refine s_assign hE rfl rfl fun a hE=>q_nil ?_
    replace hE : Env a 50 [(1,_),(2,_),(4,_),(5,_),(6,_),(7,_),(8,_),(9,_),(16,_),(18,_),(19,_),(27,_)] := hE.sl rfl
    refine hK13 _ _ (wp_seq_k fun K14 hK14=>wp_plain [true,true,true,false,true,true,true,false,false,true] rfl rfl (s_loadN hE rfl (hM.get 0 rfl) row23 rfl (by intro X h;cases h) rfl fun a hE=>?_))
    refine s_fieldAddr hE rfl fo59_3 rfl fun a hE=>s_loadN hE rfl (hM.get 1 rfl) row29 rfl (by intro X h;cases h) rfl fun a hE=>?_
    replace hE := hE.cast 40 rfl (show _ = Value.agg ([bv h.s2.2.2.2.1,bv h.s2.2.2.2.2] : List (List Value)).flatten.toArray from (by first | rfl | simp only [List.flatten_cons,List.flatten_nil,List.append_nil,List.append_assoc]))
    refine s_call hE rfl Tryd.call16 (unwrap_c (kK p h.s2.2.2.1 h.s2.2.1) [115,108,111,116] 0 h.s2.2.2.2.1 h.s2.2.2.2.2 _ (hM.get 4 rfl) (hM.get 5 rfl) (kK_len p h.s2.2.2.1 h.s2.2.1) hk_h.s2.2.2.1 hk_h.s2.2.2.2 (by have hl_0 : (kK p h.s2.2.2.1 h.s2.2.1).length = 32 := (kK_len p h.s2.2.2.1 h.s2.2.1);have hl_1 : [115,108,111,116].length = 4 := (by first | (simp;done) | (simp [*];done) | (simp;omega));have hl_3d : h.s2.2.2.2.1.length = 32 := hk_h.s2.2.2.1;have hl_3t : h.s2.2.2.2.2.length = 32 := hk_h.s2.2.2.2;first | omega | assumption | (simp;done) | (simp;omega) | decide) (by have hl_0 : (kK p h.s2.2.2.1 h.s2.2.1).length = 32 := (kK_len p h.s2.2.2.1 h.s2.2.1);have hl_1 : [115,108,111,116].length = 4 := (by first | (simp;done) | (simp [*];done) | (simp;omega));have hl_3d : h.s2.2.2.2.1.length = 32 := hk_h.s2.2.2.1;have hl_3t : h.s2.2.2.2.2.length = 32 := hk_h.s2.2.2.2;first | omega | assumption | (simp;done) | (simp;omega) | decide)) rfl ?_
    rintro e w11 ⟨rfl,hN⟩
    refine ⟨_,rfl,trivial,fun a hE=>?_⟩
    replace hM : Mem _ _ w11 [_,_,_,_,_,_] := hM.call0 hN trivial;clear hN
    refine s_move hE rfl rfl fun a hE=>s_extract hE rfl rfl rfl fun a hE=>s_extract hE rfl rfl rfl fun a hE=>?_
    refine s_alloc [32] hE hM zero23 rfl rfl ?_;intro a b11 w12 hE hM'
    replace hM := hM'
    refine s_storeSeg 0 hE rfl rfl hM rfl sz23 ((bv_length _).trans (unwK_len (k := (kK p h.s2.2.2.1 h.s2.2.1)) (l := [115,108,111,116]) (n := 0) (d := h.s2.2.2.2.1) (t := h.s2.2.2.2.2) (by have hl_std : h.s2.2.2.2.1.length = 32 := hk_h.s2.2.2.1;first | assumption | (simp;done)))) (bv_one _) rfl ((bv_length _).trans (by first | (simp;done) | (simp [*];done) | (simp;omega))) rfl (by intro X h;cases h) ?_;intro w13 hM';replace hM := hM'
    simp only [List.set_cons_zero,List.set_cons_succ] at hM
    refine s_assign hE rfl rfl fun a hE=>q_nil ?_
    replace hE : Env a 50 [(1,_),(2,_),(4,_),(5,_),(6,_),(7,_),(8,_),(9,_),(11,_),(12,_),(16,_),(18,_),(19,_),(27,_)] := hE.sl rfl
    refine hK14 _ _ (wp_seq_k fun K15 hK15=>wp_plain [true,true] rfl rfl (s_move hE rfl rfl fun a hE=>s_bin hE rfl rfl bin_eql rfl fun a hE=>q_nil ?_))
    replace hE : Env a 50 [(1,_),(2,_),(4,_),(5,_),(6,_),(7,_),(8,_),(9,_),(11,_),(12,_),(16,_),(18,_),(19,_),(27,_),(45,_)] := hE.sl rfl
    refine hK15 _ _ ?_
    refine hE.split 45 rfl (fun hb45 hE=>?_) (fun hb45 hE=>?_)
    ·replace hb45 := of_decide_eq_true hb45
     replace hb45 : (unwE (kK p h.s2.2.2.1 h.s2.2.1) [115,108,111,116] 0 h.s2.2.2.2.1 h.s2.2.2.2.2) = 0 := by omega
     obtain ⟨hoy,huk⟩ := op_yes (p := p) (s := h.s2) hb27 hb45
     simp only [slotT] at huk
     refine wp_cond_true (hE.eval rfl) (wp_seq_k fun K16 hK16=>wp_plain [true,true,false,true,true] rfl rfl (s_loadN hE rfl (hM.get 0 rfl) row23 rfl (by intro X h;cases h) rfl fun a hE=>?_))
     refine s_move hE rfl rfl fun a hE=>?_
     replace hM : Mem _ _ w13 [_,_,_,_,_,_,_] := hM.pick [3,0,1,2,4,5,6] rfl
     refine s_storeSeg 0 hE rfl rfl hM rfl sz23 ((bv_length _).trans (unwK_len (k := (kK p h.s2.2.2.1 h.s2.2.1)) (l := [115,108,111,116]) (n := 0) (d := h.s2.2.2.2.1) (t := h.s2.2.2.2.2) (by have hl_std : h.s2.2.2.2.1.length = 32 := hk_h.s2.2.2.1;first | assumption | (simp;done)))) (bv_one _) rfl ((bv_length _).trans (by first | (simp;done) | (simp [*];done) | (simp;omega))) rfl (by intro X h;cases h) ?_;intro w14 hM';replace hM := hM'
     simp only [List.set_cons_zero,List.set_cons_succ] at hM
     refine s_assign hE rfl rfl fun a hE=>s_assign hE rfl rfl fun a hE=>q_nil ?_
     replace hE : Env a 50 [(1,_),(2,_),(4,_),(5,_),(6,_),(7,_),(8,_),(9,_),(11,_),(12,_),(16,_),(18,_),(19,_),(27,_),(45,_)] := hE.sl rfl
     exact hK16 _ _ (wp_ret (q_block_r (q_then_r (q_then_r (q_block_r (q_then_r (f_ret3 hE rfl (res_cellN rfl (hM.get 0 rfl) row23 rfl) rfl rfl ⟨(by rw [huk];simp [unl,hoy,hJ4_0,hJ4_1,hb16]),hM.pick [] rfl⟩)))))))
    ·replace hb45 := of_decide_eq_false hb45
     replace hb45 : ¬ ((unwE (kK p h.s2.2.2.1 h.s2.2.1) [115,108,111,116] 0 h.s2.2.2.2.1 h.s2.2.2.2.2) = 0) := by omega
     refine wp_cond_false (hE.eval rfl) (wp_skip (q_block_n (hK8 _ _ (wp_plain [true,true] rfl rfl (s_bin hE rfl rfl (show Bin _ _ _ _ _ (.int .i64 3) from bin_add (by rw [wrap_i64 (by omega) (by omega)];omega)) rfl fun a hE=>?_)))))
     refine s_move hE rfl rfl fun a hE=>q_nil ?_
     replace hE : Env a 50 [(1,_),(2,_),(4,_),(5,_),(6,_),(7,_),(8,_),(9,_),(11,_),(12,_),(16,_),(18,_),(19,_),(27,_),(45,_)] := hE.sl rfl
     replace hM : Mem _ _ w13 [_,_,_,_] := hM.pick [3,4,5,6] rfl
     refine q_then_n ⟨(by first | exact op_unused hb27 | exact op_no hb45),hE.sel [1,2,4,5,6,16,18] rfl,hM⟩
  rintro a w6 ⟨hJ4_2,hE,hM⟩
  refine c_roundsJ (fun a w' => opS p h.s3 = false ∧ Env a 50 [(1,.string (str p)),(2,.pointer (some ⟨b2,0,none⟩)),(4,.pointer (some ⟨b4,0,none⟩)),(5,.int .i64 0),(6,.int .i64 0),(16,.bool false),(18,.int .i64 4)] ∧ Mem w [] w' [blk b4 [bv (List.replicate 32 (0 : UInt8))] [32] 23,blk b2 [[.int .i64 h.m],[.int .i64 h.r],[.bool h.v0.1],[.int .u64 ((h.v0.2.1 : Nat) : Int)],bv h.v0.2.2.1,bv h.v0.2.2.2,[.bool h.v1.1],[.int .u64 ((h.v1.2.1 : Nat) : Int)],bv h.v1.2.2.1,bv h.v1.2.2.2,[.bool h.s0.1],[.int .i64 h.s0.2.1],bv h.s0.2.2.1,bv h.s0.2.2.2.1,bv h.s0.2.2.2.2,[.bool h.s1.1],[.int .i64 h.s1.2.1],bv h.s1.2.2.1,bv h.s1.2.2.2.1,bv h.s1.2.2.2.2,[.bool h.s2.1],[.int .i64 h.s2.2.1],bv h.s2.2.2.1,bv h.s2.2.2.2.1,bv h.s2.2.2.2.2,[.bool h.s3.1],[.int .i64 h.s3.2.1],bv h.s3.2.2.1,bv h.s3.2.2.2.1,bv h.s3.2.2.2.2] [1,1,1,1,32,32,1,1,32,32,1,1,16,32,32,1,1,16,32,32,1,1,16,32,32,1,1,16,32,32] 62,glb 1,tabP]) ?_ ?_
  ·skip
   refine wp_seq_k fun K6 hK6=>wp_plain [true] rfl rfl (s_bin hE rfl rfl bin_lss rfl fun a hE=>?_)
   replace hE := hE.cast 19 rfl (show _ = Value.bool true from (congrArg Value.bool (by decide)))
   refine q_nil (hK6 _ _ (wp_seq_k fun K7 hK7=>wp_cond_true (hE.eval rfl) (wp_skip (hK7 _ _ (wp_seq_k fun K8 hK8=>wp_block (wp_seq_k fun K9 hK9=>wp_plain [true,true] rfl rfl ?_))))))
   refine s_move hE rfl rfl fun a hE=>s_assign hE rfl rfl fun a hE=>q_nil ?_
   replace hE : Env a 50 [(1,_),(2,_),(4,_),(5,_),(6,_),(7,_),(16,_),(18,_),(19,_)] := hE.sl rfl
   refine hK9 _ _ (wp_seq_k fun K10 hK10=>wp_plain [true,true,true,true,false,false] rfl rfl (s_move hE rfl rfl fun a hE=>s_fieldAddr hE rfl fo62_2 rfl fun a hE=>s_indexArr (j := 3) hE rfl rfl arr60 rfl (by decide) rfl fun a hE=>?_))
   refine s_loadN hE rfl (hM.get 1 rfl) row59 rfl (by intro X h;cases h) rfl fun a hE=>?_
   replace hE := hE.cast 24 rfl (show _ = Value.agg ([[.bool h.s3.1],[.int .i64 h.s3.2.1],bv h.s3.2.2.1,bv h.s3.2.2.2.1,bv h.s3.2.2.2.2] : List (List Value)).flatten.toArray from (by first | rfl | simp only [List.flatten_cons,List.flatten_nil,List.append_nil,List.append_assoc]))
   refine s_alloc [1,1,16,32,32] hE hM zeroL59 rfl rfl ?_;intro a b8 w7 hE hM'
   replace hM := hM'
   have hsl587_2 : h.s3.2.2.1.length = 16 := hk_h.s3.2.1
   have hsl587_3 : h.s3.2.2.2.1.length = 32 := hk_h.s3.2.2.1
   have hsl587_4 : h.s3.2.2.2.2.length = 32 := hk_h.s3.2.2.2
   refine s_storeSegs 0 5 (vss := [[.bool h.s3.1],[.int .i64 h.s3.2.1],bv h.s3.2.2.1,bv h.s3.2.2.2.1,bv h.s3.2.2.2.2]) hE rfl rfl hM rfl sz59 (by simp only [List.take_succ_cons,List.take_zero,List.drop_zero,List.drop_succ_cons];simp only [List.map_cons,List.map_nil,bv_length,List.length_cons,List.length_nil,List.length_replicate,hsl587_2,hsl587_3,hsl587_4]) (by decide) rfl (one_fl ⟨one1 rfl,one1 rfl,bv_one _,bv_one _,bv_one _,trivial⟩) rfl (by intro X h;cases h) ?_;intro w8 hM';replace hM := hM'
   try simp only [List.take_zero,List.take_succ_cons,List.drop_zero,List.drop_succ_cons,List.take_nil,List.drop_nil,List.nil_append,List.append_nil,List.cons_append] at hM
   refine q_nil ?_
   replace hE : Env a 50 [(1,_),(2,_),(4,_),(5,_),(6,_),(7,_),(8,_),(16,_),(18,_),(19,_)] := hE.sl rfl
   refine hK10 _ _ (wp_seq_k fun K11 hK11=>wp_seq_k fun K12 hK12=>wp_plain [true,true,true] rfl rfl (s_fieldAddr hE rfl fo59_0 rfl fun a hE=>s_load1 hE rfl (hM.get 0 rfl) rfl one4 (by intro X h;cases h) rfl fun a hE=>?_))
   refine s_not hE rfl rfl fun a hE=>q_nil ?_
   replace hE : Env a 50 [(1,_),(2,_),(4,_),(5,_),(6,_),(7,_),(8,_),(16,_),(18,_),(19,_),(27,_)] := hE.sl rfl
   refine hK12 _ _ ?_
   refine hE.split 27 rfl (fun hb27 hE=>?_) (fun hb27 hE=>?_)
   ·replace hb27 := not_true hb27
    refine wp_cond_true (hE.eval rfl) (wp_exit (q_then_e (q_block_x (hK8 _ _ (wp_plain [true,true] rfl rfl (s_bin hE rfl rfl (show Bin _ _ _ _ _ (.int .i64 4) from bin_add (by rw [wrap_i64 (by omega) (by omega)];omega)) rfl fun a hE=>?_))))))
    refine s_move hE rfl rfl fun a hE=>q_nil ?_
    replace hE : Env a 50 [(1,_),(2,_),(4,_),(5,_),(6,_),(7,_),(8,_),(16,_),(18,_),(19,_),(27,_)] := hE.sl rfl
    replace hM : Mem _ _ w8 [_,_,_,_] := hM.pick [1,2,3,4] rfl
    refine q_then_n ⟨(by first | exact op_unused hb27 | exact op_no hb27),hE.sel [1,2,4,5,6,16,18] rfl,hM⟩
   ·replace hb27 := not_false' hb27
    refine wp_cond_false (hE.eval rfl) (wp_skip (hK11 _ _ (wp_seq_k fun K13 hK13=>wp_plain [true,true,true,true,true,false,true,true,true,false,false,true] rfl rfl (s_move hE rfl rfl fun a hE=>s_fieldAddr hE rfl fo59_2 rfl fun a hE=>s_loadN hE rfl (hM.get 0 rfl) row57 rfl (by intro X h;cases h) rfl fun a hE=>?_))))
    refine s_fieldAddr hE rfl fo59_1 rfl fun a hE=>s_load1 hE rfl (hM.get 0 rfl) rfl one3 (by intro X h;cases h) rfl fun a hE=>?_
    refine s_call hE rfl Tryd.call56 (skey_c p h.s3.2.2.1 h.s3.2.1 _ (hM.get 3 rfl) hk_h.s3.2.1) rfl ?_
    rintro e w9 ⟨rfl,hN⟩
    refine ⟨_,rfl,trivial,fun a hE=>?_⟩
    replace hM : Mem _ _ w9 [_,_,_,_,_] := hM.call0 hN trivial;clear hN
    refine s_move hE rfl rfl fun a hE=>s_extract hE rfl rfl rfl fun a hE=>s_extract hE rfl rfl rfl fun a hE=>?_
    refine s_alloc [32] hE hM zero23 rfl rfl ?_;intro a b9 w10 hE hM'
    replace hM := hM'
    refine s_storeSeg 0 hE rfl rfl hM rfl sz23 ((bv_length _).trans (kK_len p h.s3.2.2.1 h.s3.2.1)) (bv_one _) rfl ((bv_length _).trans (by first | (simp;done) | (simp [*];done) | (simp;omega))) rfl (by intro X h;cases h) ?_;intro w11 hM';replace hM := hM'
    simp only [List.set_cons_zero,List.set_cons_succ] at hM
    refine s_assign hE rfl rfl fun a hE=>q_nil ?_
    replace hE : Env a 50 [(1,_),(2,_),(4,_),(5,_),(6,_),(7,_),(8,_),(9,_),(16,_),(18,_),(19,_),(27,_)] := hE.sl rfl
    refine hK13 _ _ (wp_seq_k fun K14 hK14=>wp_plain [true,true,true,false,true,true,true,false,false,true] rfl rfl (s_loadN hE rfl (hM.get 0 rfl) row23 rfl (by intro X h;cases h) rfl fun a hE=>?_))
    refine s_fieldAddr hE rfl fo59_3 rfl fun a hE=>s_loadN hE rfl (hM.get 1 rfl) row29 rfl (by intro X h;cases h) rfl fun a hE=>?_
    replace hE := hE.cast 40 rfl (show _ = Value.agg ([bv h.s3.2.2.2.1,bv h.s3.2.2.2.2] : List (List Value)).flatten.toArray from (by first | rfl | simp only [List.flatten_cons,List.flatten_nil,List.append_nil,List.append_assoc]))
    refine s_call hE rfl Tryd.call16 (unwrap_c (kK p h.s3.2.2.1 h.s3.2.1) [115,108,111,116] 0 h.s3.2.2.2.1 h.s3.2.2.2.2 _ (hM.get 4 rfl) (hM.get 5 rfl) (kK_len p h.s3.2.2.1 h.s3.2.1) hk_h.s3.2.2.1 hk_h.s3.2.2.2 (by have hl_0 : (kK p h.s3.2.2.1 h.s3.2.1).length = 32 := (kK_len p h.s3.2.2.1 h.s3.2.1);have hl_1 : [115,108,111,116].length = 4 := (by first | (simp;done) | (simp [*];done) | (simp;omega));have hl_3d : h.s3.2.2.2.1.length = 32 := hk_h.s3.2.2.1;have hl_3t : h.s3.2.2.2.2.length = 32 := hk_h.s3.2.2.2;first | omega | assumption | (simp;done) | (simp;omega) | decide) (by have hl_0 : (kK p h.s3.2.2.1 h.s3.2.1).length = 32 := (kK_len p h.s3.2.2.1 h.s3.2.1);have hl_1 : [115,108,111,116].length = 4 := (by first | (simp;done) | (simp [*];done) | (simp;omega));have hl_3d : h.s3.2.2.2.1.length = 32 := hk_h.s3.2.2.1;have hl_3t : h.s3.2.2.2.2.length = 32 := hk_h.s3.2.2.2;first | omega | assumption | (simp;done) | (simp;omega) | decide)) rfl ?_
    rintro e w12 ⟨rfl,hN⟩
    refine ⟨_,rfl,trivial,fun a hE=>?_⟩
    replace hM : Mem _ _ w12 [_,_,_,_,_,_] := hM.call0 hN trivial;clear hN
    refine s_move hE rfl rfl fun a hE=>s_extract hE rfl rfl rfl fun a hE=>s_extract hE rfl rfl rfl fun a hE=>?_
    refine s_alloc [32] hE hM zero23 rfl rfl ?_;intro a b11 w13 hE hM'
    replace hM := hM'
    refine s_storeSeg 0 hE rfl rfl hM rfl sz23 ((bv_length _).trans (unwK_len (k := (kK p h.s3.2.2.1 h.s3.2.1)) (l := [115,108,111,116]) (n := 0) (d := h.s3.2.2.2.1) (t := h.s3.2.2.2.2) (by have hl_std : h.s3.2.2.2.1.length = 32 := hk_h.s3.2.2.1;first | assumption | (simp;done)))) (bv_one _) rfl ((bv_length _).trans (by first | (simp;done) | (simp [*];done) | (simp;omega))) rfl (by intro X h;cases h) ?_;intro w14 hM';replace hM := hM'
    simp only [List.set_cons_zero,List.set_cons_succ] at hM
    refine s_assign hE rfl rfl fun a hE=>q_nil ?_
    replace hE : Env a 50 [(1,_),(2,_),(4,_),(5,_),(6,_),(7,_),(8,_),(9,_),(11,_),(12,_),(16,_),(18,_),(19,_),(27,_)] := hE.sl rfl
    refine hK14 _ _ (wp_seq_k fun K15 hK15=>wp_plain [true,true] rfl rfl (s_move hE rfl rfl fun a hE=>s_bin hE rfl rfl bin_eql rfl fun a hE=>q_nil ?_))
    replace hE : Env a 50 [(1,_),(2,_),(4,_),(5,_),(6,_),(7,_),(8,_),(9,_),(11,_),(12,_),(16,_),(18,_),(19,_),(27,_),(45,_)] := hE.sl rfl
    refine hK15 _ _ ?_
    refine hE.split 45 rfl (fun hb45 hE=>?_) (fun hb45 hE=>?_)
    ·replace hb45 := of_decide_eq_true hb45
     replace hb45 : (unwE (kK p h.s3.2.2.1 h.s3.2.1) [115,108,111,116] 0 h.s3.2.2.2.1 h.s3.2.2.2.2) = 0 := by omega
     obtain ⟨hoy,huk⟩ := op_yes (p := p) (s := h.s3) hb27 hb45
     simp only [slotT] at huk
     refine wp_cond_true (hE.eval rfl) (wp_seq_k fun K16 hK16=>wp_plain [true,true,false,true,true] rfl rfl (s_loadN hE rfl (hM.get 0 rfl) row23 rfl (by intro X h;cases h) rfl fun a hE=>?_))
     refine s_move hE rfl rfl fun a hE=>?_
     replace hM : Mem _ _ w14 [_,_,_,_,_,_,_] := hM.pick [3,0,1,2,4,5,6] rfl
     refine s_storeSeg 0 hE rfl rfl hM rfl sz23 ((bv_length _).trans (unwK_len (k := (kK p h.s3.2.2.1 h.s3.2.1)) (l := [115,108,111,116]) (n := 0) (d := h.s3.2.2.2.1) (t := h.s3.2.2.2.2) (by have hl_std : h.s3.2.2.2.1.length = 32 := hk_h.s3.2.2.1;first | assumption | (simp;done)))) (bv_one _) rfl ((bv_length _).trans (by first | (simp;done) | (simp [*];done) | (simp;omega))) rfl (by intro X h;cases h) ?_;intro w15 hM';replace hM := hM'
     simp only [List.set_cons_zero,List.set_cons_succ] at hM
     refine s_assign hE rfl rfl fun a hE=>s_assign hE rfl rfl fun a hE=>q_nil ?_
     replace hE : Env a 50 [(1,_),(2,_),(4,_),(5,_),(6,_),(7,_),(8,_),(9,_),(11,_),(12,_),(16,_),(18,_),(19,_),(27,_),(45,_)] := hE.sl rfl
     exact hK16 _ _ (wp_ret (q_block_r (q_then_r (q_then_r (q_block_r (q_then_r (f_ret3 hE rfl (res_cellN rfl (hM.get 0 rfl) row23 rfl) rfl rfl ⟨(by rw [huk];simp [unl,hoy,hJ4_0,hJ4_1,hJ4_2,hb16]),hM.pick [] rfl⟩)))))))
    ·replace hb45 := of_decide_eq_false hb45
     replace hb45 : ¬ ((unwE (kK p h.s3.2.2.1 h.s3.2.1) [115,108,111,116] 0 h.s3.2.2.2.1 h.s3.2.2.2.2) = 0) := by omega
     refine wp_cond_false (hE.eval rfl) (wp_skip (q_block_n (hK8 _ _ (wp_plain [true,true] rfl rfl (s_bin hE rfl rfl (show Bin _ _ _ _ _ (.int .i64 4) from bin_add (by rw [wrap_i64 (by omega) (by omega)];omega)) rfl fun a hE=>?_)))))
     refine s_move hE rfl rfl fun a hE=>q_nil ?_
     replace hE : Env a 50 [(1,_),(2,_),(4,_),(5,_),(6,_),(7,_),(8,_),(9,_),(11,_),(12,_),(16,_),(18,_),(19,_),(27,_),(45,_)] := hE.sl rfl
     replace hM : Mem _ _ w14 [_,_,_,_] := hM.pick [3,4,5,6] rfl
     refine q_then_n ⟨(by first | exact op_unused hb27 | exact op_no hb45),hE.sel [1,2,4,5,6,16,18] rfl,hM⟩
  rintro a w7 ⟨hJ4_3,hE,hM⟩
  refine c_rounds (wp_seq_k fun K6 hK6=>wp_plain [true] rfl rfl (s_bin hE rfl rfl bin_lss rfl fun a hE=>?_))
  replace hE := hE.cast 19 rfl (show _ = Value.bool false from (congrArg Value.bool (by decide)))
  refine q_nil (hK6 _ _ (wp_seq_k fun K7 hK7=>wp_cond_false (hE.eval rfl) (wp_exit (q_then_e (q_then_e (q_block_x (hK4 _ _ (wp_seq_k fun K8 hK8=>?_))))))))
  refine wp_plain [true,false,true,true] rfl rfl (s_build (r := .agg (bv (List.replicate 32 (0 : UInt8))).toArray) _ hE rfl (fun w => by kernel_rfl) rfl fun a hE=>?_)
  refine s_storeSeg 0 hE rfl rfl hM rfl sz23 ((bv_length _).trans (by first | (simp;done) | (simp [*];done) | (simp;omega))) (bv_one _) rfl ((bv_length _).trans (by first | (simp;done) | (simp [*];done) | (simp;omega))) rfl (by intro X h;cases h) ?_;intro w8 hM';replace hM := hM'
  simp only [List.set_cons_zero,List.set_cons_succ] at hM
  refine s_assign hE rfl rfl fun a hE=>s_assign hE rfl rfl fun a hE=>q_nil ?_
  replace hE : Env a 50 [(1,_),(2,_),(4,_),(5,_),(6,_),(16,_),(18,_),(19,_)] := hE.sl rfl
  exact hK8 _ _ (wp_ret (f_ret3 hE rfl (res_cellN rfl (hM.get 0 rfl) row23 rfl) rfl rfl ⟨(by simp [unl,hJ4_0,hJ4_1,hJ4_2,hJ4_3,hb16]),hM.pick [] rfl⟩))
theorem used_c (h : Hd) (w : World) (hk_h : OkHd h) : Calls Tryd.prog 35 #[.agg ([[.int .i64 h.m],[.int .i64 h.r],[.bool h.v0.1],[.int .u64 ((h.v0.2.1 : Nat) : Int)],bv h.v0.2.2.1,bv h.v0.2.2.2,[.bool h.v1.1],[.int .u64 ((h.v1.2.1 : Nat) : Int)],bv h.v1.2.2.1,bv h.v1.2.2.2,[.bool h.s0.1],[.int .i64 h.s0.2.1],bv h.s0.2.2.1,bv h.s0.2.2.2.1,bv h.s0.2.2.2.2,[.bool h.s1.1],[.int .i64 h.s1.2.1],bv h.s1.2.2.1,bv h.s1.2.2.2.1,bv h.s1.2.2.2.2,[.bool h.s2.1],[.int .i64 h.s2.2.1],bv h.s2.2.2.1,bv h.s2.2.2.2.1,bv h.s2.2.2.2.2,[.bool h.s3.1],[.int .i64 h.s3.2.1],bv h.s3.2.2.1,bv h.s3.2.2.2.1,bv h.s3.2.2.2.2] : List (List Value)).flatten.toArray] w fun e w' => ∃ v'0,e = .returned (v'0) ∧ Mem w [] w' [own v'0 1 ((usedL h).length) ((usedL h).flatMap intC)] := by
 have hp0 := usedP_len h 0
 have hp1 := usedP_len h 1
 have hp2 := usedP_len h 2
 have hp3 := usedP_len h 3
 have hp4 := usedP_len h 4
 have hM := Mem.start0 w
 refine f_enter 18 Tryd.func35 rfl rfl rfl ?_
 intro a hE
 replace hE : Env a 18 [(0,_)] := hE
 refine wp_seq_k fun K1 hK1=>wp_plain [false,true] rfl rfl ?_
 have hbl1_4 : h.v0.2.2.1.length = 32 := hk_h.v0.2.1
 have hbl1_5 : h.v0.2.2.2.length = 32 := hk_h.v0.2.2
 have hbl1_8 : h.v1.2.2.1.length = 32 := hk_h.v1.2.1
 have hbl1_9 : h.v1.2.2.2.length = 32 := hk_h.v1.2.2
 have hbl1_12 : h.s0.2.2.1.length = 16 := hk_h.s0.2.1
 have hbl1_13 : h.s0.2.2.2.1.length = 32 := hk_h.s0.2.2.1
 have hbl1_14 : h.s0.2.2.2.2.length = 32 := hk_h.s0.2.2.2
 have hbl1_17 : h.s1.2.2.1.length = 16 := hk_h.s1.2.1
 have hbl1_18 : h.s1.2.2.2.1.length = 32 := hk_h.s1.2.2.1
 have hbl1_19 : h.s1.2.2.2.2.length = 32 := hk_h.s1.2.2.2
 have hbl1_22 : h.s2.2.2.1.length = 16 := hk_h.s2.2.1
 have hbl1_23 : h.s2.2.2.2.1.length = 32 := hk_h.s2.2.2.1
 have hbl1_24 : h.s2.2.2.2.2.length = 32 := hk_h.s2.2.2.2
 have hbl1_27 : h.s3.2.2.1.length = 16 := hk_h.s3.2.1
 have hbl1_28 : h.s3.2.2.2.1.length = 32 := hk_h.s3.2.2.1
 have hbl1_29 : h.s3.2.2.2.2.length = 32 := hk_h.s3.2.2.2
 refine s_box (ss := [[.int .i64 h.m],[.int .i64 h.r],[.bool h.v0.1],[.int .u64 ((h.v0.2.1 : Nat) : Int)],bv h.v0.2.2.1,bv h.v0.2.2.2,[.bool h.v1.1],[.int .u64 ((h.v1.2.1 : Nat) : Int)],bv h.v1.2.2.1,bv h.v1.2.2.2,[.bool h.s0.1],[.int .i64 h.s0.2.1],bv h.s0.2.2.1,bv h.s0.2.2.2.1,bv h.s0.2.2.2.2,[.bool h.s1.1],[.int .i64 h.s1.2.1],bv h.s1.2.2.1,bv h.s1.2.2.2.1,bv h.s1.2.2.2.2,[.bool h.s2.1],[.int .i64 h.s2.2.1],bv h.s2.2.2.1,bv h.s2.2.2.2.1,bv h.s2.2.2.2.2,[.bool h.s3.1],[.int .i64 h.s3.2.1],bv h.s3.2.2.1,bv h.s3.2.2.2.1,bv h.s3.2.2.2.2]) [1,1,1,1,32,32,1,1,32,32,1,1,16,32,32,1,1,16,32,32,1,1,16,32,32,1,1,16,32,32] hE hM rfl rfl (by simp only [List.map_cons,List.map_nil,bv_length,List.length_cons,List.length_nil,List.length_replicate,hbl1_4,hbl1_5,hbl1_8,hbl1_9,hbl1_12,hbl1_13,hbl1_14,hbl1_17,hbl1_18,hbl1_19,hbl1_22,hbl1_23,hbl1_24,hbl1_27,hbl1_28,hbl1_29]) rfl ?_;intro a b1 w1 hE hM'
 replace hM := hM'
 refine s_assign hE rfl rfl fun a hE=>q_nil ?_
 replace hE : Env a 18 [(1,_),(2,_)] := hE.sl rfl
 refine hK1 _ _ (wp_seq_k fun K2 hK2=>wp_seq_k fun K3 hK3=>wp_plain [true] rfl rfl (s_move hE rfl rfl fun a hE=>q_nil (hK3 _ _ (wp_block ?_))))
 replace hM := hM.addNil 1
 replace hM := hM.ownEq (m' := ([] : List Nat).length) (cs' := ([] : List Nat).flatMap intC) rfl rfl
 replace hM := Mem.ownRowsEq (f := intC) (ls := ([] : List Nat)) (ms := usedP h 0) hM rfl
 refine wp_loop_rounds 5 ?_
 refine c_roundsJ (fun a w' => ∃ vu2,True ∧ Env a 18 [(1,.pointer (some ⟨b1,0,none⟩)),(2,vu2),(4,.int .i64 1)] ∧ Mem w [] w' [own vu2 1 ((usedP h 1).length) ((usedP h 1).flatMap intC),blk b1 [[.int .i64 h.m],[.int .i64 h.r],[.bool h.v0.1],[.int .u64 ((h.v0.2.1 : Nat) : Int)],bv h.v0.2.2.1,bv h.v0.2.2.2,[.bool h.v1.1],[.int .u64 ((h.v1.2.1 : Nat) : Int)],bv h.v1.2.2.1,bv h.v1.2.2.2,[.bool h.s0.1],[.int .i64 h.s0.2.1],bv h.s0.2.2.1,bv h.s0.2.2.2.1,bv h.s0.2.2.2.2,[.bool h.s1.1],[.int .i64 h.s1.2.1],bv h.s1.2.2.1,bv h.s1.2.2.2.1,bv h.s1.2.2.2.2,[.bool h.s2.1],[.int .i64 h.s2.2.1],bv h.s2.2.2.1,bv h.s2.2.2.2.1,bv h.s2.2.2.2.2,[.bool h.s3.1],[.int .i64 h.s3.2.1],bv h.s3.2.2.1,bv h.s3.2.2.2.1,bv h.s3.2.2.2.2] [1,1,1,1,32,32,1,1,32,32,1,1,16,32,32,1,1,16,32,32,1,1,16,32,32,1,1,16,32,32] 62]) ?_ ?_
 ·skip
  refine wp_seq_k fun K4 hK4=>wp_plain [true] rfl rfl (s_bin hE rfl rfl bin_lss rfl fun a hE=>?_)
  replace hE := hE.cast 5 rfl (show _ = Value.bool true from (congrArg Value.bool (by decide)))
  refine q_nil (hK4 _ _ (wp_seq_k fun K5 hK5=>wp_cond_true (hE.eval rfl) (wp_skip (hK5 _ _ (wp_seq_k fun K6 hK6=>wp_block (wp_seq_k fun K7 hK7=>wp_plain [true,true] rfl rfl ?_))))))
  refine s_move hE rfl rfl fun a hE=>s_assign hE rfl rfl fun a hE=>q_nil ?_
  replace hE : Env a 18 [(1,_),(2,_),(3,_),(4,_),(5,_)] := hE.sl rfl
  refine hK7 _ _ (wp_seq_k fun K8 hK8=>wp_plain [true,true,true,true,true] rfl rfl (s_move hE rfl rfl fun a hE=>s_fieldAddr hE rfl fo62_2 rfl fun a hE=>s_indexArr (j := 0) hE rfl rfl arr60 rfl (by decide) rfl fun a hE=>?_))
  refine s_fieldAddr hE rfl fo59_0 rfl fun a hE=>s_load1 hE rfl (hM.get 1 rfl) rfl one4 (by intro X h;cases h) rfl fun a hE=>?_
  refine q_nil ?_
  replace hE : Env a 18 [(1,_),(2,_),(3,_),(4,_),(5,_),(11,_)] := hE.sl rfl
  refine hK8 _ _ ?_
  refine hE.split 11 rfl (fun hb11 hE=>?_) (fun hb11 hE=>?_)
  ·refine wp_cond_true (hE.eval rfl) (wp_plain [true,true,false,false,true] rfl rfl (s_move hE rfl rfl fun a hE=>s_move hE rfl rfl fun a hE=>?_))
   refine s_buildSlice (xs := [.tmp 13]) ([.int .i64 0]) hE hM sl77 rfl rfl rfl (by intro v hv;simp only [List.mem_cons,List.not_mem_nil,or_false] at hv;rcases hv with rfl <;> rfl) rfl rfl rfl rfl ?_;intro a v14 w2 hE hM'
   replace hM := hM'
   replace hM := hM.ownEq (m' := ([0] : List Nat).length) (cs' := ([0] : List Nat).flatMap intC) rfl rfl
   replace hM : Mem _ _ w2 [_,_,_] := hM.pick [1,0,2] rfl
   obtain ⟨cq1,hq1⟩ := own_rd (hM.get 1 rfl)
   refine s_append hE rfl rfl hM sl77 (Src.rd Tryd.underlying77 hq1 (intCs_one _)) (len47 (by first | omega | (simp;done) | (simp;omega))) (by first | omega | (simp;done) | (simp;omega)) (by intro X h;cases h) rfl ?_;intro a v15 w3 hE hM';replace hM := hM'
   replace hM := Mem.ownRowsL (f := intC) (ls := usedP h 0) (ms := ([0] : List Nat)) hM rfl rfl
   replace hM : Mem _ _ w3 [_,_] := hM.pick [0,2] rfl
   refine s_assign hE rfl rfl fun a hE=>q_nil ?_
   replace hE : Env a 18 [(1,_),(2,_),(3,_),(4,_),(5,_),(11,_)] := hE.sl rfl
   refine q_block_n (hK6 _ _ (wp_plain [true,true] rfl rfl (s_bin hE rfl rfl (show Bin _ _ _ _ _ (.int .i64 1) from bin_add (by rw [wrap_i64 (by omega) (by omega)];omega)) rfl fun a hE=>?_)))
   refine s_move hE rfl rfl fun a hE=>q_nil ?_
   replace hE : Env a 18 [(1,_),(2,_),(3,_),(4,_),(5,_),(11,_)] := hE.sl rfl
   replace hM := Mem.ownRowsEq (f := intC) (ls := (usedP h 0) ++ ([0] : List Nat)) (ms := usedP h 1) hM (by simp [usedP,getS,hb11])
   replace hM : Mem _ _ w3 [_,_] := hM.pick [0,1] rfl
   refine q_then_n ⟨_,trivial,hE.sel [1,2,4] rfl,hM⟩
  ·refine wp_cond_false (hE.eval rfl) (wp_skip (q_block_n (hK6 _ _ (wp_plain [true,true] rfl rfl (s_bin hE rfl rfl (show Bin _ _ _ _ _ (.int .i64 1) from bin_add (by rw [wrap_i64 (by omega) (by omega)];omega)) rfl fun a hE=>?_)))))
   refine s_move hE rfl rfl fun a hE=>q_nil ?_
   replace hE : Env a 18 [(1,_),(2,_),(3,_),(4,_),(5,_),(11,_)] := hE.sl rfl
   replace hM := Mem.ownRowsEq (f := intC) (ls := usedP h 0) (ms := usedP h 1) hM (by simp [usedP,getS,hb11])
   replace hM : Mem _ _ w1 [_,_] := hM.pick [0,1] rfl
   refine q_then_n ⟨_,trivial,hE.sel [1,2,4] rfl,hM⟩
 rintro a w2 ⟨vu2,hJ2_0,hE,hM⟩
 refine c_roundsJ (fun a w' => ∃ vu2,True ∧ Env a 18 [(1,.pointer (some ⟨b1,0,none⟩)),(2,vu2),(4,.int .i64 2)] ∧ Mem w [] w' [own vu2 1 ((usedP h 2).length) ((usedP h 2).flatMap intC),blk b1 [[.int .i64 h.m],[.int .i64 h.r],[.bool h.v0.1],[.int .u64 ((h.v0.2.1 : Nat) : Int)],bv h.v0.2.2.1,bv h.v0.2.2.2,[.bool h.v1.1],[.int .u64 ((h.v1.2.1 : Nat) : Int)],bv h.v1.2.2.1,bv h.v1.2.2.2,[.bool h.s0.1],[.int .i64 h.s0.2.1],bv h.s0.2.2.1,bv h.s0.2.2.2.1,bv h.s0.2.2.2.2,[.bool h.s1.1],[.int .i64 h.s1.2.1],bv h.s1.2.2.1,bv h.s1.2.2.2.1,bv h.s1.2.2.2.2,[.bool h.s2.1],[.int .i64 h.s2.2.1],bv h.s2.2.2.1,bv h.s2.2.2.2.1,bv h.s2.2.2.2.2,[.bool h.s3.1],[.int .i64 h.s3.2.1],bv h.s3.2.2.1,bv h.s3.2.2.2.1,bv h.s3.2.2.2.2] [1,1,1,1,32,32,1,1,32,32,1,1,16,32,32,1,1,16,32,32,1,1,16,32,32,1,1,16,32,32] 62]) ?_ ?_
 ·skip
  refine wp_seq_k fun K4 hK4=>wp_plain [true] rfl rfl (s_bin hE rfl rfl bin_lss rfl fun a hE=>?_)
  replace hE := hE.cast 5 rfl (show _ = Value.bool true from (congrArg Value.bool (by decide)))
  refine q_nil (hK4 _ _ (wp_seq_k fun K5 hK5=>wp_cond_true (hE.eval rfl) (wp_skip (hK5 _ _ (wp_seq_k fun K6 hK6=>wp_block (wp_seq_k fun K7 hK7=>wp_plain [true,true] rfl rfl ?_))))))
  refine s_move hE rfl rfl fun a hE=>s_assign hE rfl rfl fun a hE=>q_nil ?_
  replace hE : Env a 18 [(1,_),(2,_),(3,_),(4,_),(5,_)] := hE.sl rfl
  refine hK7 _ _ (wp_seq_k fun K8 hK8=>wp_plain [true,true,true,true,true] rfl rfl (s_move hE rfl rfl fun a hE=>s_fieldAddr hE rfl fo62_2 rfl fun a hE=>s_indexArr (j := 1) hE rfl rfl arr60 rfl (by decide) rfl fun a hE=>?_))
  refine s_fieldAddr hE rfl fo59_0 rfl fun a hE=>s_load1 hE rfl (hM.get 1 rfl) rfl one4 (by intro X h;cases h) rfl fun a hE=>?_
  refine q_nil ?_
  replace hE : Env a 18 [(1,_),(2,_),(3,_),(4,_),(5,_),(11,_)] := hE.sl rfl
  refine hK8 _ _ ?_
  refine hE.split 11 rfl (fun hb11 hE=>?_) (fun hb11 hE=>?_)
  ·refine wp_cond_true (hE.eval rfl) (wp_plain [true,true,false,false,true] rfl rfl (s_move hE rfl rfl fun a hE=>s_move hE rfl rfl fun a hE=>?_))
   refine s_buildSlice (xs := [.tmp 13]) ([.int .i64 1]) hE hM sl77 rfl rfl rfl (by intro v hv;simp only [List.mem_cons,List.not_mem_nil,or_false] at hv;rcases hv with rfl <;> rfl) rfl rfl rfl rfl ?_;intro a v14 w3 hE hM'
   replace hM := hM'
   replace hM := hM.ownEq (m' := ([1] : List Nat).length) (cs' := ([1] : List Nat).flatMap intC) rfl rfl
   replace hM : Mem _ _ w3 [_,_,_] := hM.pick [1,0,2] rfl
   obtain ⟨cq2,hq2⟩ := own_rd (hM.get 1 rfl)
   refine s_append hE rfl rfl hM sl77 (Src.rd Tryd.underlying77 hq2 (intCs_one _)) (len47 (by first | omega | (simp;done) | (simp;omega))) (by first | omega | (simp;done) | (simp;omega)) (by intro X h;cases h) rfl ?_;intro a v15 w4 hE hM';replace hM := hM'
   replace hM := Mem.ownRowsL (f := intC) (ls := usedP h 1) (ms := ([1] : List Nat)) hM rfl rfl
   replace hM : Mem _ _ w4 [_,_] := hM.pick [0,2] rfl
   refine s_assign hE rfl rfl fun a hE=>q_nil ?_
   replace hE : Env a 18 [(1,_),(2,_),(3,_),(4,_),(5,_),(11,_)] := hE.sl rfl
   refine q_block_n (hK6 _ _ (wp_plain [true,true] rfl rfl (s_bin hE rfl rfl (show Bin _ _ _ _ _ (.int .i64 2) from bin_add (by rw [wrap_i64 (by omega) (by omega)];omega)) rfl fun a hE=>?_)))
   refine s_move hE rfl rfl fun a hE=>q_nil ?_
   replace hE : Env a 18 [(1,_),(2,_),(3,_),(4,_),(5,_),(11,_)] := hE.sl rfl
   replace hM := Mem.ownRowsEq (f := intC) (ls := (usedP h 1) ++ ([1] : List Nat)) (ms := usedP h 2) hM (by simp [usedP,getS,hb11])
   replace hM : Mem _ _ w4 [_,_] := hM.pick [0,1] rfl
   refine q_then_n ⟨_,trivial,hE.sel [1,2,4] rfl,hM⟩
  ·refine wp_cond_false (hE.eval rfl) (wp_skip (q_block_n (hK6 _ _ (wp_plain [true,true] rfl rfl (s_bin hE rfl rfl (show Bin _ _ _ _ _ (.int .i64 2) from bin_add (by rw [wrap_i64 (by omega) (by omega)];omega)) rfl fun a hE=>?_)))))
   refine s_move hE rfl rfl fun a hE=>q_nil ?_
   replace hE : Env a 18 [(1,_),(2,_),(3,_),(4,_),(5,_),(11,_)] := hE.sl rfl
   replace hM := Mem.ownRowsEq (f := intC) (ls := usedP h 1) (ms := usedP h 2) hM (by simp [usedP,getS,hb11])
   replace hM : Mem _ _ w2 [_,_] := hM.pick [0,1] rfl
   refine q_then_n ⟨_,trivial,hE.sel [1,2,4] rfl,hM⟩
 rintro a w3 ⟨vu2,hJ2_1,hE,hM⟩
 refine c_roundsJ (fun a w' => ∃ vu2,True ∧ Env a 18 [(1,.pointer (some ⟨b1,0,none⟩)),(2,vu2),(4,.int .i64 3)] ∧ Mem w [] w' [own vu2 1 ((usedP h 3).length) ((usedP h 3).flatMap intC),blk b1 [[.int .i64 h.m],[.int .i64 h.r],[.bool h.v0.1],[.int .u64 ((h.v0.2.1 : Nat) : Int)],bv h.v0.2.2.1,bv h.v0.2.2.2,[.bool h.v1.1],[.int .u64 ((h.v1.2.1 : Nat) : Int)],bv h.v1.2.2.1,bv h.v1.2.2.2,[.bool h.s0.1],[.int .i64 h.s0.2.1],bv h.s0.2.2.1,bv h.s0.2.2.2.1,bv h.s0.2.2.2.2,[.bool h.s1.1],[.int .i64 h.s1.2.1],bv h.s1.2.2.1,bv h.s1.2.2.2.1,bv h.s1.2.2.2.2,[.bool h.s2.1],[.int .i64 h.s2.2.1],bv h.s2.2.2.1,bv h.s2.2.2.2.1,bv h.s2.2.2.2.2,[.bool h.s3.1],[.int .i64 h.s3.2.1],bv h.s3.2.2.1,bv h.s3.2.2.2.1,bv h.s3.2.2.2.2] [1,1,1,1,32,32,1,1,32,32,1,1,16,32,32,1,1,16,32,32,1,1,16,32,32,1,1,16,32,32] 62]) ?_ ?_
 ·skip
  refine wp_seq_k fun K4 hK4=>wp_plain [true] rfl rfl (s_bin hE rfl rfl bin_lss rfl fun a hE=>?_)
  replace hE := hE.cast 5 rfl (show _ = Value.bool true from (congrArg Value.bool (by decide)))
  refine q_nil (hK4 _ _ (wp_seq_k fun K5 hK5=>wp_cond_true (hE.eval rfl) (wp_skip (hK5 _ _ (wp_seq_k fun K6 hK6=>wp_block (wp_seq_k fun K7 hK7=>wp_plain [true,true] rfl rfl ?_))))))
  refine s_move hE rfl rfl fun a hE=>s_assign hE rfl rfl fun a hE=>q_nil ?_
  replace hE : Env a 18 [(1,_),(2,_),(3,_),(4,_),(5,_)] := hE.sl rfl
  refine hK7 _ _ (wp_seq_k fun K8 hK8=>wp_plain [true,true,true,true,true] rfl rfl (s_move hE rfl rfl fun a hE=>s_fieldAddr hE rfl fo62_2 rfl fun a hE=>s_indexArr (j := 2) hE rfl rfl arr60 rfl (by decide) rfl fun a hE=>?_))
  refine s_fieldAddr hE rfl fo59_0 rfl fun a hE=>s_load1 hE rfl (hM.get 1 rfl) rfl one4 (by intro X h;cases h) rfl fun a hE=>?_
  refine q_nil ?_
  replace hE : Env a 18 [(1,_),(2,_),(3,_),(4,_),(5,_),(11,_)] := hE.sl rfl
  refine hK8 _ _ ?_
  refine hE.split 11 rfl (fun hb11 hE=>?_) (fun hb11 hE=>?_)
  ·refine wp_cond_true (hE.eval rfl) (wp_plain [true,true,false,false,true] rfl rfl (s_move hE rfl rfl fun a hE=>s_move hE rfl rfl fun a hE=>?_))
   refine s_buildSlice (xs := [.tmp 13]) ([.int .i64 2]) hE hM sl77 rfl rfl rfl (by intro v hv;simp only [List.mem_cons,List.not_mem_nil,or_false] at hv;rcases hv with rfl <;> rfl) rfl rfl rfl rfl ?_;intro a v14 w4 hE hM'
   replace hM := hM'
   replace hM := hM.ownEq (m' := ([2] : List Nat).length) (cs' := ([2] : List Nat).flatMap intC) rfl rfl
   replace hM : Mem _ _ w4 [_,_,_] := hM.pick [1,0,2] rfl
   obtain ⟨cq3,hq3⟩ := own_rd (hM.get 1 rfl)
   refine s_append hE rfl rfl hM sl77 (Src.rd Tryd.underlying77 hq3 (intCs_one _)) (len47 (by first | omega | (simp;done) | (simp;omega))) (by first | omega | (simp;done) | (simp;omega)) (by intro X h;cases h) rfl ?_;intro a v15 w5 hE hM';replace hM := hM'
   replace hM := Mem.ownRowsL (f := intC) (ls := usedP h 2) (ms := ([2] : List Nat)) hM rfl rfl
   replace hM : Mem _ _ w5 [_,_] := hM.pick [0,2] rfl
   refine s_assign hE rfl rfl fun a hE=>q_nil ?_
   replace hE : Env a 18 [(1,_),(2,_),(3,_),(4,_),(5,_),(11,_)] := hE.sl rfl
   refine q_block_n (hK6 _ _ (wp_plain [true,true] rfl rfl (s_bin hE rfl rfl (show Bin _ _ _ _ _ (.int .i64 3) from bin_add (by rw [wrap_i64 (by omega) (by omega)];omega)) rfl fun a hE=>?_)))
   refine s_move hE rfl rfl fun a hE=>q_nil ?_
   replace hE : Env a 18 [(1,_),(2,_),(3,_),(4,_),(5,_),(11,_)] := hE.sl rfl
   replace hM := Mem.ownRowsEq (f := intC) (ls := (usedP h 2) ++ ([2] : List Nat)) (ms := usedP h 3) hM (by simp [usedP,getS,hb11])
   replace hM : Mem _ _ w5 [_,_] := hM.pick [0,1] rfl
   refine q_then_n ⟨_,trivial,hE.sel [1,2,4] rfl,hM⟩
  ·refine wp_cond_false (hE.eval rfl) (wp_skip (q_block_n (hK6 _ _ (wp_plain [true,true] rfl rfl (s_bin hE rfl rfl (show Bin _ _ _ _ _ (.int .i64 3) from bin_add (by rw [wrap_i64 (by omega) (by omega)];omega)) rfl fun a hE=>?_)))))
   refine s_move hE rfl rfl fun a hE=>q_nil ?_
   replace hE : Env a 18 [(1,_),(2,_),(3,_),(4,_),(5,_),(11,_)] := hE.sl rfl
   replace hM := Mem.ownRowsEq (f := intC) (ls := usedP h 2) (ms := usedP h 3) hM (by simp [usedP,getS,hb11])
   replace hM : Mem _ _ w3 [_,_] := hM.pick [0,1] rfl
   refine q_then_n ⟨_,trivial,hE.sel [1,2,4] rfl,hM⟩
 rintro a w4 ⟨vu2,hJ2_2,hE,hM⟩
 refine c_roundsJ (fun a w' => ∃ vu2,True ∧ Env a 18 [(1,.pointer (some ⟨b1,0,none⟩)),(2,vu2),(4,.int .i64 4)] ∧ Mem w [] w' [own vu2 1 ((usedP h 4).length) ((usedP h 4).flatMap intC),blk b1 [[.int .i64 h.m],[.int .i64 h.r],[.bool h.v0.1],[.int .u64 ((h.v0.2.1 : Nat) : Int)],bv h.v0.2.2.1,bv h.v0.2.2.2,[.bool h.v1.1],[.int .u64 ((h.v1.2.1 : Nat) : Int)],bv h.v1.2.2.1,bv h.v1.2.2.2,[.bool h.s0.1],[.int .i64 h.s0.2.1],bv h.s0.2.2.1,bv h.s0.2.2.2.1,bv h.s0.2.2.2.2,[.bool h.s1.1],[.int .i64 h.s1.2.1],bv h.s1.2.2.1,bv h.s1.2.2.2.1,bv h.s1.2.2.2.2,[.bool h.s2.1],[.int .i64 h.s2.2.1],bv h.s2.2.2.1,bv h.s2.2.2.2.1,bv h.s2.2.2.2.2,[.bool h.s3.1],[.int .i64 h.s3.2.1],bv h.s3.2.2.1,bv h.s3.2.2.2.1,bv h.s3.2.2.2.2] [1,1,1,1,32,32,1,1,32,32,1,1,16,32,32,1,1,16,32,32,1,1,16,32,32,1,1,16,32,32] 62]) ?_ ?_
 ·skip
  refine wp_seq_k fun K4 hK4=>wp_plain [true] rfl rfl (s_bin hE rfl rfl bin_lss rfl fun a hE=>?_)
  replace hE := hE.cast 5 rfl (show _ = Value.bool true from (congrArg Value.bool (by decide)))
  refine q_nil (hK4 _ _ (wp_seq_k fun K5 hK5=>wp_cond_true (hE.eval rfl) (wp_skip (hK5 _ _ (wp_seq_k fun K6 hK6=>wp_block (wp_seq_k fun K7 hK7=>wp_plain [true,true] rfl rfl ?_))))))
  refine s_move hE rfl rfl fun a hE=>s_assign hE rfl rfl fun a hE=>q_nil ?_
  replace hE : Env a 18 [(1,_),(2,_),(3,_),(4,_),(5,_)] := hE.sl rfl
  refine hK7 _ _ (wp_seq_k fun K8 hK8=>wp_plain [true,true,true,true,true] rfl rfl (s_move hE rfl rfl fun a hE=>s_fieldAddr hE rfl fo62_2 rfl fun a hE=>s_indexArr (j := 3) hE rfl rfl arr60 rfl (by decide) rfl fun a hE=>?_))
  refine s_fieldAddr hE rfl fo59_0 rfl fun a hE=>s_load1 hE rfl (hM.get 1 rfl) rfl one4 (by intro X h;cases h) rfl fun a hE=>?_
  refine q_nil ?_
  replace hE : Env a 18 [(1,_),(2,_),(3,_),(4,_),(5,_),(11,_)] := hE.sl rfl
  refine hK8 _ _ ?_
  refine hE.split 11 rfl (fun hb11 hE=>?_) (fun hb11 hE=>?_)
  ·refine wp_cond_true (hE.eval rfl) (wp_plain [true,true,false,false,true] rfl rfl (s_move hE rfl rfl fun a hE=>s_move hE rfl rfl fun a hE=>?_))
   refine s_buildSlice (xs := [.tmp 13]) ([.int .i64 3]) hE hM sl77 rfl rfl rfl (by intro v hv;simp only [List.mem_cons,List.not_mem_nil,or_false] at hv;rcases hv with rfl <;> rfl) rfl rfl rfl rfl ?_;intro a v14 w5 hE hM'
   replace hM := hM'
   replace hM := hM.ownEq (m' := ([3] : List Nat).length) (cs' := ([3] : List Nat).flatMap intC) rfl rfl
   replace hM : Mem _ _ w5 [_,_,_] := hM.pick [1,0,2] rfl
   obtain ⟨cq4,hq4⟩ := own_rd (hM.get 1 rfl)
   refine s_append hE rfl rfl hM sl77 (Src.rd Tryd.underlying77 hq4 (intCs_one _)) (len47 (by first | omega | (simp;done) | (simp;omega))) (by first | omega | (simp;done) | (simp;omega)) (by intro X h;cases h) rfl ?_;intro a v15 w6 hE hM';replace hM := hM'
   replace hM := Mem.ownRowsL (f := intC) (ls := usedP h 3) (ms := ([3] : List Nat)) hM rfl rfl
   replace hM : Mem _ _ w6 [_,_] := hM.pick [0,2] rfl
   refine s_assign hE rfl rfl fun a hE=>q_nil ?_
   replace hE : Env a 18 [(1,_),(2,_),(3,_),(4,_),(5,_),(11,_)] := hE.sl rfl
   refine q_block_n (hK6 _ _ (wp_plain [true,true] rfl rfl (s_bin hE rfl rfl (show Bin _ _ _ _ _ (.int .i64 4) from bin_add (by rw [wrap_i64 (by omega) (by omega)];omega)) rfl fun a hE=>?_)))
   refine s_move hE rfl rfl fun a hE=>q_nil ?_
   replace hE : Env a 18 [(1,_),(2,_),(3,_),(4,_),(5,_),(11,_)] := hE.sl rfl
   replace hM := Mem.ownRowsEq (f := intC) (ls := (usedP h 3) ++ ([3] : List Nat)) (ms := usedP h 4) hM (by simp [usedP,getS,hb11])
   replace hM : Mem _ _ w6 [_,_] := hM.pick [0,1] rfl
   refine q_then_n ⟨_,trivial,hE.sel [1,2,4] rfl,hM⟩
  ·refine wp_cond_false (hE.eval rfl) (wp_skip (q_block_n (hK6 _ _ (wp_plain [true,true] rfl rfl (s_bin hE rfl rfl (show Bin _ _ _ _ _ (.int .i64 4) from bin_add (by rw [wrap_i64 (by omega) (by omega)];omega)) rfl fun a hE=>?_)))))
   refine s_move hE rfl rfl fun a hE=>q_nil ?_
   replace hE : Env a 18 [(1,_),(2,_),(3,_),(4,_),(5,_),(11,_)] := hE.sl rfl
   replace hM := Mem.ownRowsEq (f := intC) (ls := usedP h 3) (ms := usedP h 4) hM (by simp [usedP,getS,hb11])
   replace hM : Mem _ _ w4 [_,_] := hM.pick [0,1] rfl
   refine q_then_n ⟨_,trivial,hE.sel [1,2,4] rfl,hM⟩
 rintro a w5 ⟨vu2,hJ2_3,hE,hM⟩
 refine c_rounds (wp_seq_k fun K4 hK4=>wp_plain [true] rfl rfl (s_bin hE rfl rfl bin_lss rfl fun a hE=>?_))
 replace hE := hE.cast 5 rfl (show _ = Value.bool false from (congrArg Value.bool (by decide)))
 refine q_nil (hK4 _ _ (wp_seq_k fun K5 hK5=>wp_cond_false (hE.eval rfl) (wp_exit (q_then_e (q_then_e (q_block_x (hK2 _ _ (wp_seq_k fun K6 hK6=>?_))))))))
 refine wp_plain [true,true] rfl rfl (s_move hE rfl rfl fun a hE=>s_assign hE rfl rfl fun a hE=>q_nil ?_)
 replace hE : Env a 18 [(1,_),(2,_),(4,_),(5,_)] := hE.sl rfl
 refine hK6 _ _ (wp_ret (f_ret1 hE rfl rfl ?_))
 replace hM := Mem.ownRowsEq (f := intC) (ls := usedP h 4) (ms := usedL h) hM usedP_all
 exact ⟨_,(by first | rfl | (simp;done)),hM.pick [0] rfl⟩
theorem free_c (h : Hd) (w : World) (hk_h : OkHd h) : Calls Tryd.prog 59 #[.agg ([[.int .i64 h.m],[.int .i64 h.r],[.bool h.v0.1],[.int .u64 ((h.v0.2.1 : Nat) : Int)],bv h.v0.2.2.1,bv h.v0.2.2.2,[.bool h.v1.1],[.int .u64 ((h.v1.2.1 : Nat) : Int)],bv h.v1.2.2.1,bv h.v1.2.2.2,[.bool h.s0.1],[.int .i64 h.s0.2.1],bv h.s0.2.2.1,bv h.s0.2.2.2.1,bv h.s0.2.2.2.2,[.bool h.s1.1],[.int .i64 h.s1.2.1],bv h.s1.2.2.1,bv h.s1.2.2.2.1,bv h.s1.2.2.2.2,[.bool h.s2.1],[.int .i64 h.s2.2.1],bv h.s2.2.2.1,bv h.s2.2.2.2.1,bv h.s2.2.2.2.2,[.bool h.s3.1],[.int .i64 h.s3.2.1],bv h.s3.2.2.1,bv h.s3.2.2.2.1,bv h.s3.2.2.2.2] : List (List Value)).flatten.toArray] w fun e w' => e = .returned (.int .i64 (freeS h)) ∧ Mem w [] w' [] := by
 have hM := Mem.start0 w
 refine f_enter 15 Tryd.func59 rfl rfl rfl ?_
 intro a hE
 replace hE : Env a 15 [(0,_)] := hE
 refine wp_seq_k fun K1 hK1=>wp_plain [false,true] rfl rfl ?_
 have hbl1_4 : h.v0.2.2.1.length = 32 := hk_h.v0.2.1
 have hbl1_5 : h.v0.2.2.2.length = 32 := hk_h.v0.2.2
 have hbl1_8 : h.v1.2.2.1.length = 32 := hk_h.v1.2.1
 have hbl1_9 : h.v1.2.2.2.length = 32 := hk_h.v1.2.2
 have hbl1_12 : h.s0.2.2.1.length = 16 := hk_h.s0.2.1
 have hbl1_13 : h.s0.2.2.2.1.length = 32 := hk_h.s0.2.2.1
 have hbl1_14 : h.s0.2.2.2.2.length = 32 := hk_h.s0.2.2.2
 have hbl1_17 : h.s1.2.2.1.length = 16 := hk_h.s1.2.1
 have hbl1_18 : h.s1.2.2.2.1.length = 32 := hk_h.s1.2.2.1
 have hbl1_19 : h.s1.2.2.2.2.length = 32 := hk_h.s1.2.2.2
 have hbl1_22 : h.s2.2.2.1.length = 16 := hk_h.s2.2.1
 have hbl1_23 : h.s2.2.2.2.1.length = 32 := hk_h.s2.2.2.1
 have hbl1_24 : h.s2.2.2.2.2.length = 32 := hk_h.s2.2.2.2
 have hbl1_27 : h.s3.2.2.1.length = 16 := hk_h.s3.2.1
 have hbl1_28 : h.s3.2.2.2.1.length = 32 := hk_h.s3.2.2.1
 have hbl1_29 : h.s3.2.2.2.2.length = 32 := hk_h.s3.2.2.2
 refine s_box (ss := [[.int .i64 h.m],[.int .i64 h.r],[.bool h.v0.1],[.int .u64 ((h.v0.2.1 : Nat) : Int)],bv h.v0.2.2.1,bv h.v0.2.2.2,[.bool h.v1.1],[.int .u64 ((h.v1.2.1 : Nat) : Int)],bv h.v1.2.2.1,bv h.v1.2.2.2,[.bool h.s0.1],[.int .i64 h.s0.2.1],bv h.s0.2.2.1,bv h.s0.2.2.2.1,bv h.s0.2.2.2.2,[.bool h.s1.1],[.int .i64 h.s1.2.1],bv h.s1.2.2.1,bv h.s1.2.2.2.1,bv h.s1.2.2.2.2,[.bool h.s2.1],[.int .i64 h.s2.2.1],bv h.s2.2.2.1,bv h.s2.2.2.2.1,bv h.s2.2.2.2.2,[.bool h.s3.1],[.int .i64 h.s3.2.1],bv h.s3.2.2.1,bv h.s3.2.2.2.1,bv h.s3.2.2.2.2]) [1,1,1,1,32,32,1,1,32,32,1,1,16,32,32,1,1,16,32,32,1,1,16,32,32,1,1,16,32,32] hE hM rfl rfl (by simp only [List.map_cons,List.map_nil,bv_length,List.length_cons,List.length_nil,List.length_replicate,hbl1_4,hbl1_5,hbl1_8,hbl1_9,hbl1_12,hbl1_13,hbl1_14,hbl1_17,hbl1_18,hbl1_19,hbl1_22,hbl1_23,hbl1_24,hbl1_27,hbl1_28,hbl1_29]) rfl ?_;intro a b1 w1 hE hM'
 replace hM := hM'
 refine s_assign hE rfl rfl fun a hE=>q_nil ?_
 replace hE : Env a 15 [(1,_),(2,_)] := hE.sl rfl
 refine hK1 _ _ (wp_seq_k fun K2 hK2=>wp_seq_k fun K3 hK3=>wp_plain [true] rfl rfl (s_move hE rfl rfl fun a hE=>q_nil (hK3 _ _ (wp_block (wp_loop_rounds 5 (c_rounds (wp_seq_k fun K4 hK4=>?_)))))))
 refine wp_plain [true] rfl rfl (s_bin hE rfl rfl bin_lss rfl fun a hE=>?_)
 replace hE := hE.cast 5 rfl (show _ = Value.bool true from (congrArg Value.bool (by decide)))
 refine q_nil (hK4 _ _ (wp_seq_k fun K5 hK5=>wp_cond_true (hE.eval rfl) (wp_skip (hK5 _ _ (wp_seq_k fun K6 hK6=>wp_block (wp_seq_k fun K7 hK7=>wp_plain [true,true] rfl rfl ?_))))))
 refine s_move hE rfl rfl fun a hE=>s_assign hE rfl rfl fun a hE=>q_nil ?_
 replace hE : Env a 15 [(1,_),(2,_),(3,_),(4,_),(5,_)] := hE.sl rfl
 refine hK7 _ _ (wp_seq_k fun K8 hK8=>wp_plain [true,true,true,true,true,true] rfl rfl (s_move hE rfl rfl fun a hE=>s_fieldAddr hE rfl fo62_2 rfl fun a hE=>s_indexArr (j := 0) hE rfl rfl arr60 rfl (by decide) rfl fun a hE=>?_))
 refine s_fieldAddr hE rfl fo59_0 rfl fun a hE=>s_load1 hE rfl (hM.get 0 rfl) rfl one4 (by intro X h;cases h) rfl fun a hE=>?_
 refine s_not hE rfl rfl fun a hE=>q_nil ?_
 replace hE : Env a 15 [(1,_),(2,_),(3,_),(4,_),(5,_),(12,_)] := hE.sl rfl
 refine hK8 _ _ ?_
 refine hE.split 12 rfl (fun hb12 hE=>?_) (fun hb12 hE=>?_)
 ·replace hb12 := not_true hb12
  refine wp_cond_true (hE.eval rfl) (wp_seq_k fun K9 hK9=>wp_plain [true,true] rfl rfl (s_move hE rfl rfl fun a hE=>s_assign hE rfl rfl fun a hE=>q_nil ?_))
  replace hE : Env a 15 [(1,_),(2,_),(3,_),(4,_),(5,_),(12,_)] := hE.sl rfl
  exact hK9 _ _ (wp_ret (q_block_r (q_then_r (q_then_r (q_block_r (q_then_r (f_ret1 hE rfl rfl ⟨(by simp [freeS,hb12]),hM.pick [] rfl⟩)))))))
 ·replace hb12 := not_false' hb12
  refine wp_cond_false (hE.eval rfl) (wp_skip (q_block_n (hK6 _ _ (wp_plain [true,true] rfl rfl (s_bin hE rfl rfl (show Bin _ _ _ _ _ (.int .i64 1) from bin_add (by rw [wrap_i64 (by omega) (by omega)];omega)) rfl fun a hE=>?_)))))
  refine s_move hE rfl rfl fun a hE=>q_nil ?_
  replace hE : Env a 15 [(1,_),(2,_),(3,_),(4,_),(5,_),(12,_)] := hE.sl rfl
  replace hM : Mem _ _ w1 [_] := hM.pick [0] rfl
  refine q_then_n (c_rounds (wp_seq_k fun K9 hK9=>wp_plain [true] rfl rfl (s_bin hE rfl rfl bin_lss rfl fun a hE=>?_)))
  replace hE := hE.cast 5 rfl (show _ = Value.bool true from (congrArg Value.bool (by decide)))
  refine q_nil (hK9 _ _ (wp_seq_k fun K10 hK10=>wp_cond_true (hE.eval rfl) (wp_skip (hK10 _ _ (wp_seq_k fun K11 hK11=>wp_block (wp_seq_k fun K12 hK12=>wp_plain [true,true] rfl rfl ?_))))))
  refine s_move hE rfl rfl fun a hE=>s_assign hE rfl rfl fun a hE=>q_nil ?_
  replace hE : Env a 15 [(1,_),(2,_),(3,_),(4,_),(5,_),(12,_)] := hE.sl rfl
  refine hK12 _ _ (wp_seq_k fun K13 hK13=>wp_plain [true,true,true,true,true,true] rfl rfl (s_move hE rfl rfl fun a hE=>s_fieldAddr hE rfl fo62_2 rfl fun a hE=>s_indexArr (j := 1) hE rfl rfl arr60 rfl (by decide) rfl fun a hE=>?_))
  refine s_fieldAddr hE rfl fo59_0 rfl fun a hE=>s_load1 hE rfl (hM.get 0 rfl) rfl one4 (by intro X h;cases h) rfl fun a hE=>?_
  refine s_not hE rfl rfl fun a hE=>q_nil ?_
  replace hE : Env a 15 [(1,_),(2,_),(3,_),(4,_),(5,_),(12,_)] := hE.sl rfl
  refine hK13 _ _ ?_
  refine hE.split 12 rfl (fun hb12' hE=>?_) (fun hb12' hE=>?_)
  ·replace hb12' := not_true hb12'
   refine wp_cond_true (hE.eval rfl) (wp_seq_k fun K14 hK14=>wp_plain [true,true] rfl rfl (s_move hE rfl rfl fun a hE=>s_assign hE rfl rfl fun a hE=>q_nil ?_))
   replace hE : Env a 15 [(1,_),(2,_),(3,_),(4,_),(5,_),(12,_)] := hE.sl rfl
   exact hK14 _ _ (wp_ret (q_block_r (q_then_r (q_then_r (q_block_r (q_then_r (f_ret1 hE rfl rfl ⟨(by simp [freeS,hb12,hb12']),hM.pick [] rfl⟩)))))))
  ·replace hb12' := not_false' hb12'
   refine wp_cond_false (hE.eval rfl) (wp_skip (q_block_n (hK11 _ _ (wp_plain [true,true] rfl rfl (s_bin hE rfl rfl (show Bin _ _ _ _ _ (.int .i64 2) from bin_add (by rw [wrap_i64 (by omega) (by omega)];omega)) rfl fun a hE=>?_)))))
   refine s_move hE rfl rfl fun a hE=>q_nil ?_
   replace hE : Env a 15 [(1,_),(2,_),(3,_),(4,_),(5,_),(12,_)] := hE.sl rfl
   replace hM : Mem _ _ w1 [_] := hM.pick [0] rfl
   refine q_then_n (c_rounds (wp_seq_k fun K14 hK14=>wp_plain [true] rfl rfl (s_bin hE rfl rfl bin_lss rfl fun a hE=>?_)))
   replace hE := hE.cast 5 rfl (show _ = Value.bool true from (congrArg Value.bool (by decide)))
   refine q_nil (hK14 _ _ (wp_seq_k fun K15 hK15=>wp_cond_true (hE.eval rfl) (wp_skip (hK15 _ _ (wp_seq_k fun K16 hK16=>wp_block (wp_seq_k fun K17 hK17=>wp_plain [true,true] rfl rfl ?_))))))
   refine s_move hE rfl rfl fun a hE=>s_assign hE rfl rfl fun a hE=>q_nil ?_
   replace hE : Env a 15 [(1,_),(2,_),(3,_),(4,_),(5,_),(12,_)] := hE.sl rfl
   refine hK17 _ _ (wp_seq_k fun K18 hK18=>wp_plain [true,true,true,true,true,true] rfl rfl (s_move hE rfl rfl fun a hE=>s_fieldAddr hE rfl fo62_2 rfl fun a hE=>s_indexArr (j := 2) hE rfl rfl arr60 rfl (by decide) rfl fun a hE=>?_))
   refine s_fieldAddr hE rfl fo59_0 rfl fun a hE=>s_load1 hE rfl (hM.get 0 rfl) rfl one4 (by intro X h;cases h) rfl fun a hE=>?_
   refine s_not hE rfl rfl fun a hE=>q_nil ?_
   replace hE : Env a 15 [(1,_),(2,_),(3,_),(4,_),(5,_),(12,_)] := hE.sl rfl
   refine hK18 _ _ ?_
   refine hE.split 12 rfl (fun hb12'' hE=>?_) (fun hb12'' hE=>?_)
   ·replace hb12'' := not_true hb12''
    refine wp_cond_true (hE.eval rfl) (wp_seq_k fun K19 hK19=>wp_plain [true,true] rfl rfl (s_move hE rfl rfl fun a hE=>s_assign hE rfl rfl fun a hE=>q_nil ?_))
    replace hE : Env a 15 [(1,_),(2,_),(3,_),(4,_),(5,_),(12,_)] := hE.sl rfl
    exact hK19 _ _ (wp_ret (q_block_r (q_then_r (q_then_r (q_block_r (q_then_r (f_ret1 hE rfl rfl ⟨(by simp [freeS,hb12,hb12',hb12'']),hM.pick [] rfl⟩)))))))
   ·replace hb12'' := not_false' hb12''
    refine wp_cond_false (hE.eval rfl) (wp_skip (q_block_n (hK16 _ _ (wp_plain [true,true] rfl rfl (s_bin hE rfl rfl (show Bin _ _ _ _ _ (.int .i64 3) from bin_add (by rw [wrap_i64 (by omega) (by omega)];omega)) rfl fun a hE=>?_)))))
    refine s_move hE rfl rfl fun a hE=>q_nil ?_
    replace hE : Env a 15 [(1,_),(2,_),(3,_),(4,_),(5,_),(12,_)] := hE.sl rfl
    replace hM : Mem _ _ w1 [_] := hM.pick [0] rfl
    refine q_then_n (c_rounds (wp_seq_k fun K19 hK19=>wp_plain [true] rfl rfl (s_bin hE rfl rfl bin_lss rfl fun a hE=>?_)))
    replace hE := hE.cast 5 rfl (show _ = Value.bool true from (congrArg Value.bool (by decide)))
    refine q_nil (hK19 _ _ (wp_seq_k fun K20 hK20=>wp_cond_true (hE.eval rfl) (wp_skip (hK20 _ _ (wp_seq_k fun K21 hK21=>wp_block (wp_seq_k fun K22 hK22=>wp_plain [true,true] rfl rfl ?_))))))
    refine s_move hE rfl rfl fun a hE=>s_assign hE rfl rfl fun a hE=>q_nil ?_
    replace hE : Env a 15 [(1,_),(2,_),(3,_),(4,_),(5,_),(12,_)] := hE.sl rfl
    refine hK22 _ _ (wp_seq_k fun K23 hK23=>wp_plain [true,true,true,true,true,true] rfl rfl (s_move hE rfl rfl fun a hE=>s_fieldAddr hE rfl fo62_2 rfl fun a hE=>s_indexArr (j := 3) hE rfl rfl arr60 rfl (by decide) rfl fun a hE=>?_))
    refine s_fieldAddr hE rfl fo59_0 rfl fun a hE=>s_load1 hE rfl (hM.get 0 rfl) rfl one4 (by intro X h;cases h) rfl fun a hE=>?_
    refine s_not hE rfl rfl fun a hE=>q_nil ?_
    replace hE : Env a 15 [(1,_),(2,_),(3,_),(4,_),(5,_),(12,_)] := hE.sl rfl
    refine hK23 _ _ ?_
    refine hE.split 12 rfl (fun hb12''' hE=>?_) (fun hb12''' hE=>?_)
    ·replace hb12''' := not_true hb12'''
     refine wp_cond_true (hE.eval rfl) (wp_seq_k fun K24 hK24=>wp_plain [true,true] rfl rfl (s_move hE rfl rfl fun a hE=>s_assign hE rfl rfl fun a hE=>q_nil ?_))
     replace hE : Env a 15 [(1,_),(2,_),(3,_),(4,_),(5,_),(12,_)] := hE.sl rfl
     exact hK24 _ _ (wp_ret (q_block_r (q_then_r (q_then_r (q_block_r (q_then_r (f_ret1 hE rfl rfl ⟨(by simp [freeS,hb12,hb12',hb12'',hb12''']),hM.pick [] rfl⟩)))))))
    ·replace hb12''' := not_false' hb12'''
     refine wp_cond_false (hE.eval rfl) (wp_skip (q_block_n (hK21 _ _ (wp_plain [true,true] rfl rfl (s_bin hE rfl rfl (show Bin _ _ _ _ _ (.int .i64 4) from bin_add (by rw [wrap_i64 (by omega) (by omega)];omega)) rfl fun a hE=>?_)))))
     refine s_move hE rfl rfl fun a hE=>q_nil ?_
     replace hE : Env a 15 [(1,_),(2,_),(3,_),(4,_),(5,_),(12,_)] := hE.sl rfl
     replace hM : Mem _ _ w1 [_] := hM.pick [0] rfl
     refine q_then_n (c_rounds (wp_seq_k fun K24 hK24=>wp_plain [true] rfl rfl (s_bin hE rfl rfl bin_lss rfl fun a hE=>?_)))
     replace hE := hE.cast 5 rfl (show _ = Value.bool false from (congrArg Value.bool (by decide)))
     refine q_nil (hK24 _ _ (wp_seq_k fun K25 hK25=>wp_cond_false (hE.eval rfl) (wp_exit (q_then_e (q_then_e (q_block_x (hK2 _ _ (wp_seq_k fun K26 hK26=>?_))))))))
     exact wp_plain [true] rfl rfl (s_assign hE rfl rfl fun a hE=>q_nil (hK26 _ _ (wp_ret (f_ret1 hE rfl rfl ⟨(by simp [freeS,hb12,hb12',hb12'',hb12''']),hM.pick [] rfl⟩))))
end Go.Proofs.YtniekapfoaiieaaDoor
