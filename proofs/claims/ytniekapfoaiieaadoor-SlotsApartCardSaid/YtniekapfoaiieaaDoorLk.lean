/- Walks of functions of the given program that the claim reaches. -/
import Derived.Test.YtniekapfoaiieaaDoorLj
set_option linter.unusedSimpArgs false
set_option linter.unusedVariables false
namespace Go.Proofs.YtniekapfoaiieaaDoor
open Go Go.Kx
theorem fo59_2 : fieldOff Tryd.prog 59 2 = some 2 := by kernel_rfl
theorem row57 : RowT Tryd.prog 57 16 := RowT.of Tryd.underlying57 rfl (by kernel_rfl)
theorem fo59_3 : fieldOff Tryd.prog 59 3 = some 18 := by kernel_rfl
theorem sl77 : SlT Tryd.prog 77 3 1 8 := ⟨Tryd.underlying77,by kernel_rfl,by kernel_rfl,.int .i64 0,by kernel_rfl,rfl⟩
theorem smay_c (h : Hd) (p : List UInt8) (w : World) (hk_h : OkHd h) : Calls Tryd.prog 55 #[.agg ([[.int .i64 h.m],[.int .i64 h.r],[.bool h.v0.1],[.int .u64 ((h.v0.2.1 : Nat) : Int)],bv h.v0.2.2.1,bv h.v0.2.2.2,[.bool h.v1.1],[.int .u64 ((h.v1.2.1 : Nat) : Int)],bv h.v1.2.2.1,bv h.v1.2.2.2,[.bool h.s0.1],[.int .i64 h.s0.2.1],bv h.s0.2.2.1,bv h.s0.2.2.2.1,bv h.s0.2.2.2.2,[.bool h.s1.1],[.int .i64 h.s1.2.1],bv h.s1.2.2.1,bv h.s1.2.2.2.1,bv h.s1.2.2.2.2,[.bool h.s2.1],[.int .i64 h.s2.2.1],bv h.s2.2.2.1,bv h.s2.2.2.2.1,bv h.s2.2.2.2.2,[.bool h.s3.1],[.int .i64 h.s3.2.1],bv h.s3.2.2.1,bv h.s3.2.2.2.1,bv h.s3.2.2.2.2] : List (List Value)).flatten.toArray,.string (str p)] w fun e w' => e = .returned (.bool (mayS h p)) ∧ Mem w [] w' [] := by
 have hM := Mem.start0 w
 refine ve 19 Tryd.func55 rfl rfl rfl ?_
 intro a hE
 replace hE : Env a 19 [(0,_),(1,_)] := hE
 refine ww1 fun _ K1=>wpp ?_
 have hbl2_4 : h.v0.2.2.1.length = 32 := hk_h.v0.2.1
 have hbl2_5 : h.v0.2.2.2.length = 32 := hk_h.v0.2.2
 have hbl2_8 : h.v1.2.2.1.length = 32 := hk_h.v1.2.1
 have hbl2_9 : h.v1.2.2.2.length = 32 := hk_h.v1.2.2
 have hbl2_12 : h.s0.2.2.1.length = 16 := hk_h.s0.2.1
 have hbl2_13 : h.s0.2.2.2.1.length = 32 := hk_h.s0.2.2.1
 have hbl2_14 : h.s0.2.2.2.2.length = 32 := hk_h.s0.2.2.2
 have hbl2_17 : h.s1.2.2.1.length = 16 := hk_h.s1.2.1
 have hbl2_18 : h.s1.2.2.2.1.length = 32 := hk_h.s1.2.2.1
 have hbl2_19 : h.s1.2.2.2.2.length = 32 := hk_h.s1.2.2.2
 have hbl2_22 : h.s2.2.2.1.length = 16 := hk_h.s2.2.1
 have hbl2_23 : h.s2.2.2.2.1.length = 32 := hk_h.s2.2.2.1
 have hbl2_24 : h.s2.2.2.2.2.length = 32 := hk_h.s2.2.2.2
 have hbl2_27 : h.s3.2.2.1.length = 16 := hk_h.s3.2.1
 have hbl2_28 : h.s3.2.2.2.1.length = 32 := hk_h.s3.2.2.1
 have hbl2_29 : h.s3.2.2.2.2.length = 32 := hk_h.s3.2.2.2
 refine s_box (ss := [[.int .i64 h.m],[.int .i64 h.r],[.bool h.v0.1],[.int .u64 ((h.v0.2.1 : Nat) : Int)],bv h.v0.2.2.1,bv h.v0.2.2.2,[.bool h.v1.1],[.int .u64 ((h.v1.2.1 : Nat) : Int)],bv h.v1.2.2.1,bv h.v1.2.2.2,[.bool h.s0.1],[.int .i64 h.s0.2.1],bv h.s0.2.2.1,bv h.s0.2.2.2.1,bv h.s0.2.2.2.2,[.bool h.s1.1],[.int .i64 h.s1.2.1],bv h.s1.2.2.1,bv h.s1.2.2.2.1,bv h.s1.2.2.2.2,[.bool h.s2.1],[.int .i64 h.s2.2.1],bv h.s2.2.2.1,bv h.s2.2.2.2.1,bv h.s2.2.2.2.2,[.bool h.s3.1],[.int .i64 h.s3.2.1],bv h.s3.2.2.1,bv h.s3.2.2.2.1,bv h.s3.2.2.2.2]) [1,1,1,1,32,32,1,1,32,32,1,1,16,32,32,1,1,16,32,32,1,1,16,32,32,1,1,16,32,32] hE hM rfl rfl (by simp only [List.map_cons,List.map_nil,vh,List.length_cons,List.length_nil,List.length_replicate,hbl2_4,hbl2_5,hbl2_8,hbl2_9,hbl2_12,hbl2_13,hbl2_14,hbl2_17,hbl2_18,hbl2_19,hbl2_22,hbl2_23,hbl2_24,hbl2_27,hbl2_28,hbl2_29]) rfl fun a b2 w1 hE hM=>?_
 refine sas hE rfl fun a hE=>qa (K1 (ww1 fun _ K2=>wpp (sm hE rfl fun a hE=>qn hE rfl Tryd.call30 (pass_a p _) rfl ?_)))
 rintro e w2 ⟨v9,rfl,hN⟩
 refine ⟨_,rfl,trivial,fun a hE=>?_⟩
 replace hM : Mem _ _ w2 [_,_] := hM.call0 hN ⟨rfl,trivial⟩;clear hN
 refine sm hE rfl fun a hE=>sx hE rfl fun a hE=>sx hE rfl fun a hE=>sas hE rfl fun a hE=>sas hE rfl fun a hE=>qa (K2 (ww1 fun _ K3=>wpp (sm hE rfl fun a hE=>?_)))
 refine sb hE rfl rfl bin_eql fun a hE=>sm hE rfl fun a hE=>?_
 refine hE.split 14 rfl (fun hb14 hE=>?_) (fun hb14 hE=>?_)
 ·replace hb14 := of_decide_eq_true hb14
  replace hb14 : (passE p) = 0 := by omega
  have hop : okp p = true := passE_zero.1 (by omega)
  refine gy hE rfl (ql hE rfl (hM.get 1 rfl) row62 rfl (by intro X h;cases h) rfl fun a hE=>?_)
  replace hE := hE.cast 15 rfl (show _ = Value.agg ([[.int .i64 h.m],[.int .i64 h.r],[.bool h.v0.1],[.int .u64 ((h.v0.2.1 : Nat) : Int)],bv h.v0.2.2.1,bv h.v0.2.2.2,[.bool h.v1.1],[.int .u64 ((h.v1.2.1 : Nat) : Int)],bv h.v1.2.2.1,bv h.v1.2.2.2,[.bool h.s0.1],[.int .i64 h.s0.2.1],bv h.s0.2.2.1,bv h.s0.2.2.2.1,bv h.s0.2.2.2.2,[.bool h.s1.1],[.int .i64 h.s1.2.1],bv h.s1.2.2.1,bv h.s1.2.2.2.1,bv h.s1.2.2.2.2,[.bool h.s2.1],[.int .i64 h.s2.2.1],bv h.s2.2.2.1,bv h.s2.2.2.2.1,bv h.s2.2.2.2.2,[.bool h.s3.1],[.int .i64 h.s3.2.1],bv h.s3.2.2.1,bv h.s3.2.2.2.1,bv h.s3.2.2.2.2] : List (List Value)).flatten.toArray from (by first | rfl | simp only [List.flatten_cons,List.flatten_nil,List.append_nil,List.append_assoc]))
  refine gy hE rfl (qn hE rfl Tryd.call58 (check_c h _ hk_h ) rfl ?_)
  rintro e w3 ⟨rfl,hN⟩
  refine ⟨_,rfl,trivial,fun a hE=>?_⟩
  replace hM : Mem _ _ w3 [_,_] := hM.call0 hN trivial;clear hN
  exact gy hE rfl (sb hE rfl rfl bin_eql fun a hE=>pkt hE rfl fun a hE=>sas hE rfl fun a hE=>qa (K3 (wp_ret (qi hE rfl rfl ⟨(by simp [mayS,hop]),hM.pick [] rfl⟩))))
 ·replace hb14 := of_decide_eq_false hb14
  replace hb14 : ¬ ((passE p) = 0) := by omega
  have hop : okp p = false := passE_no hb14
  exact gf hE rfl fun a hE=>gf hE rfl fun a hE=>gf hE rfl fun a hE=>pkf hE rfl fun a hE=>sas hE rfl fun a hE=>qa (K3 (wp_ret (qi hE rfl rfl ⟨(by simp [mayS,hop]),hM.pick [] rfl⟩)))
set_option maxHeartbeats 4000000 in
theorem unlock_c (h : Hd) (p : List UInt8) (w : World) (hG : (glb 1).holds w) (hT : tabP.holds w) (hk_h : OkHd h) : Calls Tryd.prog 29 #[.agg ([[.int .i64 h.m],[.int .i64 h.r],[.bool h.v0.1],[.int .u64 ((h.v0.2.1 : Nat) : Int)],bv h.v0.2.2.1,bv h.v0.2.2.2,[.bool h.v1.1],[.int .u64 ((h.v1.2.1 : Nat) : Int)],bv h.v1.2.2.1,bv h.v1.2.2.2,[.bool h.s0.1],[.int .i64 h.s0.2.1],bv h.s0.2.2.1,bv h.s0.2.2.2.1,bv h.s0.2.2.2.2,[.bool h.s1.1],[.int .i64 h.s1.2.1],bv h.s1.2.2.1,bv h.s1.2.2.2.1,bv h.s1.2.2.2.2,[.bool h.s2.1],[.int .i64 h.s2.2.1],bv h.s2.2.2.1,bv h.s2.2.2.2.1,bv h.s2.2.2.2.2,[.bool h.s3.1],[.int .i64 h.s3.2.1],bv h.s3.2.2.1,bv h.s3.2.2.2.1,bv h.s3.2.2.2.2] : List (List Value)).flatten.toArray,.string (str p)] w fun e w' => e = .returned (.tuple #[.agg (bv ((unl h p).1)).toArray,.int .i64 (((unl h p).2.1 : Nat) : Int),.int .i64 (((unl h p).2.2 : Nat) : Int)]) ∧ Mem w [] w' [] := by
 have hM : Mem w [] w [glb 1,tabP] := Mem.startR w (fun g hg => by
  simp only [List.mem_cons,List.not_mem_nil,or_false] at hg
  rcases hg with rfl | rfl
  ·exact ⟨hG,rfl⟩
  ·exact ⟨hT,rfl⟩)
 refine ve 50 Tryd.func29 rfl rfl rfl ?_
 intro a hE
 replace hE : Env a 50 [(0,_),(1,_)] := hE
 refine ww1 fun _ K1=>wpp ?_
 have hbl2_4 : h.v0.2.2.1.length = 32 := hk_h.v0.2.1
 have hbl2_5 : h.v0.2.2.2.length = 32 := hk_h.v0.2.2
 have hbl2_8 : h.v1.2.2.1.length = 32 := hk_h.v1.2.1
 have hbl2_9 : h.v1.2.2.2.length = 32 := hk_h.v1.2.2
 have hbl2_12 : h.s0.2.2.1.length = 16 := hk_h.s0.2.1
 have hbl2_13 : h.s0.2.2.2.1.length = 32 := hk_h.s0.2.2.1
 have hbl2_14 : h.s0.2.2.2.2.length = 32 := hk_h.s0.2.2.2
 have hbl2_17 : h.s1.2.2.1.length = 16 := hk_h.s1.2.1
 have hbl2_18 : h.s1.2.2.2.1.length = 32 := hk_h.s1.2.2.1
 have hbl2_19 : h.s1.2.2.2.2.length = 32 := hk_h.s1.2.2.2
 have hbl2_22 : h.s2.2.2.1.length = 16 := hk_h.s2.2.1
 have hbl2_23 : h.s2.2.2.2.1.length = 32 := hk_h.s2.2.2.1
 have hbl2_24 : h.s2.2.2.2.2.length = 32 := hk_h.s2.2.2.2
 have hbl2_27 : h.s3.2.2.1.length = 16 := hk_h.s3.2.1
 have hbl2_28 : h.s3.2.2.2.1.length = 32 := hk_h.s3.2.2.1
 have hbl2_29 : h.s3.2.2.2.2.length = 32 := hk_h.s3.2.2.2
 refine s_box (ss := [[.int .i64 h.m],[.int .i64 h.r],[.bool h.v0.1],[.int .u64 ((h.v0.2.1 : Nat) : Int)],bv h.v0.2.2.1,bv h.v0.2.2.2,[.bool h.v1.1],[.int .u64 ((h.v1.2.1 : Nat) : Int)],bv h.v1.2.2.1,bv h.v1.2.2.2,[.bool h.s0.1],[.int .i64 h.s0.2.1],bv h.s0.2.2.1,bv h.s0.2.2.2.1,bv h.s0.2.2.2.2,[.bool h.s1.1],[.int .i64 h.s1.2.1],bv h.s1.2.2.1,bv h.s1.2.2.2.1,bv h.s1.2.2.2.2,[.bool h.s2.1],[.int .i64 h.s2.2.1],bv h.s2.2.2.1,bv h.s2.2.2.2.1,bv h.s2.2.2.2.2,[.bool h.s3.1],[.int .i64 h.s3.2.1],bv h.s3.2.2.1,bv h.s3.2.2.2.1,bv h.s3.2.2.2.2]) [1,1,1,1,32,32,1,1,32,32,1,1,16,32,32,1,1,16,32,32,1,1,16,32,32,1,1,16,32,32] hE hM rfl rfl (by simp only [List.map_cons,List.map_nil,vh,List.length_cons,List.length_nil,List.length_replicate,hbl2_4,hbl2_5,hbl2_8,hbl2_9,hbl2_12,hbl2_13,hbl2_14,hbl2_17,hbl2_18,hbl2_19,hbl2_22,hbl2_23,hbl2_24,hbl2_27,hbl2_28,hbl2_29]) rfl fun a b2 w1 hE hM=>?_
 refine qo [32] hE hM zero23 rfl rfl fun a b4 w2 hE hM=>sas hE rfl fun a hE=>sas hE rfl fun a hE=>qa (K1 (ww1 fun _ K2=>ww1 fun _ K3=>wpp (ql hE rfl (hM.get 1 rfl) row62 rfl (by intro X h;cases h) rfl fun a hE=>?_)))
 replace hE := hE.cast 13 rfl (show _ = Value.agg ([[.int .i64 h.m],[.int .i64 h.r],[.bool h.v0.1],[.int .u64 ((h.v0.2.1 : Nat) : Int)],bv h.v0.2.2.1,bv h.v0.2.2.2,[.bool h.v1.1],[.int .u64 ((h.v1.2.1 : Nat) : Int)],bv h.v1.2.2.1,bv h.v1.2.2.2,[.bool h.s0.1],[.int .i64 h.s0.2.1],bv h.s0.2.2.1,bv h.s0.2.2.2.1,bv h.s0.2.2.2.2,[.bool h.s1.1],[.int .i64 h.s1.2.1],bv h.s1.2.2.1,bv h.s1.2.2.2.1,bv h.s1.2.2.2.2,[.bool h.s2.1],[.int .i64 h.s2.2.1],bv h.s2.2.2.1,bv h.s2.2.2.2.1,bv h.s2.2.2.2.2,[.bool h.s3.1],[.int .i64 h.s3.2.1],bv h.s3.2.2.1,bv h.s3.2.2.2.1,bv h.s3.2.2.2.2] : List (List Value)).flatten.toArray from (by first | rfl | simp only [List.flatten_cons,List.flatten_nil,List.append_nil,List.append_assoc]))
 refine sm hE rfl fun a hE=>qn hE rfl Tryd.call55 (smay_c h p _ hk_h) rfl ?_
 rintro e w3 ⟨rfl,hN⟩
 refine ⟨_,rfl,trivial,fun a hE=>?_⟩
 replace hM : Mem _ _ w3 [_,_,_,_] := hM.call0 hN trivial;clear hN
 refine s_not hE rfl rfl fun a hE=>qa (K3 ?_)
 refine hE.split 16 rfl (fun hb16 hE=>?_) (fun hb16 hE=>?_)
 ·replace hb16 := not_true hb16
  refine wct hE rfl (ww1 fun _ K4=>wpp (s_build (r := .agg (bv (List.replicate 32 (0 : UInt8))).toArray) _ hE rfl (fun w => by kernel_rfl) rfl fun a hE=>?_))
  refine qr 0 hE rfl rfl hM rfl sz23 ((vh _).trans (by first | (simp;done) | (simp [*];done) | (simp;omega))) (vc _) rfl ((vh _).trans (by first | (simp;done) | (simp [*];done) | (simp;omega))) rfl (by intro X h;cases h) fun w4 hM=>?_
  simp only [List.set_cons_zero,List.set_cons_succ] at hM
  exact sas hE rfl fun a hE=>sas hE rfl fun a hE=>qa (K4 (wp_ret (qb (qk hE rfl (res_cellN rfl (hM.get 0 rfl) row23 rfl) rfl rfl ⟨(by simp [unl,hb16]),hM.pick [] rfl⟩))))
 ·replace hb16 := not_false' hb16
  refine wcf hE rfl (wp_skip (K2 (ww1 fun _ K4=>ww1 fun _ K5=>wpp (sm hE rfl fun a hE=>qa (K5 (wp_block ?_))))))
  refine wp_loop_rounds 5 ?_
  refine c_roundsJ (fun a w' => opS p h.s0 = false ∧ Env a 50 [(1,.string (str p)),(2,.pointer (some ⟨b2,0,none⟩)),(4,.pointer (some ⟨b4,0,none⟩)),(5,.int .i64 0),(6,.int .i64 0),(16,.bool false),(18,.int .i64 1)] ∧ Mem w [] w' [blk b4 [bv (List.replicate 32 (0 : UInt8))] [32] 23,blk b2 [[.int .i64 h.m],[.int .i64 h.r],[.bool h.v0.1],[.int .u64 ((h.v0.2.1 : Nat) : Int)],bv h.v0.2.2.1,bv h.v0.2.2.2,[.bool h.v1.1],[.int .u64 ((h.v1.2.1 : Nat) : Int)],bv h.v1.2.2.1,bv h.v1.2.2.2,[.bool h.s0.1],[.int .i64 h.s0.2.1],bv h.s0.2.2.1,bv h.s0.2.2.2.1,bv h.s0.2.2.2.2,[.bool h.s1.1],[.int .i64 h.s1.2.1],bv h.s1.2.2.1,bv h.s1.2.2.2.1,bv h.s1.2.2.2.2,[.bool h.s2.1],[.int .i64 h.s2.2.1],bv h.s2.2.2.1,bv h.s2.2.2.2.1,bv h.s2.2.2.2.2,[.bool h.s3.1],[.int .i64 h.s3.2.1],bv h.s3.2.2.1,bv h.s3.2.2.2.1,bv h.s3.2.2.2.2] [1,1,1,1,32,32,1,1,32,32,1,1,16,32,32,1,1,16,32,32,1,1,16,32,32,1,1,16,32,32] 62,glb 1,tabP]) ?_ ?_
  ·skip
   refine ww1 fun _ K6=>wpp (sb hE rfl rfl bin_lss fun a hE=>?_)
   replace hE := hE.cast 19 rfl (show _ = Value.bool true from (congrArg Value.bool (by decide)))
   refine qa (K6 (ww1 fun _ K7=>wct hE rfl (wp_skip (K7 (ww1 fun _ K8=>wp_block (ww1 fun _ K9=>wpp ?_))))))
   refine sm hE rfl fun a hE=>sas hE rfl fun a hE=>qa (K9 (ww1 fun _ K10=>wpp (sm hE rfl fun a hE=>sf hE rfl fo62_2 fun a hE=>qp (j := 0) hE rfl rfl arr60 rfl (by decide) rfl fun a hE=>?_)))
   refine ql hE rfl (hM.get 1 rfl) row59 rfl (by intro X h;cases h) rfl fun a hE=>?_
   replace hE := hE.cast 24 rfl (show _ = Value.agg ([[.bool h.s0.1],[.int .i64 h.s0.2.1],bv h.s0.2.2.1,bv h.s0.2.2.2.1,bv h.s0.2.2.2.2] : List (List Value)).flatten.toArray from (by first | rfl | simp only [List.flatten_cons,List.flatten_nil,List.append_nil,List.append_assoc]))
   refine qo [1,1,16,32,32] hE hM zeroL59 rfl rfl fun a b8 w4 hE hM=>?_
   have hsl110_2 : h.s0.2.2.1.length = 16 := hk_h.s0.2.1
   have hsl110_3 : h.s0.2.2.2.1.length = 32 := hk_h.s0.2.2.1
   have hsl110_4 : h.s0.2.2.2.2.length = 32 := hk_h.s0.2.2.2
   refine qq 0 5 (vss := [[.bool h.s0.1],[.int .i64 h.s0.2.1],bv h.s0.2.2.1,bv h.s0.2.2.2.1,bv h.s0.2.2.2.2]) hE rfl rfl hM rfl sz59 (by simp only [List.take_succ_cons,List.take_zero,List.drop_zero,List.drop_succ_cons];simp only [List.map_cons,List.map_nil,vh,List.length_cons,List.length_nil,List.length_replicate,hsl110_2,hsl110_3,hsl110_4]) (by decide) rfl (one_fl ⟨one1 rfl,one1 rfl,vc _,vc _,vc _,trivial⟩) rfl (by intro X h;cases h) fun w5 hM=>?_
   try simp only [List.take_zero,List.take_succ_cons,List.drop_zero,List.drop_succ_cons,List.take_nil,List.drop_nil,List.nil_append,List.append_nil,List.cons_append] at hM
   refine qa (K10 (ww1 fun _ K11=>ww1 fun _ K12=>wpp (sf hE rfl fo59_0 fun a hE=>qm hE rfl (hM.get 0 rfl) rfl one4 (by intro X h;cases h) rfl fun a hE=>?_)))
   refine s_not hE rfl rfl fun a hE=>qa (K12 ?_)
   refine hE.split 27 rfl (fun hb27 hE=>?_) (fun hb27 hE=>?_)
   ·replace hb27 := not_true hb27
    refine wct hE rfl (wp_exit (qc (qg (K8 (wpp (sb hE rfl rfl (show Bin _ _ _ _ _ (.int .i64 1) from bin_add (by rw [wrap_i64 (by omega) (by omega)];omega)) fun a hE=>?_))))))
    refine sm hE rfl fun a hE=>qa ?_
    replace hM : Mem _ _ w5 [_,_,_,_] := hM.pick [1,2,3,4] rfl
    refine qd ⟨(by first | exact op_unused hb27 | exact op_no hb27),hE.sel [1,2,4,5,6,16,18] rfl,hM⟩
   ·replace hb27 := not_false' hb27
    refine wcf hE rfl (wp_skip (K11 (ww1 fun _ K13=>wpp (sm hE rfl fun a hE=>sf hE rfl fo59_2 fun a hE=>ql hE rfl (hM.get 0 rfl) row57 rfl (by intro X h;cases h) rfl fun a hE=>?_))))
    refine sf hE rfl fo59_1 fun a hE=>qm hE rfl (hM.get 0 rfl) rfl one3 (by intro X h;cases h) rfl fun a hE=>?_
    refine qn hE rfl Tryd.call56 (skey_c p h.s0.2.2.1 h.s0.2.1 _ (hM.get 3 rfl) hk_h.s0.2.1) rfl ?_
    rintro e w6 ⟨rfl,hN⟩
    refine ⟨_,rfl,trivial,fun a hE=>?_⟩
    replace hM : Mem _ _ w6 [_,_,_,_,_] := hM.call0 hN trivial;clear hN
    refine sm hE rfl fun a hE=>sx hE rfl fun a hE=>sx hE rfl fun a hE=>qo [32] hE hM zero23 rfl rfl fun a b9 w7 hE hM=>qr 0 hE rfl rfl hM rfl sz23 ((vh _).trans (vg p h.s0.2.2.1 h.s0.2.1)) (vc _) rfl ((vh _).trans (by first | (simp;done) | (simp [*];done) | (simp;omega))) rfl (by intro X h;cases h) fun w8 hM=>?_
    simp only [List.set_cons_zero,List.set_cons_succ] at hM
    refine sas hE rfl fun a hE=>qa (K13 (ww1 fun _ K14=>wpp (ql hE rfl (hM.get 0 rfl) row23 rfl (by intro X h;cases h) rfl fun a hE=>?_)))
    refine sf hE rfl fo59_3 fun a hE=>ql hE rfl (hM.get 1 rfl) row29 rfl (by intro X h;cases h) rfl fun a hE=>?_
    replace hE := hE.cast 40 rfl (show _ = Value.agg ([bv h.s0.2.2.2.1,bv h.s0.2.2.2.2] : List (List Value)).flatten.toArray from (by first | rfl | simp only [List.flatten_cons,List.flatten_nil,List.append_nil,List.append_assoc]))
    refine qn hE rfl Tryd.call16 (unwrap_c (kK p h.s0.2.2.1 h.s0.2.1) [115,108,111,116] 0 h.s0.2.2.2.1 h.s0.2.2.2.2 _ (hM.get 4 rfl) (hM.get 5 rfl) (vg p h.s0.2.2.1 h.s0.2.1) hk_h.s0.2.2.1 hk_h.s0.2.2.2 (by have hl_0 : (kK p h.s0.2.2.1 h.s0.2.1).length = 32 := (vg p h.s0.2.2.1 h.s0.2.1);have hl_1 : [115,108,111,116].length = 4 := (by first | (simp;done) | (simp [*];done) | (simp;omega));have hl_3d : h.s0.2.2.2.1.length = 32 := hk_h.s0.2.2.1;have hl_3t : h.s0.2.2.2.2.length = 32 := hk_h.s0.2.2.2;first | omega | assumption | (simp;done) | (simp;omega) | decide) (by have hl_0 : (kK p h.s0.2.2.1 h.s0.2.1).length = 32 := (vg p h.s0.2.2.1 h.s0.2.1);have hl_1 : [115,108,111,116].length = 4 := (by first | (simp;done) | (simp [*];done) | (simp;omega));have hl_3d : h.s0.2.2.2.1.length = 32 := hk_h.s0.2.2.1;have hl_3t : h.s0.2.2.2.2.length = 32 := hk_h.s0.2.2.2;first | omega | assumption | (simp;done) | (simp;omega) | decide)) rfl ?_
    rintro e w9 ⟨rfl,hN⟩
    refine ⟨_,rfl,trivial,fun a hE=>?_⟩
    replace hM : Mem _ _ w9 [_,_,_,_,_,_] := hM.call0 hN trivial;clear hN
    refine sm hE rfl fun a hE=>sx hE rfl fun a hE=>sx hE rfl fun a hE=>qo [32] hE hM zero23 rfl rfl fun a b11 w10 hE hM=>qr 0 hE rfl rfl hM rfl sz23 ((vh _).trans (unwK_len (k := (kK p h.s0.2.2.1 h.s0.2.1)) (l := [115,108,111,116]) (n := 0) (d := h.s0.2.2.2.1) (t := h.s0.2.2.2.2) (by have hl_std : h.s0.2.2.2.1.length = 32 := hk_h.s0.2.2.1;first | assumption | (simp;done)))) (vc _) rfl ((vh _).trans (by first | (simp;done) | (simp [*];done) | (simp;omega))) rfl (by intro X h;cases h) fun w11 hM=>?_
    simp only [List.set_cons_zero,List.set_cons_succ] at hM
    refine sas hE rfl fun a hE=>qa (K14 (ww1 fun _ K15=>wpp (sm hE rfl fun a hE=>sb hE rfl rfl bin_eql fun a hE=>qa (K15 ?_))))
    refine hE.split 45 rfl (fun hb45 hE=>?_) (fun hb45 hE=>?_)
    ·replace hb45 := of_decide_eq_true hb45
     replace hb45 : (unwE (kK p h.s0.2.2.1 h.s0.2.1) [115,108,111,116] 0 h.s0.2.2.2.1 h.s0.2.2.2.2) = 0 := by omega
     obtain ⟨hoy,huk⟩ := op_yes (p := p) (s := h.s0) hb27 hb45
     simp only [slotT] at huk
     refine wct hE rfl (ww1 fun _ K16=>wpp (ql hE rfl (hM.get 0 rfl) row23 rfl (by intro X h;cases h) rfl fun a hE=>?_))
     refine sm hE rfl fun a hE=>?_
     replace hM : Mem _ _ w11 [_,_,_,_,_,_,_] := hM.pick [3,0,1,2,4,5,6] rfl
     refine qr 0 hE rfl rfl hM rfl sz23 ((vh _).trans (unwK_len (k := (kK p h.s0.2.2.1 h.s0.2.1)) (l := [115,108,111,116]) (n := 0) (d := h.s0.2.2.2.1) (t := h.s0.2.2.2.2) (by have hl_std : h.s0.2.2.2.1.length = 32 := hk_h.s0.2.2.1;first | assumption | (simp;done)))) (vc _) rfl ((vh _).trans (by first | (simp;done) | (simp [*];done) | (simp;omega))) rfl (by intro X h;cases h) fun w12 hM=>?_
     simp only [List.set_cons_zero,List.set_cons_succ] at hM
     refine sas hE rfl fun a hE=>sas hE rfl fun a hE=>qa (K16 (wp_ret (qf (qb (qb (qf (qb ?_)))))))
     exact qk hE rfl (res_cellN rfl (hM.get 0 rfl) row23 rfl) rfl rfl ⟨(by rw [huk];simp [unl,hoy,hb16]),hM.pick [] rfl⟩
    ·replace hb45 := of_decide_eq_false hb45
     replace hb45 : ¬ ((unwE (kK p h.s0.2.2.1 h.s0.2.1) [115,108,111,116] 0 h.s0.2.2.2.1 h.s0.2.2.2.2) = 0) := by omega
     refine wcf hE rfl (wp_skip (qe (K8 (wpp (sb hE rfl rfl (show Bin _ _ _ _ _ (.int .i64 1) from bin_add (by rw [wrap_i64 (by omega) (by omega)];omega)) fun a hE=>?_)))))
     refine sm hE rfl fun a hE=>qa ?_
     replace hM : Mem _ _ w11 [_,_,_,_] := hM.pick [3,4,5,6] rfl
     refine qd ⟨(by first | exact op_unused hb27 | exact op_no hb45),hE.sel [1,2,4,5,6,16,18] rfl,hM⟩
  rintro a w4 ⟨hJ4_0,hE,hM⟩
  refine c_roundsJ (fun a w' => opS p h.s1 = false ∧ Env a 50 [(1,.string (str p)),(2,.pointer (some ⟨b2,0,none⟩)),(4,.pointer (some ⟨b4,0,none⟩)),(5,.int .i64 0),(6,.int .i64 0),(16,.bool false),(18,.int .i64 2)] ∧ Mem w [] w' [blk b4 [bv (List.replicate 32 (0 : UInt8))] [32] 23,blk b2 [[.int .i64 h.m],[.int .i64 h.r],[.bool h.v0.1],[.int .u64 ((h.v0.2.1 : Nat) : Int)],bv h.v0.2.2.1,bv h.v0.2.2.2,[.bool h.v1.1],[.int .u64 ((h.v1.2.1 : Nat) : Int)],bv h.v1.2.2.1,bv h.v1.2.2.2,[.bool h.s0.1],[.int .i64 h.s0.2.1],bv h.s0.2.2.1,bv h.s0.2.2.2.1,bv h.s0.2.2.2.2,[.bool h.s1.1],[.int .i64 h.s1.2.1],bv h.s1.2.2.1,bv h.s1.2.2.2.1,bv h.s1.2.2.2.2,[.bool h.s2.1],[.int .i64 h.s2.2.1],bv h.s2.2.2.1,bv h.s2.2.2.2.1,bv h.s2.2.2.2.2,[.bool h.s3.1],[.int .i64 h.s3.2.1],bv h.s3.2.2.1,bv h.s3.2.2.2.1,bv h.s3.2.2.2.2] [1,1,1,1,32,32,1,1,32,32,1,1,16,32,32,1,1,16,32,32,1,1,16,32,32,1,1,16,32,32] 62,glb 1,tabP]) ?_ ?_
  ·skip
   refine ww1 fun _ K6=>wpp (sb hE rfl rfl bin_lss fun a hE=>?_)
   replace hE := hE.cast 19 rfl (show _ = Value.bool true from (congrArg Value.bool (by decide)))
   refine qa (K6 (ww1 fun _ K7=>wct hE rfl (wp_skip (K7 (ww1 fun _ K8=>wp_block (ww1 fun _ K9=>wpp ?_))))))
   refine sm hE rfl fun a hE=>sas hE rfl fun a hE=>qa (K9 (ww1 fun _ K10=>wpp (sm hE rfl fun a hE=>sf hE rfl fo62_2 fun a hE=>qp (j := 1) hE rfl rfl arr60 rfl (by decide) rfl fun a hE=>?_)))
   refine ql hE rfl (hM.get 1 rfl) row59 rfl (by intro X h;cases h) rfl fun a hE=>?_
   replace hE := hE.cast 24 rfl (show _ = Value.agg ([[.bool h.s1.1],[.int .i64 h.s1.2.1],bv h.s1.2.2.1,bv h.s1.2.2.2.1,bv h.s1.2.2.2.2] : List (List Value)).flatten.toArray from (by first | rfl | simp only [List.flatten_cons,List.flatten_nil,List.append_nil,List.append_assoc]))
   refine qo [1,1,16,32,32] hE hM zeroL59 rfl rfl fun a b8 w5 hE hM=>?_
   have hsl269_2 : h.s1.2.2.1.length = 16 := hk_h.s1.2.1
   have hsl269_3 : h.s1.2.2.2.1.length = 32 := hk_h.s1.2.2.1
   have hsl269_4 : h.s1.2.2.2.2.length = 32 := hk_h.s1.2.2.2
   refine qq 0 5 (vss := [[.bool h.s1.1],[.int .i64 h.s1.2.1],bv h.s1.2.2.1,bv h.s1.2.2.2.1,bv h.s1.2.2.2.2]) hE rfl rfl hM rfl sz59 (by simp only [List.take_succ_cons,List.take_zero,List.drop_zero,List.drop_succ_cons];simp only [List.map_cons,List.map_nil,vh,List.length_cons,List.length_nil,List.length_replicate,hsl269_2,hsl269_3,hsl269_4]) (by decide) rfl (one_fl ⟨one1 rfl,one1 rfl,vc _,vc _,vc _,trivial⟩) rfl (by intro X h;cases h) fun w6 hM=>?_
   try simp only [List.take_zero,List.take_succ_cons,List.drop_zero,List.drop_succ_cons,List.take_nil,List.drop_nil,List.nil_append,List.append_nil,List.cons_append] at hM
   refine qa (K10 (ww1 fun _ K11=>ww1 fun _ K12=>wpp (sf hE rfl fo59_0 fun a hE=>qm hE rfl (hM.get 0 rfl) rfl one4 (by intro X h;cases h) rfl fun a hE=>?_)))
   refine s_not hE rfl rfl fun a hE=>qa (K12 ?_)
   refine hE.split 27 rfl (fun hb27 hE=>?_) (fun hb27 hE=>?_)
   ·replace hb27 := not_true hb27
    refine wct hE rfl (wp_exit (qc (qg (K8 (wpp (sb hE rfl rfl (show Bin _ _ _ _ _ (.int .i64 2) from bin_add (by rw [wrap_i64 (by omega) (by omega)];omega)) fun a hE=>?_))))))
    refine sm hE rfl fun a hE=>qa ?_
    replace hM : Mem _ _ w6 [_,_,_,_] := hM.pick [1,2,3,4] rfl
    refine qd ⟨(by first | exact op_unused hb27 | exact op_no hb27),hE.sel [1,2,4,5,6,16,18] rfl,hM⟩
   ·replace hb27 := not_false' hb27
    refine wcf hE rfl (wp_skip (K11 (ww1 fun _ K13=>wpp (sm hE rfl fun a hE=>sf hE rfl fo59_2 fun a hE=>ql hE rfl (hM.get 0 rfl) row57 rfl (by intro X h;cases h) rfl fun a hE=>?_))))
    refine sf hE rfl fo59_1 fun a hE=>qm hE rfl (hM.get 0 rfl) rfl one3 (by intro X h;cases h) rfl fun a hE=>?_
    refine qn hE rfl Tryd.call56 (skey_c p h.s1.2.2.1 h.s1.2.1 _ (hM.get 3 rfl) hk_h.s1.2.1) rfl ?_
    rintro e w7 ⟨rfl,hN⟩
    refine ⟨_,rfl,trivial,fun a hE=>?_⟩
    replace hM : Mem _ _ w7 [_,_,_,_,_] := hM.call0 hN trivial;clear hN
    refine sm hE rfl fun a hE=>sx hE rfl fun a hE=>sx hE rfl fun a hE=>qo [32] hE hM zero23 rfl rfl fun a b9 w8 hE hM=>qr 0 hE rfl rfl hM rfl sz23 ((vh _).trans (vg p h.s1.2.2.1 h.s1.2.1)) (vc _) rfl ((vh _).trans (by first | (simp;done) | (simp [*];done) | (simp;omega))) rfl (by intro X h;cases h) fun w9 hM=>?_
    simp only [List.set_cons_zero,List.set_cons_succ] at hM
    refine sas hE rfl fun a hE=>qa (K13 (ww1 fun _ K14=>wpp (ql hE rfl (hM.get 0 rfl) row23 rfl (by intro X h;cases h) rfl fun a hE=>?_)))
    refine sf hE rfl fo59_3 fun a hE=>ql hE rfl (hM.get 1 rfl) row29 rfl (by intro X h;cases h) rfl fun a hE=>?_
    replace hE := hE.cast 40 rfl (show _ = Value.agg ([bv h.s1.2.2.2.1,bv h.s1.2.2.2.2] : List (List Value)).flatten.toArray from (by first | rfl | simp only [List.flatten_cons,List.flatten_nil,List.append_nil,List.append_assoc]))
    refine qn hE rfl Tryd.call16 (unwrap_c (kK p h.s1.2.2.1 h.s1.2.1) [115,108,111,116] 0 h.s1.2.2.2.1 h.s1.2.2.2.2 _ (hM.get 4 rfl) (hM.get 5 rfl) (vg p h.s1.2.2.1 h.s1.2.1) hk_h.s1.2.2.1 hk_h.s1.2.2.2 (by have hl_0 : (kK p h.s1.2.2.1 h.s1.2.1).length = 32 := (vg p h.s1.2.2.1 h.s1.2.1);have hl_1 : [115,108,111,116].length = 4 := (by first | (simp;done) | (simp [*];done) | (simp;omega));have hl_3d : h.s1.2.2.2.1.length = 32 := hk_h.s1.2.2.1;have hl_3t : h.s1.2.2.2.2.length = 32 := hk_h.s1.2.2.2;first | omega | assumption | (simp;done) | (simp;omega) | decide) (by have hl_0 : (kK p h.s1.2.2.1 h.s1.2.1).length = 32 := (vg p h.s1.2.2.1 h.s1.2.1);have hl_1 : [115,108,111,116].length = 4 := (by first | (simp;done) | (simp [*];done) | (simp;omega));have hl_3d : h.s1.2.2.2.1.length = 32 := hk_h.s1.2.2.1;have hl_3t : h.s1.2.2.2.2.length = 32 := hk_h.s1.2.2.2;first | omega | assumption | (simp;done) | (simp;omega) | decide)) rfl ?_
    rintro e w10 ⟨rfl,hN⟩
    refine ⟨_,rfl,trivial,fun a hE=>?_⟩
    replace hM : Mem _ _ w10 [_,_,_,_,_,_] := hM.call0 hN trivial;clear hN
    refine sm hE rfl fun a hE=>sx hE rfl fun a hE=>sx hE rfl fun a hE=>qo [32] hE hM zero23 rfl rfl fun a b11 w11 hE hM=>qr 0 hE rfl rfl hM rfl sz23 ((vh _).trans (unwK_len (k := (kK p h.s1.2.2.1 h.s1.2.1)) (l := [115,108,111,116]) (n := 0) (d := h.s1.2.2.2.1) (t := h.s1.2.2.2.2) (by have hl_std : h.s1.2.2.2.1.length = 32 := hk_h.s1.2.2.1;first | assumption | (simp;done)))) (vc _) rfl ((vh _).trans (by first | (simp;done) | (simp [*];done) | (simp;omega))) rfl (by intro X h;cases h) fun w12 hM=>?_
    simp only [List.set_cons_zero,List.set_cons_succ] at hM
    refine sas hE rfl fun a hE=>qa (K14 (ww1 fun _ K15=>wpp (sm hE rfl fun a hE=>sb hE rfl rfl bin_eql fun a hE=>qa (K15 ?_))))
    refine hE.split 45 rfl (fun hb45 hE=>?_) (fun hb45 hE=>?_)
    ·replace hb45 := of_decide_eq_true hb45
     replace hb45 : (unwE (kK p h.s1.2.2.1 h.s1.2.1) [115,108,111,116] 0 h.s1.2.2.2.1 h.s1.2.2.2.2) = 0 := by omega
     obtain ⟨hoy,huk⟩ := op_yes (p := p) (s := h.s1) hb27 hb45
     simp only [slotT] at huk
     refine wct hE rfl (ww1 fun _ K16=>wpp (ql hE rfl (hM.get 0 rfl) row23 rfl (by intro X h;cases h) rfl fun a hE=>?_))
     refine sm hE rfl fun a hE=>?_
     replace hM : Mem _ _ w12 [_,_,_,_,_,_,_] := hM.pick [3,0,1,2,4,5,6] rfl
     refine qr 0 hE rfl rfl hM rfl sz23 ((vh _).trans (unwK_len (k := (kK p h.s1.2.2.1 h.s1.2.1)) (l := [115,108,111,116]) (n := 0) (d := h.s1.2.2.2.1) (t := h.s1.2.2.2.2) (by have hl_std : h.s1.2.2.2.1.length = 32 := hk_h.s1.2.2.1;first | assumption | (simp;done)))) (vc _) rfl ((vh _).trans (by first | (simp;done) | (simp [*];done) | (simp;omega))) rfl (by intro X h;cases h) fun w13 hM=>?_
     simp only [List.set_cons_zero,List.set_cons_succ] at hM
     refine sas hE rfl fun a hE=>sas hE rfl fun a hE=>qa (K16 (wp_ret (qf (qb (qb (qf (qb ?_)))))))
     exact qk hE rfl (res_cellN rfl (hM.get 0 rfl) row23 rfl) rfl rfl ⟨(by rw [huk];simp [unl,hoy,hJ4_0,hb16]),hM.pick [] rfl⟩
    ·replace hb45 := of_decide_eq_false hb45
     replace hb45 : ¬ ((unwE (kK p h.s1.2.2.1 h.s1.2.1) [115,108,111,116] 0 h.s1.2.2.2.1 h.s1.2.2.2.2) = 0) := by omega
     refine wcf hE rfl (wp_skip (qe (K8 (wpp (sb hE rfl rfl (show Bin _ _ _ _ _ (.int .i64 2) from bin_add (by rw [wrap_i64 (by omega) (by omega)];omega)) fun a hE=>?_)))))
     refine sm hE rfl fun a hE=>qa ?_
     replace hM : Mem _ _ w12 [_,_,_,_] := hM.pick [3,4,5,6] rfl
     refine qd ⟨(by first | exact op_unused hb27 | exact op_no hb45),hE.sel [1,2,4,5,6,16,18] rfl,hM⟩
  rintro a w5 ⟨hJ4_1,hE,hM⟩
  refine c_roundsJ (fun a w' => opS p h.s2 = false ∧ Env a 50 [(1,.string (str p)),(2,.pointer (some ⟨b2,0,none⟩)),(4,.pointer (some ⟨b4,0,none⟩)),(5,.int .i64 0),(6,.int .i64 0),(16,.bool false),(18,.int .i64 3)] ∧ Mem w [] w' [blk b4 [bv (List.replicate 32 (0 : UInt8))] [32] 23,blk b2 [[.int .i64 h.m],[.int .i64 h.r],[.bool h.v0.1],[.int .u64 ((h.v0.2.1 : Nat) : Int)],bv h.v0.2.2.1,bv h.v0.2.2.2,[.bool h.v1.1],[.int .u64 ((h.v1.2.1 : Nat) : Int)],bv h.v1.2.2.1,bv h.v1.2.2.2,[.bool h.s0.1],[.int .i64 h.s0.2.1],bv h.s0.2.2.1,bv h.s0.2.2.2.1,bv h.s0.2.2.2.2,[.bool h.s1.1],[.int .i64 h.s1.2.1],bv h.s1.2.2.1,bv h.s1.2.2.2.1,bv h.s1.2.2.2.2,[.bool h.s2.1],[.int .i64 h.s2.2.1],bv h.s2.2.2.1,bv h.s2.2.2.2.1,bv h.s2.2.2.2.2,[.bool h.s3.1],[.int .i64 h.s3.2.1],bv h.s3.2.2.1,bv h.s3.2.2.2.1,bv h.s3.2.2.2.2] [1,1,1,1,32,32,1,1,32,32,1,1,16,32,32,1,1,16,32,32,1,1,16,32,32,1,1,16,32,32] 62,glb 1,tabP]) ?_ ?_
  ·skip
   refine ww1 fun _ K6=>wpp (sb hE rfl rfl bin_lss fun a hE=>?_)
   replace hE := hE.cast 19 rfl (show _ = Value.bool true from (congrArg Value.bool (by decide)))
   refine qa (K6 (ww1 fun _ K7=>wct hE rfl (wp_skip (K7 (ww1 fun _ K8=>wp_block (ww1 fun _ K9=>wpp ?_))))))
   refine sm hE rfl fun a hE=>sas hE rfl fun a hE=>qa (K9 (ww1 fun _ K10=>wpp (sm hE rfl fun a hE=>sf hE rfl fo62_2 fun a hE=>qp (j := 2) hE rfl rfl arr60 rfl (by decide) rfl fun a hE=>?_)))
   refine ql hE rfl (hM.get 1 rfl) row59 rfl (by intro X h;cases h) rfl fun a hE=>?_
   replace hE := hE.cast 24 rfl (show _ = Value.agg ([[.bool h.s2.1],[.int .i64 h.s2.2.1],bv h.s2.2.2.1,bv h.s2.2.2.2.1,bv h.s2.2.2.2.2] : List (List Value)).flatten.toArray from (by first | rfl | simp only [List.flatten_cons,List.flatten_nil,List.append_nil,List.append_assoc]))
   refine qo [1,1,16,32,32] hE hM zeroL59 rfl rfl fun a b8 w6 hE hM=>?_
   have hsl428_2 : h.s2.2.2.1.length = 16 := hk_h.s2.2.1
   have hsl428_3 : h.s2.2.2.2.1.length = 32 := hk_h.s2.2.2.1
   have hsl428_4 : h.s2.2.2.2.2.length = 32 := hk_h.s2.2.2.2
   refine qq 0 5 (vss := [[.bool h.s2.1],[.int .i64 h.s2.2.1],bv h.s2.2.2.1,bv h.s2.2.2.2.1,bv h.s2.2.2.2.2]) hE rfl rfl hM rfl sz59 (by simp only [List.take_succ_cons,List.take_zero,List.drop_zero,List.drop_succ_cons];simp only [List.map_cons,List.map_nil,vh,List.length_cons,List.length_nil,List.length_replicate,hsl428_2,hsl428_3,hsl428_4]) (by decide) rfl (one_fl ⟨one1 rfl,one1 rfl,vc _,vc _,vc _,trivial⟩) rfl (by intro X h;cases h) fun w7 hM=>?_
   try simp only [List.take_zero,List.take_succ_cons,List.drop_zero,List.drop_succ_cons,List.take_nil,List.drop_nil,List.nil_append,List.append_nil,List.cons_append] at hM
   refine qa (K10 (ww1 fun _ K11=>ww1 fun _ K12=>wpp (sf hE rfl fo59_0 fun a hE=>qm hE rfl (hM.get 0 rfl) rfl one4 (by intro X h;cases h) rfl fun a hE=>?_)))
   refine s_not hE rfl rfl fun a hE=>qa (K12 ?_)
   refine hE.split 27 rfl (fun hb27 hE=>?_) (fun hb27 hE=>?_)
   ·replace hb27 := not_true hb27
    refine wct hE rfl (wp_exit (qc (qg (K8 (wpp (sb hE rfl rfl (show Bin _ _ _ _ _ (.int .i64 3) from bin_add (by rw [wrap_i64 (by omega) (by omega)];omega)) fun a hE=>?_))))))
    refine sm hE rfl fun a hE=>qa ?_
    replace hM : Mem _ _ w7 [_,_,_,_] := hM.pick [1,2,3,4] rfl
    refine qd ⟨(by first | exact op_unused hb27 | exact op_no hb27),hE.sel [1,2,4,5,6,16,18] rfl,hM⟩
   ·replace hb27 := not_false' hb27
    refine wcf hE rfl (wp_skip (K11 (ww1 fun _ K13=>wpp (sm hE rfl fun a hE=>sf hE rfl fo59_2 fun a hE=>ql hE rfl (hM.get 0 rfl) row57 rfl (by intro X h;cases h) rfl fun a hE=>?_))))
    refine sf hE rfl fo59_1 fun a hE=>qm hE rfl (hM.get 0 rfl) rfl one3 (by intro X h;cases h) rfl fun a hE=>?_
    refine qn hE rfl Tryd.call56 (skey_c p h.s2.2.2.1 h.s2.2.1 _ (hM.get 3 rfl) hk_h.s2.2.1) rfl ?_
    rintro e w8 ⟨rfl,hN⟩
    refine ⟨_,rfl,trivial,fun a hE=>?_⟩
    replace hM : Mem _ _ w8 [_,_,_,_,_] := hM.call0 hN trivial;clear hN
    refine sm hE rfl fun a hE=>sx hE rfl fun a hE=>sx hE rfl fun a hE=>qo [32] hE hM zero23 rfl rfl fun a b9 w9 hE hM=>qr 0 hE rfl rfl hM rfl sz23 ((vh _).trans (vg p h.s2.2.2.1 h.s2.2.1)) (vc _) rfl ((vh _).trans (by first | (simp;done) | (simp [*];done) | (simp;omega))) rfl (by intro X h;cases h) fun w10 hM=>?_
    simp only [List.set_cons_zero,List.set_cons_succ] at hM
    refine sas hE rfl fun a hE=>qa (K13 (ww1 fun _ K14=>wpp (ql hE rfl (hM.get 0 rfl) row23 rfl (by intro X h;cases h) rfl fun a hE=>?_)))
    refine sf hE rfl fo59_3 fun a hE=>ql hE rfl (hM.get 1 rfl) row29 rfl (by intro X h;cases h) rfl fun a hE=>?_
    replace hE := hE.cast 40 rfl (show _ = Value.agg ([bv h.s2.2.2.2.1,bv h.s2.2.2.2.2] : List (List Value)).flatten.toArray from (by first | rfl | simp only [List.flatten_cons,List.flatten_nil,List.append_nil,List.append_assoc]))
    refine qn hE rfl Tryd.call16 (unwrap_c (kK p h.s2.2.2.1 h.s2.2.1) [115,108,111,116] 0 h.s2.2.2.2.1 h.s2.2.2.2.2 _ (hM.get 4 rfl) (hM.get 5 rfl) (vg p h.s2.2.2.1 h.s2.2.1) hk_h.s2.2.2.1 hk_h.s2.2.2.2 (by have hl_0 : (kK p h.s2.2.2.1 h.s2.2.1).length = 32 := (vg p h.s2.2.2.1 h.s2.2.1);have hl_1 : [115,108,111,116].length = 4 := (by first | (simp;done) | (simp [*];done) | (simp;omega));have hl_3d : h.s2.2.2.2.1.length = 32 := hk_h.s2.2.2.1;have hl_3t : h.s2.2.2.2.2.length = 32 := hk_h.s2.2.2.2;first | omega | assumption | (simp;done) | (simp;omega) | decide) (by have hl_0 : (kK p h.s2.2.2.1 h.s2.2.1).length = 32 := (vg p h.s2.2.2.1 h.s2.2.1);have hl_1 : [115,108,111,116].length = 4 := (by first | (simp;done) | (simp [*];done) | (simp;omega));have hl_3d : h.s2.2.2.2.1.length = 32 := hk_h.s2.2.2.1;have hl_3t : h.s2.2.2.2.2.length = 32 := hk_h.s2.2.2.2;first | omega | assumption | (simp;done) | (simp;omega) | decide)) rfl ?_
    rintro e w11 ⟨rfl,hN⟩
    refine ⟨_,rfl,trivial,fun a hE=>?_⟩
    replace hM : Mem _ _ w11 [_,_,_,_,_,_] := hM.call0 hN trivial;clear hN
    refine sm hE rfl fun a hE=>sx hE rfl fun a hE=>sx hE rfl fun a hE=>qo [32] hE hM zero23 rfl rfl fun a b11 w12 hE hM=>qr 0 hE rfl rfl hM rfl sz23 ((vh _).trans (unwK_len (k := (kK p h.s2.2.2.1 h.s2.2.1)) (l := [115,108,111,116]) (n := 0) (d := h.s2.2.2.2.1) (t := h.s2.2.2.2.2) (by have hl_std : h.s2.2.2.2.1.length = 32 := hk_h.s2.2.2.1;first | assumption | (simp;done)))) (vc _) rfl ((vh _).trans (by first | (simp;done) | (simp [*];done) | (simp;omega))) rfl (by intro X h;cases h) fun w13 hM=>?_
    simp only [List.set_cons_zero,List.set_cons_succ] at hM
    refine sas hE rfl fun a hE=>qa (K14 (ww1 fun _ K15=>wpp (sm hE rfl fun a hE=>sb hE rfl rfl bin_eql fun a hE=>qa (K15 ?_))))
    refine hE.split 45 rfl (fun hb45 hE=>?_) (fun hb45 hE=>?_)
    ·replace hb45 := of_decide_eq_true hb45
     replace hb45 : (unwE (kK p h.s2.2.2.1 h.s2.2.1) [115,108,111,116] 0 h.s2.2.2.2.1 h.s2.2.2.2.2) = 0 := by omega
     obtain ⟨hoy,huk⟩ := op_yes (p := p) (s := h.s2) hb27 hb45
     simp only [slotT] at huk
     refine wct hE rfl (ww1 fun _ K16=>wpp (ql hE rfl (hM.get 0 rfl) row23 rfl (by intro X h;cases h) rfl fun a hE=>?_))
     refine sm hE rfl fun a hE=>?_
     replace hM : Mem _ _ w13 [_,_,_,_,_,_,_] := hM.pick [3,0,1,2,4,5,6] rfl
     refine qr 0 hE rfl rfl hM rfl sz23 ((vh _).trans (unwK_len (k := (kK p h.s2.2.2.1 h.s2.2.1)) (l := [115,108,111,116]) (n := 0) (d := h.s2.2.2.2.1) (t := h.s2.2.2.2.2) (by have hl_std : h.s2.2.2.2.1.length = 32 := hk_h.s2.2.2.1;first | assumption | (simp;done)))) (vc _) rfl ((vh _).trans (by first | (simp;done) | (simp [*];done) | (simp;omega))) rfl (by intro X h;cases h) fun w14 hM=>?_
     simp only [List.set_cons_zero,List.set_cons_succ] at hM
     refine sas hE rfl fun a hE=>sas hE rfl fun a hE=>qa (K16 (wp_ret (qf (qb (qb (qf (qb ?_)))))))
     exact qk hE rfl (res_cellN rfl (hM.get 0 rfl) row23 rfl) rfl rfl ⟨(by rw [huk];simp [unl,hoy,hJ4_0,hJ4_1,hb16]),hM.pick [] rfl⟩
    ·replace hb45 := of_decide_eq_false hb45
     replace hb45 : ¬ ((unwE (kK p h.s2.2.2.1 h.s2.2.1) [115,108,111,116] 0 h.s2.2.2.2.1 h.s2.2.2.2.2) = 0) := by omega
     refine wcf hE rfl (wp_skip (qe (K8 (wpp (sb hE rfl rfl (show Bin _ _ _ _ _ (.int .i64 3) from bin_add (by rw [wrap_i64 (by omega) (by omega)];omega)) fun a hE=>?_)))))
     refine sm hE rfl fun a hE=>qa ?_
     replace hM : Mem _ _ w13 [_,_,_,_] := hM.pick [3,4,5,6] rfl
     refine qd ⟨(by first | exact op_unused hb27 | exact op_no hb45),hE.sel [1,2,4,5,6,16,18] rfl,hM⟩
  rintro a w6 ⟨hJ4_2,hE,hM⟩
  refine c_roundsJ (fun a w' => opS p h.s3 = false ∧ Env a 50 [(1,.string (str p)),(2,.pointer (some ⟨b2,0,none⟩)),(4,.pointer (some ⟨b4,0,none⟩)),(5,.int .i64 0),(6,.int .i64 0),(16,.bool false),(18,.int .i64 4)] ∧ Mem w [] w' [blk b4 [bv (List.replicate 32 (0 : UInt8))] [32] 23,blk b2 [[.int .i64 h.m],[.int .i64 h.r],[.bool h.v0.1],[.int .u64 ((h.v0.2.1 : Nat) : Int)],bv h.v0.2.2.1,bv h.v0.2.2.2,[.bool h.v1.1],[.int .u64 ((h.v1.2.1 : Nat) : Int)],bv h.v1.2.2.1,bv h.v1.2.2.2,[.bool h.s0.1],[.int .i64 h.s0.2.1],bv h.s0.2.2.1,bv h.s0.2.2.2.1,bv h.s0.2.2.2.2,[.bool h.s1.1],[.int .i64 h.s1.2.1],bv h.s1.2.2.1,bv h.s1.2.2.2.1,bv h.s1.2.2.2.2,[.bool h.s2.1],[.int .i64 h.s2.2.1],bv h.s2.2.2.1,bv h.s2.2.2.2.1,bv h.s2.2.2.2.2,[.bool h.s3.1],[.int .i64 h.s3.2.1],bv h.s3.2.2.1,bv h.s3.2.2.2.1,bv h.s3.2.2.2.2] [1,1,1,1,32,32,1,1,32,32,1,1,16,32,32,1,1,16,32,32,1,1,16,32,32,1,1,16,32,32] 62,glb 1,tabP]) ?_ ?_
  ·skip
   refine ww1 fun _ K6=>wpp (sb hE rfl rfl bin_lss fun a hE=>?_)
   replace hE := hE.cast 19 rfl (show _ = Value.bool true from (congrArg Value.bool (by decide)))
   refine qa (K6 (ww1 fun _ K7=>wct hE rfl (wp_skip (K7 (ww1 fun _ K8=>wp_block (ww1 fun _ K9=>wpp ?_))))))
   refine sm hE rfl fun a hE=>sas hE rfl fun a hE=>qa (K9 (ww1 fun _ K10=>wpp (sm hE rfl fun a hE=>sf hE rfl fo62_2 fun a hE=>qp (j := 3) hE rfl rfl arr60 rfl (by decide) rfl fun a hE=>?_)))
   refine ql hE rfl (hM.get 1 rfl) row59 rfl (by intro X h;cases h) rfl fun a hE=>?_
   replace hE := hE.cast 24 rfl (show _ = Value.agg ([[.bool h.s3.1],[.int .i64 h.s3.2.1],bv h.s3.2.2.1,bv h.s3.2.2.2.1,bv h.s3.2.2.2.2] : List (List Value)).flatten.toArray from (by first | rfl | simp only [List.flatten_cons,List.flatten_nil,List.append_nil,List.append_assoc]))
   refine qo [1,1,16,32,32] hE hM zeroL59 rfl rfl fun a b8 w7 hE hM=>?_
   have hsl587_2 : h.s3.2.2.1.length = 16 := hk_h.s3.2.1
   have hsl587_3 : h.s3.2.2.2.1.length = 32 := hk_h.s3.2.2.1
   have hsl587_4 : h.s3.2.2.2.2.length = 32 := hk_h.s3.2.2.2
   refine qq 0 5 (vss := [[.bool h.s3.1],[.int .i64 h.s3.2.1],bv h.s3.2.2.1,bv h.s3.2.2.2.1,bv h.s3.2.2.2.2]) hE rfl rfl hM rfl sz59 (by simp only [List.take_succ_cons,List.take_zero,List.drop_zero,List.drop_succ_cons];simp only [List.map_cons,List.map_nil,vh,List.length_cons,List.length_nil,List.length_replicate,hsl587_2,hsl587_3,hsl587_4]) (by decide) rfl (one_fl ⟨one1 rfl,one1 rfl,vc _,vc _,vc _,trivial⟩) rfl (by intro X h;cases h) fun w8 hM=>?_
   try simp only [List.take_zero,List.take_succ_cons,List.drop_zero,List.drop_succ_cons,List.take_nil,List.drop_nil,List.nil_append,List.append_nil,List.cons_append] at hM
   refine qa (K10 (ww1 fun _ K11=>ww1 fun _ K12=>wpp (sf hE rfl fo59_0 fun a hE=>qm hE rfl (hM.get 0 rfl) rfl one4 (by intro X h;cases h) rfl fun a hE=>?_)))
   refine s_not hE rfl rfl fun a hE=>qa (K12 ?_)
   refine hE.split 27 rfl (fun hb27 hE=>?_) (fun hb27 hE=>?_)
   ·replace hb27 := not_true hb27
    refine wct hE rfl (wp_exit (qc (qg (K8 (wpp (sb hE rfl rfl (show Bin _ _ _ _ _ (.int .i64 4) from bin_add (by rw [wrap_i64 (by omega) (by omega)];omega)) fun a hE=>?_))))))
    refine sm hE rfl fun a hE=>qa ?_
    replace hM : Mem _ _ w8 [_,_,_,_] := hM.pick [1,2,3,4] rfl
    refine qd ⟨(by first | exact op_unused hb27 | exact op_no hb27),hE.sel [1,2,4,5,6,16,18] rfl,hM⟩
   ·replace hb27 := not_false' hb27
    refine wcf hE rfl (wp_skip (K11 (ww1 fun _ K13=>wpp (sm hE rfl fun a hE=>sf hE rfl fo59_2 fun a hE=>ql hE rfl (hM.get 0 rfl) row57 rfl (by intro X h;cases h) rfl fun a hE=>?_))))
    refine sf hE rfl fo59_1 fun a hE=>qm hE rfl (hM.get 0 rfl) rfl one3 (by intro X h;cases h) rfl fun a hE=>?_
    refine qn hE rfl Tryd.call56 (skey_c p h.s3.2.2.1 h.s3.2.1 _ (hM.get 3 rfl) hk_h.s3.2.1) rfl ?_
    rintro e w9 ⟨rfl,hN⟩
    refine ⟨_,rfl,trivial,fun a hE=>?_⟩
    replace hM : Mem _ _ w9 [_,_,_,_,_] := hM.call0 hN trivial;clear hN
    refine sm hE rfl fun a hE=>sx hE rfl fun a hE=>sx hE rfl fun a hE=>qo [32] hE hM zero23 rfl rfl fun a b9 w10 hE hM=>qr 0 hE rfl rfl hM rfl sz23 ((vh _).trans (vg p h.s3.2.2.1 h.s3.2.1)) (vc _) rfl ((vh _).trans (by first | (simp;done) | (simp [*];done) | (simp;omega))) rfl (by intro X h;cases h) fun w11 hM=>?_
    simp only [List.set_cons_zero,List.set_cons_succ] at hM
    refine sas hE rfl fun a hE=>qa (K13 (ww1 fun _ K14=>wpp (ql hE rfl (hM.get 0 rfl) row23 rfl (by intro X h;cases h) rfl fun a hE=>?_)))
    refine sf hE rfl fo59_3 fun a hE=>ql hE rfl (hM.get 1 rfl) row29 rfl (by intro X h;cases h) rfl fun a hE=>?_
    replace hE := hE.cast 40 rfl (show _ = Value.agg ([bv h.s3.2.2.2.1,bv h.s3.2.2.2.2] : List (List Value)).flatten.toArray from (by first | rfl | simp only [List.flatten_cons,List.flatten_nil,List.append_nil,List.append_assoc]))
    refine qn hE rfl Tryd.call16 (unwrap_c (kK p h.s3.2.2.1 h.s3.2.1) [115,108,111,116] 0 h.s3.2.2.2.1 h.s3.2.2.2.2 _ (hM.get 4 rfl) (hM.get 5 rfl) (vg p h.s3.2.2.1 h.s3.2.1) hk_h.s3.2.2.1 hk_h.s3.2.2.2 (by have hl_0 : (kK p h.s3.2.2.1 h.s3.2.1).length = 32 := (vg p h.s3.2.2.1 h.s3.2.1);have hl_1 : [115,108,111,116].length = 4 := (by first | (simp;done) | (simp [*];done) | (simp;omega));have hl_3d : h.s3.2.2.2.1.length = 32 := hk_h.s3.2.2.1;have hl_3t : h.s3.2.2.2.2.length = 32 := hk_h.s3.2.2.2;first | omega | assumption | (simp;done) | (simp;omega) | decide) (by have hl_0 : (kK p h.s3.2.2.1 h.s3.2.1).length = 32 := (vg p h.s3.2.2.1 h.s3.2.1);have hl_1 : [115,108,111,116].length = 4 := (by first | (simp;done) | (simp [*];done) | (simp;omega));have hl_3d : h.s3.2.2.2.1.length = 32 := hk_h.s3.2.2.1;have hl_3t : h.s3.2.2.2.2.length = 32 := hk_h.s3.2.2.2;first | omega | assumption | (simp;done) | (simp;omega) | decide)) rfl ?_
    rintro e w12 ⟨rfl,hN⟩
    refine ⟨_,rfl,trivial,fun a hE=>?_⟩
    replace hM : Mem _ _ w12 [_,_,_,_,_,_] := hM.call0 hN trivial;clear hN
    refine sm hE rfl fun a hE=>sx hE rfl fun a hE=>sx hE rfl fun a hE=>qo [32] hE hM zero23 rfl rfl fun a b11 w13 hE hM=>qr 0 hE rfl rfl hM rfl sz23 ((vh _).trans (unwK_len (k := (kK p h.s3.2.2.1 h.s3.2.1)) (l := [115,108,111,116]) (n := 0) (d := h.s3.2.2.2.1) (t := h.s3.2.2.2.2) (by have hl_std : h.s3.2.2.2.1.length = 32 := hk_h.s3.2.2.1;first | assumption | (simp;done)))) (vc _) rfl ((vh _).trans (by first | (simp;done) | (simp [*];done) | (simp;omega))) rfl (by intro X h;cases h) fun w14 hM=>?_
    simp only [List.set_cons_zero,List.set_cons_succ] at hM
    refine sas hE rfl fun a hE=>qa (K14 (ww1 fun _ K15=>wpp (sm hE rfl fun a hE=>sb hE rfl rfl bin_eql fun a hE=>qa (K15 ?_))))
    refine hE.split 45 rfl (fun hb45 hE=>?_) (fun hb45 hE=>?_)
    ·replace hb45 := of_decide_eq_true hb45
     replace hb45 : (unwE (kK p h.s3.2.2.1 h.s3.2.1) [115,108,111,116] 0 h.s3.2.2.2.1 h.s3.2.2.2.2) = 0 := by omega
     obtain ⟨hoy,huk⟩ := op_yes (p := p) (s := h.s3) hb27 hb45
     simp only [slotT] at huk
     refine wct hE rfl (ww1 fun _ K16=>wpp (ql hE rfl (hM.get 0 rfl) row23 rfl (by intro X h;cases h) rfl fun a hE=>?_))
     refine sm hE rfl fun a hE=>?_
     replace hM : Mem _ _ w14 [_,_,_,_,_,_,_] := hM.pick [3,0,1,2,4,5,6] rfl
     refine qr 0 hE rfl rfl hM rfl sz23 ((vh _).trans (unwK_len (k := (kK p h.s3.2.2.1 h.s3.2.1)) (l := [115,108,111,116]) (n := 0) (d := h.s3.2.2.2.1) (t := h.s3.2.2.2.2) (by have hl_std : h.s3.2.2.2.1.length = 32 := hk_h.s3.2.2.1;first | assumption | (simp;done)))) (vc _) rfl ((vh _).trans (by first | (simp;done) | (simp [*];done) | (simp;omega))) rfl (by intro X h;cases h) fun w15 hM=>?_
     simp only [List.set_cons_zero,List.set_cons_succ] at hM
     refine sas hE rfl fun a hE=>sas hE rfl fun a hE=>qa (K16 (wp_ret (qf (qb (qb (qf (qb ?_)))))))
     exact qk hE rfl (res_cellN rfl (hM.get 0 rfl) row23 rfl) rfl rfl ⟨(by rw [huk];simp [unl,hoy,hJ4_0,hJ4_1,hJ4_2,hb16]),hM.pick [] rfl⟩
    ·replace hb45 := of_decide_eq_false hb45
     replace hb45 : ¬ ((unwE (kK p h.s3.2.2.1 h.s3.2.1) [115,108,111,116] 0 h.s3.2.2.2.1 h.s3.2.2.2.2) = 0) := by omega
     refine wcf hE rfl (wp_skip (qe (K8 (wpp (sb hE rfl rfl (show Bin _ _ _ _ _ (.int .i64 4) from bin_add (by rw [wrap_i64 (by omega) (by omega)];omega)) fun a hE=>?_)))))
     refine sm hE rfl fun a hE=>qa ?_
     replace hM : Mem _ _ w14 [_,_,_,_] := hM.pick [3,4,5,6] rfl
     refine qd ⟨(by first | exact op_unused hb27 | exact op_no hb45),hE.sel [1,2,4,5,6,16,18] rfl,hM⟩
  rintro a w7 ⟨hJ4_3,hE,hM⟩
  refine c_rounds (ww1 fun _ K6=>wpp (sb hE rfl rfl bin_lss fun a hE=>?_))
  replace hE := hE.cast 19 rfl (show _ = Value.bool false from (congrArg Value.bool (by decide)))
  refine qa (K6 (ww1 fun _ K7=>wcf hE rfl (wp_exit (qc (qc (qg (K4 (ww1 fun _ K8=>?_))))))))
  refine wpp (s_build (r := .agg (bv (List.replicate 32 (0 : UInt8))).toArray) _ hE rfl (fun w => by kernel_rfl) rfl fun a hE=>?_)
  refine qr 0 hE rfl rfl hM rfl sz23 ((vh _).trans (by first | (simp;done) | (simp [*];done) | (simp;omega))) (vc _) rfl ((vh _).trans (by first | (simp;done) | (simp [*];done) | (simp;omega))) rfl (by intro X h;cases h) fun w8 hM=>?_
  simp only [List.set_cons_zero,List.set_cons_succ] at hM
  exact sas hE rfl fun a hE=>sas hE rfl fun a hE=>qa (K8 (wp_ret (qk hE rfl (res_cellN rfl (hM.get 0 rfl) row23 rfl) rfl rfl ⟨(by simp [unl,hJ4_0,hJ4_1,hJ4_2,hJ4_3,hb16]),hM.pick [] rfl⟩)))
theorem used_c (h : Hd) (w : World) (hk_h : OkHd h) : Calls Tryd.prog 35 #[.agg ([[.int .i64 h.m],[.int .i64 h.r],[.bool h.v0.1],[.int .u64 ((h.v0.2.1 : Nat) : Int)],bv h.v0.2.2.1,bv h.v0.2.2.2,[.bool h.v1.1],[.int .u64 ((h.v1.2.1 : Nat) : Int)],bv h.v1.2.2.1,bv h.v1.2.2.2,[.bool h.s0.1],[.int .i64 h.s0.2.1],bv h.s0.2.2.1,bv h.s0.2.2.2.1,bv h.s0.2.2.2.2,[.bool h.s1.1],[.int .i64 h.s1.2.1],bv h.s1.2.2.1,bv h.s1.2.2.2.1,bv h.s1.2.2.2.2,[.bool h.s2.1],[.int .i64 h.s2.2.1],bv h.s2.2.2.1,bv h.s2.2.2.2.1,bv h.s2.2.2.2.2,[.bool h.s3.1],[.int .i64 h.s3.2.1],bv h.s3.2.2.1,bv h.s3.2.2.2.1,bv h.s3.2.2.2.2] : List (List Value)).flatten.toArray] w fun e w' => ∃ v'0,e = .returned (v'0) ∧ Mem w [] w' [own v'0 1 ((usedL h).length) ((usedL h).flatMap intC)] := by
 have hp0 := usedP_len h 0
 have hp1 := usedP_len h 1
 have hp2 := usedP_len h 2
 have hp3 := usedP_len h 3
 have hp4 := usedP_len h 4
 have hM := Mem.start0 w
 refine ve 18 Tryd.func35 rfl rfl rfl ?_
 intro a hE
 replace hE : Env a 18 [(0,_)] := hE
 refine ww1 fun _ K1=>wpp ?_
 have hbl1_4 : h.v0.2.2.1.length = 32 := hk_h.v0.2.1
 have hbl1_5 : h.v0.2.2.2.length = 32 := hk_h.v0.2.2
 have hbl1_8 : h.v1.2.2.1.length = 32 := hk_h.v1.2.1
 have hbl1_9 : h.v1.2.2.2.length = 32 := hk_h.v1.2.2
 have hbl1_12 : h.s0.2.2.1.length = 16 := hk_h.s0.2.1
 have hbl1_13 : h.s0.2.2.2.1.length = 32 := hk_h.s0.2.2.1
 have hbl1_14 : h.s0.2.2.2.2.length = 32 := hk_h.s0.2.2.2
 have hbl1_17 : h.s1.2.2.1.length = 16 := hk_h.s1.2.1
 have hbl1_18 : h.s1.2.2.2.1.length = 32 := hk_h.s1.2.2.1
 have hbl1_19 : h.s1.2.2.2.2.length = 32 := hk_h.s1.2.2.2
 have hbl1_22 : h.s2.2.2.1.length = 16 := hk_h.s2.2.1
 have hbl1_23 : h.s2.2.2.2.1.length = 32 := hk_h.s2.2.2.1
 have hbl1_24 : h.s2.2.2.2.2.length = 32 := hk_h.s2.2.2.2
 have hbl1_27 : h.s3.2.2.1.length = 16 := hk_h.s3.2.1
 have hbl1_28 : h.s3.2.2.2.1.length = 32 := hk_h.s3.2.2.1
 have hbl1_29 : h.s3.2.2.2.2.length = 32 := hk_h.s3.2.2.2
 refine s_box (ss := [[.int .i64 h.m],[.int .i64 h.r],[.bool h.v0.1],[.int .u64 ((h.v0.2.1 : Nat) : Int)],bv h.v0.2.2.1,bv h.v0.2.2.2,[.bool h.v1.1],[.int .u64 ((h.v1.2.1 : Nat) : Int)],bv h.v1.2.2.1,bv h.v1.2.2.2,[.bool h.s0.1],[.int .i64 h.s0.2.1],bv h.s0.2.2.1,bv h.s0.2.2.2.1,bv h.s0.2.2.2.2,[.bool h.s1.1],[.int .i64 h.s1.2.1],bv h.s1.2.2.1,bv h.s1.2.2.2.1,bv h.s1.2.2.2.2,[.bool h.s2.1],[.int .i64 h.s2.2.1],bv h.s2.2.2.1,bv h.s2.2.2.2.1,bv h.s2.2.2.2.2,[.bool h.s3.1],[.int .i64 h.s3.2.1],bv h.s3.2.2.1,bv h.s3.2.2.2.1,bv h.s3.2.2.2.2]) [1,1,1,1,32,32,1,1,32,32,1,1,16,32,32,1,1,16,32,32,1,1,16,32,32,1,1,16,32,32] hE hM rfl rfl (by simp only [List.map_cons,List.map_nil,vh,List.length_cons,List.length_nil,List.length_replicate,hbl1_4,hbl1_5,hbl1_8,hbl1_9,hbl1_12,hbl1_13,hbl1_14,hbl1_17,hbl1_18,hbl1_19,hbl1_22,hbl1_23,hbl1_24,hbl1_27,hbl1_28,hbl1_29]) rfl fun a b1 w1 hE hM=>?_
 refine sas hE rfl fun a hE=>qa (K1 (ww1 fun _ K2=>ww1 fun _ K3=>wpp (sm hE rfl fun a hE=>qa (K3 (wp_block ?_)))))
 replace hM := hM.addNil 1
 replace hM := hM.ownEq (m' := ([] : List Nat).length) (cs' := ([] : List Nat).flatMap intC) rfl rfl
 replace hM := Mem.ownRowsEq (f := intC) (ls := ([] : List Nat)) (ms := usedP h 0) hM rfl
 refine wp_loop_rounds 5 ?_
 refine c_roundsJ (fun a w' => ∃ vu2,True ∧ Env a 18 [(1,.pointer (some ⟨b1,0,none⟩)),(2,vu2),(4,.int .i64 1)] ∧ Mem w [] w' [own vu2 1 ((usedP h 1).length) ((usedP h 1).flatMap intC),blk b1 [[.int .i64 h.m],[.int .i64 h.r],[.bool h.v0.1],[.int .u64 ((h.v0.2.1 : Nat) : Int)],bv h.v0.2.2.1,bv h.v0.2.2.2,[.bool h.v1.1],[.int .u64 ((h.v1.2.1 : Nat) : Int)],bv h.v1.2.2.1,bv h.v1.2.2.2,[.bool h.s0.1],[.int .i64 h.s0.2.1],bv h.s0.2.2.1,bv h.s0.2.2.2.1,bv h.s0.2.2.2.2,[.bool h.s1.1],[.int .i64 h.s1.2.1],bv h.s1.2.2.1,bv h.s1.2.2.2.1,bv h.s1.2.2.2.2,[.bool h.s2.1],[.int .i64 h.s2.2.1],bv h.s2.2.2.1,bv h.s2.2.2.2.1,bv h.s2.2.2.2.2,[.bool h.s3.1],[.int .i64 h.s3.2.1],bv h.s3.2.2.1,bv h.s3.2.2.2.1,bv h.s3.2.2.2.2] [1,1,1,1,32,32,1,1,32,32,1,1,16,32,32,1,1,16,32,32,1,1,16,32,32,1,1,16,32,32] 62]) ?_ ?_
 ·skip
  refine ww1 fun _ K4=>wpp (sb hE rfl rfl bin_lss fun a hE=>?_)
  replace hE := hE.cast 5 rfl (show _ = Value.bool true from (congrArg Value.bool (by decide)))
  refine qa (K4 (ww1 fun _ K5=>wct hE rfl (wp_skip (K5 (ww1 fun _ K6=>wp_block (ww1 fun _ K7=>wpp ?_))))))
  refine sm hE rfl fun a hE=>sas hE rfl fun a hE=>qa (K7 (ww1 fun _ K8=>wpp (sm hE rfl fun a hE=>sf hE rfl fo62_2 fun a hE=>qp (j := 0) hE rfl rfl arr60 rfl (by decide) rfl fun a hE=>?_)))
  refine sf hE rfl fo59_0 fun a hE=>qm hE rfl (hM.get 1 rfl) rfl one4 (by intro X h;cases h) rfl fun a hE=>?_
  refine qa (K8 ?_)
  refine hE.split 11 rfl (fun hb11 hE=>?_) (fun hb11 hE=>?_)
  ·refine wct hE rfl (wpp (sm hE rfl fun a hE=>sm hE rfl fun a hE=>qv (xs := [.tmp 13]) ([.int .i64 0]) hE hM sl77 rfl rfl rfl (by intro v hv;simp only [List.mem_cons,List.not_mem_nil,or_false] at hv;rcases hv with rfl <;> rfl) rfl rfl rfl rfl fun a v14 w2 hE hM=>?_))
   replace hM := hM.ownEq (m' := ([0] : List Nat).length) (cs' := ([0] : List Nat).flatMap intC) rfl rfl
   replace hM : Mem _ _ w2 [_,_,_] := hM.pick [1,0,2] rfl
   obtain ⟨cq1,hq1⟩ := own_rd (hM.get 1 rfl)
   refine qw hE rfl rfl hM sl77 (Src.rd Tryd.underlying77 hq1 (intCs_one _)) (len47 (by first | omega | (simp;done) | (simp;omega))) (by first | omega | (simp;done) | (simp;omega)) (by intro X h;cases h) rfl fun a v15 w3 hE hM=>?_
   replace hM := Mem.ownRowsL (f := intC) (ls := usedP h 0) (ms := ([0] : List Nat)) hM rfl rfl
   replace hM : Mem _ _ w3 [_,_] := hM.pick [0,2] rfl
   refine sas hE rfl fun a hE=>qa (qe (K6 (wpp (sb hE rfl rfl (show Bin _ _ _ _ _ (.int .i64 1) from bin_add (by rw [wrap_i64 (by omega) (by omega)];omega)) fun a hE=>?_))))
   refine sm hE rfl fun a hE=>qa ?_
   replace hM := Mem.ownRowsEq (f := intC) (ls := (usedP h 0) ++ ([0] : List Nat)) (ms := usedP h 1) hM (by simp [usedP,getS,hb11])
   replace hM : Mem _ _ w3 [_,_] := hM.pick [0,1] rfl
   refine qd ⟨_,trivial,hE.sel [1,2,4] rfl,hM⟩
  ·refine wcf hE rfl (wp_skip (qe (K6 (wpp (sb hE rfl rfl (show Bin _ _ _ _ _ (.int .i64 1) from bin_add (by rw [wrap_i64 (by omega) (by omega)];omega)) fun a hE=>?_)))))
   refine sm hE rfl fun a hE=>qa ?_
   replace hM := Mem.ownRowsEq (f := intC) (ls := usedP h 0) (ms := usedP h 1) hM (by simp [usedP,getS,hb11])
   replace hM : Mem _ _ w1 [_,_] := hM.pick [0,1] rfl
   refine qd ⟨_,trivial,hE.sel [1,2,4] rfl,hM⟩
 rintro a w2 ⟨vu2,hJ2_0,hE,hM⟩
 refine c_roundsJ (fun a w' => ∃ vu2,True ∧ Env a 18 [(1,.pointer (some ⟨b1,0,none⟩)),(2,vu2),(4,.int .i64 2)] ∧ Mem w [] w' [own vu2 1 ((usedP h 2).length) ((usedP h 2).flatMap intC),blk b1 [[.int .i64 h.m],[.int .i64 h.r],[.bool h.v0.1],[.int .u64 ((h.v0.2.1 : Nat) : Int)],bv h.v0.2.2.1,bv h.v0.2.2.2,[.bool h.v1.1],[.int .u64 ((h.v1.2.1 : Nat) : Int)],bv h.v1.2.2.1,bv h.v1.2.2.2,[.bool h.s0.1],[.int .i64 h.s0.2.1],bv h.s0.2.2.1,bv h.s0.2.2.2.1,bv h.s0.2.2.2.2,[.bool h.s1.1],[.int .i64 h.s1.2.1],bv h.s1.2.2.1,bv h.s1.2.2.2.1,bv h.s1.2.2.2.2,[.bool h.s2.1],[.int .i64 h.s2.2.1],bv h.s2.2.2.1,bv h.s2.2.2.2.1,bv h.s2.2.2.2.2,[.bool h.s3.1],[.int .i64 h.s3.2.1],bv h.s3.2.2.1,bv h.s3.2.2.2.1,bv h.s3.2.2.2.2] [1,1,1,1,32,32,1,1,32,32,1,1,16,32,32,1,1,16,32,32,1,1,16,32,32,1,1,16,32,32] 62]) ?_ ?_
 ·skip
  refine ww1 fun _ K4=>wpp (sb hE rfl rfl bin_lss fun a hE=>?_)
  replace hE := hE.cast 5 rfl (show _ = Value.bool true from (congrArg Value.bool (by decide)))
  refine qa (K4 (ww1 fun _ K5=>wct hE rfl (wp_skip (K5 (ww1 fun _ K6=>wp_block (ww1 fun _ K7=>wpp ?_))))))
  refine sm hE rfl fun a hE=>sas hE rfl fun a hE=>qa (K7 (ww1 fun _ K8=>wpp (sm hE rfl fun a hE=>sf hE rfl fo62_2 fun a hE=>qp (j := 1) hE rfl rfl arr60 rfl (by decide) rfl fun a hE=>?_)))
  refine sf hE rfl fo59_0 fun a hE=>qm hE rfl (hM.get 1 rfl) rfl one4 (by intro X h;cases h) rfl fun a hE=>?_
  refine qa (K8 ?_)
  refine hE.split 11 rfl (fun hb11 hE=>?_) (fun hb11 hE=>?_)
  ·refine wct hE rfl (wpp (sm hE rfl fun a hE=>sm hE rfl fun a hE=>qv (xs := [.tmp 13]) ([.int .i64 1]) hE hM sl77 rfl rfl rfl (by intro v hv;simp only [List.mem_cons,List.not_mem_nil,or_false] at hv;rcases hv with rfl <;> rfl) rfl rfl rfl rfl fun a v14 w3 hE hM=>?_))
   replace hM := hM.ownEq (m' := ([1] : List Nat).length) (cs' := ([1] : List Nat).flatMap intC) rfl rfl
   replace hM : Mem _ _ w3 [_,_,_] := hM.pick [1,0,2] rfl
   obtain ⟨cq2,hq2⟩ := own_rd (hM.get 1 rfl)
   refine qw hE rfl rfl hM sl77 (Src.rd Tryd.underlying77 hq2 (intCs_one _)) (len47 (by first | omega | (simp;done) | (simp;omega))) (by first | omega | (simp;done) | (simp;omega)) (by intro X h;cases h) rfl fun a v15 w4 hE hM=>?_
   replace hM := Mem.ownRowsL (f := intC) (ls := usedP h 1) (ms := ([1] : List Nat)) hM rfl rfl
   replace hM : Mem _ _ w4 [_,_] := hM.pick [0,2] rfl
   refine sas hE rfl fun a hE=>qa (qe (K6 (wpp (sb hE rfl rfl (show Bin _ _ _ _ _ (.int .i64 2) from bin_add (by rw [wrap_i64 (by omega) (by omega)];omega)) fun a hE=>?_))))
   refine sm hE rfl fun a hE=>qa ?_
   replace hM := Mem.ownRowsEq (f := intC) (ls := (usedP h 1) ++ ([1] : List Nat)) (ms := usedP h 2) hM (by simp [usedP,getS,hb11])
   replace hM : Mem _ _ w4 [_,_] := hM.pick [0,1] rfl
   refine qd ⟨_,trivial,hE.sel [1,2,4] rfl,hM⟩
  ·refine wcf hE rfl (wp_skip (qe (K6 (wpp (sb hE rfl rfl (show Bin _ _ _ _ _ (.int .i64 2) from bin_add (by rw [wrap_i64 (by omega) (by omega)];omega)) fun a hE=>?_)))))
   refine sm hE rfl fun a hE=>qa ?_
   replace hM := Mem.ownRowsEq (f := intC) (ls := usedP h 1) (ms := usedP h 2) hM (by simp [usedP,getS,hb11])
   replace hM : Mem _ _ w2 [_,_] := hM.pick [0,1] rfl
   refine qd ⟨_,trivial,hE.sel [1,2,4] rfl,hM⟩
 rintro a w3 ⟨vu2,hJ2_1,hE,hM⟩
 refine c_roundsJ (fun a w' => ∃ vu2,True ∧ Env a 18 [(1,.pointer (some ⟨b1,0,none⟩)),(2,vu2),(4,.int .i64 3)] ∧ Mem w [] w' [own vu2 1 ((usedP h 3).length) ((usedP h 3).flatMap intC),blk b1 [[.int .i64 h.m],[.int .i64 h.r],[.bool h.v0.1],[.int .u64 ((h.v0.2.1 : Nat) : Int)],bv h.v0.2.2.1,bv h.v0.2.2.2,[.bool h.v1.1],[.int .u64 ((h.v1.2.1 : Nat) : Int)],bv h.v1.2.2.1,bv h.v1.2.2.2,[.bool h.s0.1],[.int .i64 h.s0.2.1],bv h.s0.2.2.1,bv h.s0.2.2.2.1,bv h.s0.2.2.2.2,[.bool h.s1.1],[.int .i64 h.s1.2.1],bv h.s1.2.2.1,bv h.s1.2.2.2.1,bv h.s1.2.2.2.2,[.bool h.s2.1],[.int .i64 h.s2.2.1],bv h.s2.2.2.1,bv h.s2.2.2.2.1,bv h.s2.2.2.2.2,[.bool h.s3.1],[.int .i64 h.s3.2.1],bv h.s3.2.2.1,bv h.s3.2.2.2.1,bv h.s3.2.2.2.2] [1,1,1,1,32,32,1,1,32,32,1,1,16,32,32,1,1,16,32,32,1,1,16,32,32,1,1,16,32,32] 62]) ?_ ?_
 ·skip
  refine ww1 fun _ K4=>wpp (sb hE rfl rfl bin_lss fun a hE=>?_)
  replace hE := hE.cast 5 rfl (show _ = Value.bool true from (congrArg Value.bool (by decide)))
  refine qa (K4 (ww1 fun _ K5=>wct hE rfl (wp_skip (K5 (ww1 fun _ K6=>wp_block (ww1 fun _ K7=>wpp ?_))))))
  refine sm hE rfl fun a hE=>sas hE rfl fun a hE=>qa (K7 (ww1 fun _ K8=>wpp (sm hE rfl fun a hE=>sf hE rfl fo62_2 fun a hE=>qp (j := 2) hE rfl rfl arr60 rfl (by decide) rfl fun a hE=>?_)))
  refine sf hE rfl fo59_0 fun a hE=>qm hE rfl (hM.get 1 rfl) rfl one4 (by intro X h;cases h) rfl fun a hE=>?_
  refine qa (K8 ?_)
  refine hE.split 11 rfl (fun hb11 hE=>?_) (fun hb11 hE=>?_)
  ·refine wct hE rfl (wpp (sm hE rfl fun a hE=>sm hE rfl fun a hE=>qv (xs := [.tmp 13]) ([.int .i64 2]) hE hM sl77 rfl rfl rfl (by intro v hv;simp only [List.mem_cons,List.not_mem_nil,or_false] at hv;rcases hv with rfl <;> rfl) rfl rfl rfl rfl fun a v14 w4 hE hM=>?_))
   replace hM := hM.ownEq (m' := ([2] : List Nat).length) (cs' := ([2] : List Nat).flatMap intC) rfl rfl
   replace hM : Mem _ _ w4 [_,_,_] := hM.pick [1,0,2] rfl
   obtain ⟨cq3,hq3⟩ := own_rd (hM.get 1 rfl)
   refine qw hE rfl rfl hM sl77 (Src.rd Tryd.underlying77 hq3 (intCs_one _)) (len47 (by first | omega | (simp;done) | (simp;omega))) (by first | omega | (simp;done) | (simp;omega)) (by intro X h;cases h) rfl fun a v15 w5 hE hM=>?_
   replace hM := Mem.ownRowsL (f := intC) (ls := usedP h 2) (ms := ([2] : List Nat)) hM rfl rfl
   replace hM : Mem _ _ w5 [_,_] := hM.pick [0,2] rfl
   refine sas hE rfl fun a hE=>qa (qe (K6 (wpp (sb hE rfl rfl (show Bin _ _ _ _ _ (.int .i64 3) from bin_add (by rw [wrap_i64 (by omega) (by omega)];omega)) fun a hE=>?_))))
   refine sm hE rfl fun a hE=>qa ?_
   replace hM := Mem.ownRowsEq (f := intC) (ls := (usedP h 2) ++ ([2] : List Nat)) (ms := usedP h 3) hM (by simp [usedP,getS,hb11])
   replace hM : Mem _ _ w5 [_,_] := hM.pick [0,1] rfl
   refine qd ⟨_,trivial,hE.sel [1,2,4] rfl,hM⟩
  ·refine wcf hE rfl (wp_skip (qe (K6 (wpp (sb hE rfl rfl (show Bin _ _ _ _ _ (.int .i64 3) from bin_add (by rw [wrap_i64 (by omega) (by omega)];omega)) fun a hE=>?_)))))
   refine sm hE rfl fun a hE=>qa ?_
   replace hM := Mem.ownRowsEq (f := intC) (ls := usedP h 2) (ms := usedP h 3) hM (by simp [usedP,getS,hb11])
   replace hM : Mem _ _ w3 [_,_] := hM.pick [0,1] rfl
   refine qd ⟨_,trivial,hE.sel [1,2,4] rfl,hM⟩
 rintro a w4 ⟨vu2,hJ2_2,hE,hM⟩
 refine c_roundsJ (fun a w' => ∃ vu2,True ∧ Env a 18 [(1,.pointer (some ⟨b1,0,none⟩)),(2,vu2),(4,.int .i64 4)] ∧ Mem w [] w' [own vu2 1 ((usedP h 4).length) ((usedP h 4).flatMap intC),blk b1 [[.int .i64 h.m],[.int .i64 h.r],[.bool h.v0.1],[.int .u64 ((h.v0.2.1 : Nat) : Int)],bv h.v0.2.2.1,bv h.v0.2.2.2,[.bool h.v1.1],[.int .u64 ((h.v1.2.1 : Nat) : Int)],bv h.v1.2.2.1,bv h.v1.2.2.2,[.bool h.s0.1],[.int .i64 h.s0.2.1],bv h.s0.2.2.1,bv h.s0.2.2.2.1,bv h.s0.2.2.2.2,[.bool h.s1.1],[.int .i64 h.s1.2.1],bv h.s1.2.2.1,bv h.s1.2.2.2.1,bv h.s1.2.2.2.2,[.bool h.s2.1],[.int .i64 h.s2.2.1],bv h.s2.2.2.1,bv h.s2.2.2.2.1,bv h.s2.2.2.2.2,[.bool h.s3.1],[.int .i64 h.s3.2.1],bv h.s3.2.2.1,bv h.s3.2.2.2.1,bv h.s3.2.2.2.2] [1,1,1,1,32,32,1,1,32,32,1,1,16,32,32,1,1,16,32,32,1,1,16,32,32,1,1,16,32,32] 62]) ?_ ?_
 ·skip
  refine ww1 fun _ K4=>wpp (sb hE rfl rfl bin_lss fun a hE=>?_)
  replace hE := hE.cast 5 rfl (show _ = Value.bool true from (congrArg Value.bool (by decide)))
  refine qa (K4 (ww1 fun _ K5=>wct hE rfl (wp_skip (K5 (ww1 fun _ K6=>wp_block (ww1 fun _ K7=>wpp ?_))))))
  refine sm hE rfl fun a hE=>sas hE rfl fun a hE=>qa (K7 (ww1 fun _ K8=>wpp (sm hE rfl fun a hE=>sf hE rfl fo62_2 fun a hE=>qp (j := 3) hE rfl rfl arr60 rfl (by decide) rfl fun a hE=>?_)))
  refine sf hE rfl fo59_0 fun a hE=>qm hE rfl (hM.get 1 rfl) rfl one4 (by intro X h;cases h) rfl fun a hE=>?_
  refine qa (K8 ?_)
  refine hE.split 11 rfl (fun hb11 hE=>?_) (fun hb11 hE=>?_)
  ·refine wct hE rfl (wpp (sm hE rfl fun a hE=>sm hE rfl fun a hE=>qv (xs := [.tmp 13]) ([.int .i64 3]) hE hM sl77 rfl rfl rfl (by intro v hv;simp only [List.mem_cons,List.not_mem_nil,or_false] at hv;rcases hv with rfl <;> rfl) rfl rfl rfl rfl fun a v14 w5 hE hM=>?_))
   replace hM := hM.ownEq (m' := ([3] : List Nat).length) (cs' := ([3] : List Nat).flatMap intC) rfl rfl
   replace hM : Mem _ _ w5 [_,_,_] := hM.pick [1,0,2] rfl
   obtain ⟨cq4,hq4⟩ := own_rd (hM.get 1 rfl)
   refine qw hE rfl rfl hM sl77 (Src.rd Tryd.underlying77 hq4 (intCs_one _)) (len47 (by first | omega | (simp;done) | (simp;omega))) (by first | omega | (simp;done) | (simp;omega)) (by intro X h;cases h) rfl fun a v15 w6 hE hM=>?_
   replace hM := Mem.ownRowsL (f := intC) (ls := usedP h 3) (ms := ([3] : List Nat)) hM rfl rfl
   replace hM : Mem _ _ w6 [_,_] := hM.pick [0,2] rfl
   refine sas hE rfl fun a hE=>qa (qe (K6 (wpp (sb hE rfl rfl (show Bin _ _ _ _ _ (.int .i64 4) from bin_add (by rw [wrap_i64 (by omega) (by omega)];omega)) fun a hE=>?_))))
   refine sm hE rfl fun a hE=>qa ?_
   replace hM := Mem.ownRowsEq (f := intC) (ls := (usedP h 3) ++ ([3] : List Nat)) (ms := usedP h 4) hM (by simp [usedP,getS,hb11])
   replace hM : Mem _ _ w6 [_,_] := hM.pick [0,1] rfl
   refine qd ⟨_,trivial,hE.sel [1,2,4] rfl,hM⟩
  ·refine wcf hE rfl (wp_skip (qe (K6 (wpp (sb hE rfl rfl (show Bin _ _ _ _ _ (.int .i64 4) from bin_add (by rw [wrap_i64 (by omega) (by omega)];omega)) fun a hE=>?_)))))
   refine sm hE rfl fun a hE=>qa ?_
   replace hM := Mem.ownRowsEq (f := intC) (ls := usedP h 3) (ms := usedP h 4) hM (by simp [usedP,getS,hb11])
   replace hM : Mem _ _ w4 [_,_] := hM.pick [0,1] rfl
   refine qd ⟨_,trivial,hE.sel [1,2,4] rfl,hM⟩
 rintro a w5 ⟨vu2,hJ2_3,hE,hM⟩
 refine c_rounds (ww1 fun _ K4=>wpp (sb hE rfl rfl bin_lss fun a hE=>?_))
 replace hE := hE.cast 5 rfl (show _ = Value.bool false from (congrArg Value.bool (by decide)))
 refine qa (K4 (ww1 fun _ K5=>wcf hE rfl (wp_exit (qc (qc (qg (K2 (ww1 fun _ K6=>?_))))))))
 refine wpp (sm hE rfl fun a hE=>sas hE rfl fun a hE=>qa (K6 (wp_ret (qi hE rfl rfl ?_))))
 replace hM := Mem.ownRowsEq (f := intC) (ls := usedP h 4) (ms := usedL h) hM usedP_all
 exact ⟨_,(by first | rfl | (simp;done)),hM.pick [0] rfl⟩
theorem free_c (h : Hd) (w : World) (hk_h : OkHd h) : Calls Tryd.prog 59 #[.agg ([[.int .i64 h.m],[.int .i64 h.r],[.bool h.v0.1],[.int .u64 ((h.v0.2.1 : Nat) : Int)],bv h.v0.2.2.1,bv h.v0.2.2.2,[.bool h.v1.1],[.int .u64 ((h.v1.2.1 : Nat) : Int)],bv h.v1.2.2.1,bv h.v1.2.2.2,[.bool h.s0.1],[.int .i64 h.s0.2.1],bv h.s0.2.2.1,bv h.s0.2.2.2.1,bv h.s0.2.2.2.2,[.bool h.s1.1],[.int .i64 h.s1.2.1],bv h.s1.2.2.1,bv h.s1.2.2.2.1,bv h.s1.2.2.2.2,[.bool h.s2.1],[.int .i64 h.s2.2.1],bv h.s2.2.2.1,bv h.s2.2.2.2.1,bv h.s2.2.2.2.2,[.bool h.s3.1],[.int .i64 h.s3.2.1],bv h.s3.2.2.1,bv h.s3.2.2.2.1,bv h.s3.2.2.2.2] : List (List Value)).flatten.toArray] w fun e w' => e = .returned (.int .i64 (freeS h)) ∧ Mem w [] w' [] := by
 have hM := Mem.start0 w
 refine ve 15 Tryd.func59 rfl rfl rfl ?_
 intro a hE
 replace hE : Env a 15 [(0,_)] := hE
 refine ww1 fun _ K1=>wpp ?_
 have hbl1_4 : h.v0.2.2.1.length = 32 := hk_h.v0.2.1
 have hbl1_5 : h.v0.2.2.2.length = 32 := hk_h.v0.2.2
 have hbl1_8 : h.v1.2.2.1.length = 32 := hk_h.v1.2.1
 have hbl1_9 : h.v1.2.2.2.length = 32 := hk_h.v1.2.2
 have hbl1_12 : h.s0.2.2.1.length = 16 := hk_h.s0.2.1
 have hbl1_13 : h.s0.2.2.2.1.length = 32 := hk_h.s0.2.2.1
 have hbl1_14 : h.s0.2.2.2.2.length = 32 := hk_h.s0.2.2.2
 have hbl1_17 : h.s1.2.2.1.length = 16 := hk_h.s1.2.1
 have hbl1_18 : h.s1.2.2.2.1.length = 32 := hk_h.s1.2.2.1
 have hbl1_19 : h.s1.2.2.2.2.length = 32 := hk_h.s1.2.2.2
 have hbl1_22 : h.s2.2.2.1.length = 16 := hk_h.s2.2.1
 have hbl1_23 : h.s2.2.2.2.1.length = 32 := hk_h.s2.2.2.1
 have hbl1_24 : h.s2.2.2.2.2.length = 32 := hk_h.s2.2.2.2
 have hbl1_27 : h.s3.2.2.1.length = 16 := hk_h.s3.2.1
 have hbl1_28 : h.s3.2.2.2.1.length = 32 := hk_h.s3.2.2.1
 have hbl1_29 : h.s3.2.2.2.2.length = 32 := hk_h.s3.2.2.2
 refine s_box (ss := [[.int .i64 h.m],[.int .i64 h.r],[.bool h.v0.1],[.int .u64 ((h.v0.2.1 : Nat) : Int)],bv h.v0.2.2.1,bv h.v0.2.2.2,[.bool h.v1.1],[.int .u64 ((h.v1.2.1 : Nat) : Int)],bv h.v1.2.2.1,bv h.v1.2.2.2,[.bool h.s0.1],[.int .i64 h.s0.2.1],bv h.s0.2.2.1,bv h.s0.2.2.2.1,bv h.s0.2.2.2.2,[.bool h.s1.1],[.int .i64 h.s1.2.1],bv h.s1.2.2.1,bv h.s1.2.2.2.1,bv h.s1.2.2.2.2,[.bool h.s2.1],[.int .i64 h.s2.2.1],bv h.s2.2.2.1,bv h.s2.2.2.2.1,bv h.s2.2.2.2.2,[.bool h.s3.1],[.int .i64 h.s3.2.1],bv h.s3.2.2.1,bv h.s3.2.2.2.1,bv h.s3.2.2.2.2]) [1,1,1,1,32,32,1,1,32,32,1,1,16,32,32,1,1,16,32,32,1,1,16,32,32,1,1,16,32,32] hE hM rfl rfl (by simp only [List.map_cons,List.map_nil,vh,List.length_cons,List.length_nil,List.length_replicate,hbl1_4,hbl1_5,hbl1_8,hbl1_9,hbl1_12,hbl1_13,hbl1_14,hbl1_17,hbl1_18,hbl1_19,hbl1_22,hbl1_23,hbl1_24,hbl1_27,hbl1_28,hbl1_29]) rfl fun a b1 w1 hE hM=>?_
 refine sas hE rfl fun a hE=>qa (K1 (ww1 fun _ K2=>ww1 fun _ K3=>wpp (sm hE rfl fun a hE=>qa (K3 (wp_block ?_)))))
 refine wp_loop_rounds 5 (c_rounds (ww1 fun _ K4=>wpp (sb hE rfl rfl bin_lss fun a hE=>?_)))
 replace hE := hE.cast 5 rfl (show _ = Value.bool true from (congrArg Value.bool (by decide)))
 refine qa (K4 (ww1 fun _ K5=>wct hE rfl (wp_skip (K5 (ww1 fun _ K6=>wp_block (ww1 fun _ K7=>wpp ?_))))))
 refine sm hE rfl fun a hE=>sas hE rfl fun a hE=>qa (K7 (ww1 fun _ K8=>wpp (sm hE rfl fun a hE=>sf hE rfl fo62_2 fun a hE=>qp (j := 0) hE rfl rfl arr60 rfl (by decide) rfl fun a hE=>?_)))
 refine sf hE rfl fo59_0 fun a hE=>qm hE rfl (hM.get 0 rfl) rfl one4 (by intro X h;cases h) rfl fun a hE=>?_
 refine s_not hE rfl rfl fun a hE=>qa (K8 ?_)
 refine hE.split 12 rfl (fun hb12 hE=>?_) (fun hb12 hE=>?_)
 ·replace hb12 := not_true hb12
  refine wct hE rfl (ww1 fun _ K9=>wpp (sm hE rfl fun a hE=>sas hE rfl fun a hE=>qa (K9 (wp_ret (qf (qb ?_))))))
  exact qb (qf (qb (qi hE rfl rfl ⟨(by simp [freeS,hb12]),hM.pick [] rfl⟩)))
 ·replace hb12 := not_false' hb12
  refine wcf hE rfl (wp_skip (qe (K6 (wpp (sb hE rfl rfl (show Bin _ _ _ _ _ (.int .i64 1) from bin_add (by rw [wrap_i64 (by omega) (by omega)];omega)) fun a hE=>?_)))))
  refine sm hE rfl fun a hE=>qa ?_
  replace hM : Mem _ _ w1 [_] := hM.pick [0] rfl
  refine qd (c_rounds (ww1 fun _ K9=>wpp (sb hE rfl rfl bin_lss fun a hE=>?_)))
  replace hE := hE.cast 5 rfl (show _ = Value.bool true from (congrArg Value.bool (by decide)))
  refine qa (K9 (ww1 fun _ K10=>wct hE rfl (wp_skip (K10 (ww1 fun _ K11=>wp_block (ww1 fun _ K12=>wpp ?_))))))
  refine sm hE rfl fun a hE=>sas hE rfl fun a hE=>qa (K12 (ww1 fun _ K13=>wpp (sm hE rfl fun a hE=>sf hE rfl fo62_2 fun a hE=>qp (j := 1) hE rfl rfl arr60 rfl (by decide) rfl fun a hE=>?_)))
  refine sf hE rfl fo59_0 fun a hE=>qm hE rfl (hM.get 0 rfl) rfl one4 (by intro X h;cases h) rfl fun a hE=>?_
  refine s_not hE rfl rfl fun a hE=>qa (K13 ?_)
  refine hE.split 12 rfl (fun hb12' hE=>?_) (fun hb12' hE=>?_)
  ·replace hb12' := not_true hb12'
   refine wct hE rfl (ww1 fun _ K14=>wpp (sm hE rfl fun a hE=>sas hE rfl fun a hE=>qa (K14 (wp_ret (qf (qb ?_))))))
   exact qb (qf (qb (qi hE rfl rfl ⟨(by simp [freeS,hb12,hb12']),hM.pick [] rfl⟩)))
  ·replace hb12' := not_false' hb12'
   refine wcf hE rfl (wp_skip (qe (K11 (wpp (sb hE rfl rfl (show Bin _ _ _ _ _ (.int .i64 2) from bin_add (by rw [wrap_i64 (by omega) (by omega)];omega)) fun a hE=>?_)))))
   refine sm hE rfl fun a hE=>qa ?_
   replace hM : Mem _ _ w1 [_] := hM.pick [0] rfl
   refine qd (c_rounds (ww1 fun _ K14=>wpp (sb hE rfl rfl bin_lss fun a hE=>?_)))
   replace hE := hE.cast 5 rfl (show _ = Value.bool true from (congrArg Value.bool (by decide)))
   refine qa (K14 (ww1 fun _ K15=>wct hE rfl (wp_skip (K15 (ww1 fun _ K16=>wp_block (ww1 fun _ K17=>wpp ?_))))))
   refine sm hE rfl fun a hE=>sas hE rfl fun a hE=>qa (K17 (ww1 fun _ K18=>wpp (sm hE rfl fun a hE=>sf hE rfl fo62_2 fun a hE=>qp (j := 2) hE rfl rfl arr60 rfl (by decide) rfl fun a hE=>?_)))
   refine sf hE rfl fo59_0 fun a hE=>qm hE rfl (hM.get 0 rfl) rfl one4 (by intro X h;cases h) rfl fun a hE=>?_
   refine s_not hE rfl rfl fun a hE=>qa (K18 ?_)
   refine hE.split 12 rfl (fun hb12'' hE=>?_) (fun hb12'' hE=>?_)
   ·replace hb12'' := not_true hb12''
    refine wct hE rfl (ww1 fun _ K19=>wpp (sm hE rfl fun a hE=>sas hE rfl fun a hE=>qa (K19 (wp_ret (qf (qb ?_))))))
    exact qb (qf (qb (qi hE rfl rfl ⟨(by simp [freeS,hb12,hb12',hb12'']),hM.pick [] rfl⟩)))
   ·replace hb12'' := not_false' hb12''
    refine wcf hE rfl (wp_skip (qe (K16 (wpp (sb hE rfl rfl (show Bin _ _ _ _ _ (.int .i64 3) from bin_add (by rw [wrap_i64 (by omega) (by omega)];omega)) fun a hE=>?_)))))
    refine sm hE rfl fun a hE=>qa ?_
    replace hM : Mem _ _ w1 [_] := hM.pick [0] rfl
    refine qd (c_rounds (ww1 fun _ K19=>wpp (sb hE rfl rfl bin_lss fun a hE=>?_)))
    replace hE := hE.cast 5 rfl (show _ = Value.bool true from (congrArg Value.bool (by decide)))
    refine qa (K19 (ww1 fun _ K20=>wct hE rfl (wp_skip (K20 (ww1 fun _ K21=>wp_block (ww1 fun _ K22=>wpp ?_))))))
    refine sm hE rfl fun a hE=>sas hE rfl fun a hE=>qa (K22 (ww1 fun _ K23=>wpp (sm hE rfl fun a hE=>sf hE rfl fo62_2 fun a hE=>qp (j := 3) hE rfl rfl arr60 rfl (by decide) rfl fun a hE=>?_)))
    refine sf hE rfl fo59_0 fun a hE=>qm hE rfl (hM.get 0 rfl) rfl one4 (by intro X h;cases h) rfl fun a hE=>?_
    refine s_not hE rfl rfl fun a hE=>qa (K23 ?_)
    refine hE.split 12 rfl (fun hb12''' hE=>?_) (fun hb12''' hE=>?_)
    ·replace hb12''' := not_true hb12'''
     refine wct hE rfl (ww1 fun _ K24=>wpp (sm hE rfl fun a hE=>sas hE rfl fun a hE=>qa (K24 (wp_ret (qf (qb ?_))))))
     exact qb (qf (qb (qi hE rfl rfl ⟨(by simp [freeS,hb12,hb12',hb12'',hb12''']),hM.pick [] rfl⟩)))
    ·replace hb12''' := not_false' hb12'''
     refine wcf hE rfl (wp_skip (qe (K21 (wpp (sb hE rfl rfl (show Bin _ _ _ _ _ (.int .i64 4) from bin_add (by rw [wrap_i64 (by omega) (by omega)];omega)) fun a hE=>?_)))))
     refine sm hE rfl fun a hE=>qa ?_
     replace hM : Mem _ _ w1 [_] := hM.pick [0] rfl
     refine qd (c_rounds (ww1 fun _ K24=>wpp (sb hE rfl rfl bin_lss fun a hE=>?_)))
     replace hE := hE.cast 5 rfl (show _ = Value.bool false from (congrArg Value.bool (by decide)))
     refine qa (K24 (ww1 fun _ K25=>wcf hE rfl (wp_exit (qc (qc (qg (K2 (ww1 fun _ K26=>?_))))))))
     exact wpp (sas hE rfl fun a hE=>qa (K26 (wp_ret (qi hE rfl rfl ⟨(by simp [freeS,hb12,hb12',hb12'',hb12''']),hM.pick [] rfl⟩))))
end Go.Proofs.YtniekapfoaiieaaDoor
