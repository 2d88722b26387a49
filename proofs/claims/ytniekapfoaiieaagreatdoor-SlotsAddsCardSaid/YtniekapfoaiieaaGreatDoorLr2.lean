/- Walks of functions of the given program that the claim reaches. -/
import Derived.Test.YtniekapfoaiieaaGreatDoorLq
set_option linter.unusedSimpArgs false
set_option linter.unusedVariables false
namespace Go.Proofs.YtniekapfoaiieaaGreatDoor
open Go Go.Kx

set_option maxRecDepth 20000 in
set_option maxHeartbeats 4000000 in
theorem radd_c (h : Hd) (x : List UInt8) (p : List UInt8) (b : List UInt8) (z : Int) (w : World) (hk_h : OkHd h) (hl_x : x.length = 32) (hl_b : b.length = 16) (hz : In64 z) : Calls Tryz.prog 7 #[.agg ([[.int .i64 h.m],[.int .i64 h.r],[.bool h.v0.1],[.int .u64 ((h.v0.2.1 : Nat) : Int)],bv h.v0.2.2.1,bv h.v0.2.2.2,[.bool h.v1.1],[.int .u64 ((h.v1.2.1 : Nat) : Int)],bv h.v1.2.2.1,bv h.v1.2.2.2,[.bool h.s0.1],[.int .i64 h.s0.2.1],bv h.s0.2.2.1,bv h.s0.2.2.2.1,bv h.s0.2.2.2.2,[.bool h.s1.1],[.int .i64 h.s1.2.1],bv h.s1.2.2.1,bv h.s1.2.2.2.1,bv h.s1.2.2.2.2,[.bool h.s2.1],[.int .i64 h.s2.2.1],bv h.s2.2.2.1,bv h.s2.2.2.2.1,bv h.s2.2.2.2.2,[.bool h.s3.1],[.int .i64 h.s3.2.1],bv h.s3.2.2.1,bv h.s3.2.2.2.1,bv h.s3.2.2.2.2] : List (List Value)).flatten.toArray,.agg (bv x).toArray,.string (str p),.agg (bv b).toArray,.int .i64 z] w fun e w' => e = .returned (.tuple #[.agg ([[.int .i64 (((addS h x p b z).1).m)],[.int .i64 (((addS h x p b z).1).r)],[.bool (((addS h x p b z).1).v0.1)],[.int .u64 ((((addS h x p b z).1).v0.2.1 : Nat) : Int)],bv (((addS h x p b z).1).v0.2.2.1),bv (((addS h x p b z).1).v0.2.2.2),[.bool (((addS h x p b z).1).v1.1)],[.int .u64 ((((addS h x p b z).1).v1.2.1 : Nat) : Int)],bv (((addS h x p b z).1).v1.2.2.1),bv (((addS h x p b z).1).v1.2.2.2),[.bool (((addS h x p b z).1).s0.1)],[.int .i64 (((addS h x p b z).1).s0.2.1)],bv (((addS h x p b z).1).s0.2.2.1),bv (((addS h x p b z).1).s0.2.2.2.1),bv (((addS h x p b z).1).s0.2.2.2.2),[.bool (((addS h x p b z).1).s1.1)],[.int .i64 (((addS h x p b z).1).s1.2.1)],bv (((addS h x p b z).1).s1.2.2.1),bv (((addS h x p b z).1).s1.2.2.2.1),bv (((addS h x p b z).1).s1.2.2.2.2),[.bool (((addS h x p b z).1).s2.1)],[.int .i64 (((addS h x p b z).1).s2.2.1)],bv (((addS h x p b z).1).s2.2.2.1),bv (((addS h x p b z).1).s2.2.2.2.1),bv (((addS h x p b z).1).s2.2.2.2.2),[.bool (((addS h x p b z).1).s3.1)],[.int .i64 (((addS h x p b z).1).s3.2.1)],bv (((addS h x p b z).1).s3.2.2.1),bv (((addS h x p b z).1).s3.2.2.2.1),bv (((addS h x p b z).1).s3.2.2.2.2)] : List (List Value)).flatten.toArray,.int .i64 ((addS h x p b z).2.1),.int .i64 (((addS h x p b z).2.2 : Nat) : Int)]) ∧ Mem w [] w' [] := by
 have hM := Mem.start0 w
 refine vf 78 Tryz.func7 rfl rfl rfl ?_
 intro a hE
 replace hE : Env a 78 [(0,_),(1,_),(2,_),(3,_),(4,_)] := hE
 refine ww1 fun _ K1=>wpp ?_
 have hbl5_4 : h.v0.2.2.1.length = 32 := hk_h.v0.2.1
 have hbl5_5 : h.v0.2.2.2.length = 32 := hk_h.v0.2.2
 have hbl5_8 : h.v1.2.2.1.length = 32 := hk_h.v1.2.1
 have hbl5_9 : h.v1.2.2.2.length = 32 := hk_h.v1.2.2
 have hbl5_12 : h.s0.2.2.1.length = 16 := hk_h.s0.2.1
 have hbl5_13 : h.s0.2.2.2.1.length = 32 := hk_h.s0.2.2.1
 have hbl5_14 : h.s0.2.2.2.2.length = 32 := hk_h.s0.2.2.2
 have hbl5_17 : h.s1.2.2.1.length = 16 := hk_h.s1.2.1
 have hbl5_18 : h.s1.2.2.2.1.length = 32 := hk_h.s1.2.2.1
 have hbl5_19 : h.s1.2.2.2.2.length = 32 := hk_h.s1.2.2.2
 have hbl5_22 : h.s2.2.2.1.length = 16 := hk_h.s2.2.1
 have hbl5_23 : h.s2.2.2.2.1.length = 32 := hk_h.s2.2.2.1
 have hbl5_24 : h.s2.2.2.2.2.length = 32 := hk_h.s2.2.2.2
 have hbl5_27 : h.s3.2.2.1.length = 16 := hk_h.s3.2.1
 have hbl5_28 : h.s3.2.2.2.1.length = 32 := hk_h.s3.2.2.1
 have hbl5_29 : h.s3.2.2.2.2.length = 32 := hk_h.s3.2.2.2
 refine s_box (ss := [[.int .i64 h.m],[.int .i64 h.r],[.bool h.v0.1],[.int .u64 ((h.v0.2.1 : Nat) : Int)],bv h.v0.2.2.1,bv h.v0.2.2.2,[.bool h.v1.1],[.int .u64 ((h.v1.2.1 : Nat) : Int)],bv h.v1.2.2.1,bv h.v1.2.2.2,[.bool h.s0.1],[.int .i64 h.s0.2.1],bv h.s0.2.2.1,bv h.s0.2.2.2.1,bv h.s0.2.2.2.2,[.bool h.s1.1],[.int .i64 h.s1.2.1],bv h.s1.2.2.1,bv h.s1.2.2.2.1,bv h.s1.2.2.2.2,[.bool h.s2.1],[.int .i64 h.s2.2.1],bv h.s2.2.2.1,bv h.s2.2.2.2.1,bv h.s2.2.2.2.2,[.bool h.s3.1],[.int .i64 h.s3.2.1],bv h.s3.2.2.1,bv h.s3.2.2.2.1,bv h.s3.2.2.2.2]) [1,1,1,1,32,32,1,1,32,32,1,1,16,32,32,1,1,16,32,32,1,1,16,32,32,1,1,16,32,32] hE hM rfl rfl (by simp only [List.map_cons,List.map_nil,vj,List.length_cons,List.length_nil,List.length_replicate,hbl5_4,hbl5_5,hbl5_8,hbl5_9,hbl5_12,hbl5_13,hbl5_14,hbl5_17,hbl5_18,hbl5_19,hbl5_22,hbl5_23,hbl5_24,hbl5_27,hbl5_28,hbl5_29]) rfl fun a b5 w1 hE hM=>?_
 refine s_box (ss := [bv x]) [32] hE hM rfl (by simp [Value.cells]) (by simp [*]) rfl fun a b6 w2 hE hM=>?_
 refine s_box (ss := [bv b]) [16] hE hM rfl (by simp [Value.cells]) (by simp [*]) rfl fun a b8 w3 hE hM=>?_
 refine qo [1,1,1,1,32,32,1,1,32,32,1,1,16,32,32,1,1,16,32,32,1,1,16,32,32,1,1,16,32,32] hE hM zeroL39 rfl rfl fun a b10 w4 hE hM=>sas hE rfl fun a hE=>sas hE rfl fun a hE=>qa (K1 (ww1 fun _ K2=>ww1 fun _ K3=>wpp (ql hE rfl (hM.get 3 rfl) row39 rfl (by intro X h;cases h) rfl fun a hE=>?_)))
 replace hE := hE.cast 18 rfl (show _ = Value.agg ([[.int .i64 h.m],[.int .i64 h.r],[.bool h.v0.1],[.int .u64 ((h.v0.2.1 : Nat) : Int)],bv h.v0.2.2.1,bv h.v0.2.2.2,[.bool h.v1.1],[.int .u64 ((h.v1.2.1 : Nat) : Int)],bv h.v1.2.2.1,bv h.v1.2.2.2,[.bool h.s0.1],[.int .i64 h.s0.2.1],bv h.s0.2.2.1,bv h.s0.2.2.2.1,bv h.s0.2.2.2.2,[.bool h.s1.1],[.int .i64 h.s1.2.1],bv h.s1.2.2.1,bv h.s1.2.2.2.1,bv h.s1.2.2.2.2,[.bool h.s2.1],[.int .i64 h.s2.2.1],bv h.s2.2.2.1,bv h.s2.2.2.2.1,bv h.s2.2.2.2.2,[.bool h.s3.1],[.int .i64 h.s3.2.1],bv h.s3.2.2.1,bv h.s3.2.2.2.1,bv h.s3.2.2.2.2] : List (List Value)).flatten.toArray from (by first | (simp only [List.flatten_cons,List.flatten_nil,List.append_nil,List.append_assoc];done) | rfl))
 refine qn hE rfl Tryz.call8 (rcheck_c h _ hk_h ) rfl ?_
 rintro e w5 ⟨rfl,hN⟩
 refine ⟨_,rfl,trivial,fun a hE=>?_⟩
 replace hM : Mem _ _ w5 [_,_,_,_] := hM.call0 hN trivial;clear hN
 refine sb hE rfl rfl bin_neq fun a hE=>sm hE rfl fun a hE=>?_
 refine hE.split 21 rfl (fun hb21 hE=>?_) (fun hb21 hE=>?_)
 ·replace hb21 := of_decide_eq_false (not_true hb21)
  replace hb21 : ¬ ((checkH h) = 0) := by omega
  have e1 : addS h x p b z = (zH,0,2) := add_arg (by simp [hb21])
  refine gt hE rfl fun a hE=>gt hE rfl fun a hE=>gt hE rfl fun a hE=>pkt hE rfl fun a hE=>sm hE rfl fun a hE=>gt hE rfl fun a hE=>gt hE rfl fun a hE=>pkt hE rfl fun a hE=>sm hE rfl fun a hE=>gt hE rfl fun a hE=>?_
  refine gt hE rfl fun a hE=>pkt hE rfl fun a hE=>qa (K3 (wct hE rfl (ww1 fun _ K4=>wpp (vg [] hE rfl zero39 (by kernel_rfl) fpl39 (by first | (simp [PartsOk,Value.cells];done) | (simp [PartsOk,Value.cells];omega)) rfl fun a hE=>?_))))
  replace hE := hE.cast 34 rfl (show _ = Value.agg ([[.int .i64 0],[.int .i64 0],[.bool false],[.int .u64 0],bv (List.replicate 32 (0 : UInt8)),bv (List.replicate 32 (0 : UInt8)),[.bool false],[.int .u64 0],bv (List.replicate 32 (0 : UInt8)),bv (List.replicate 32 (0 : UInt8)),[.bool false],[.int .i64 0],bv (List.replicate 16 (0 : UInt8)),bv (List.replicate 32 (0 : UInt8)),bv (List.replicate 32 (0 : UInt8)),[.bool false],[.int .i64 0],bv (List.replicate 16 (0 : UInt8)),bv (List.replicate 32 (0 : UInt8)),bv (List.replicate 32 (0 : UInt8)),[.bool false],[.int .i64 0],bv (List.replicate 16 (0 : UInt8)),bv (List.replicate 32 (0 : UInt8)),bv (List.replicate 32 (0 : UInt8)),[.bool false],[.int .i64 0],bv (List.replicate 16 (0 : UInt8)),bv (List.replicate 32 (0 : UInt8)),bv (List.replicate 32 (0 : UInt8))] : List (List Value)).flatten.toArray from (by first | rfl | simp [setAll] | (simp only [setAll,List.set_cons_zero,List.set_cons_succ,List.flatten_cons,List.flatten_nil,List.append_nil,List.append_assoc,List.replicate_succ,List.replicate_zero])))
  have hsl71_4 : (List.replicate 32 (0 : UInt8)).length = 32 := List.length_replicate
  have hsl71_5 : (List.replicate 32 (0 : UInt8)).length = 32 := List.length_replicate
  have hsl71_8 : (List.replicate 32 (0 : UInt8)).length = 32 := List.length_replicate
  have hsl71_9 : (List.replicate 32 (0 : UInt8)).length = 32 := List.length_replicate
  have hsl71_12 : (List.replicate 16 (0 : UInt8)).length = 16 := List.length_replicate
  have hsl71_13 : (List.replicate 32 (0 : UInt8)).length = 32 := List.length_replicate
  have hsl71_14 : (List.replicate 32 (0 : UInt8)).length = 32 := List.length_replicate
  have hsl71_17 : (List.replicate 16 (0 : UInt8)).length = 16 := List.length_replicate
  have hsl71_18 : (List.replicate 32 (0 : UInt8)).length = 32 := List.length_replicate
  have hsl71_19 : (List.replicate 32 (0 : UInt8)).length = 32 := List.length_replicate
  have hsl71_22 : (List.replicate 16 (0 : UInt8)).length = 16 := List.length_replicate
  have hsl71_23 : (List.replicate 32 (0 : UInt8)).length = 32 := List.length_replicate
  have hsl71_24 : (List.replicate 32 (0 : UInt8)).length = 32 := List.length_replicate
  have hsl71_27 : (List.replicate 16 (0 : UInt8)).length = 16 := List.length_replicate
  have hsl71_28 : (List.replicate 32 (0 : UInt8)).length = 32 := List.length_replicate
  have hsl71_29 : (List.replicate 32 (0 : UInt8)).length = 32 := List.length_replicate
  refine qq 0 30 (vss := [[.int .i64 0],[.int .i64 0],[.bool false],[.int .u64 0],bv (List.replicate 32 (0 : UInt8)),bv (List.replicate 32 (0 : UInt8)),[.bool false],[.int .u64 0],bv (List.replicate 32 (0 : UInt8)),bv (List.replicate 32 (0 : UInt8)),[.bool false],[.int .i64 0],bv (List.replicate 16 (0 : UInt8)),bv (List.replicate 32 (0 : UInt8)),bv (List.replicate 32 (0 : UInt8)),[.bool false],[.int .i64 0],bv (List.replicate 16 (0 : UInt8)),bv (List.replicate 32 (0 : UInt8)),bv (List.replicate 32 (0 : UInt8)),[.bool false],[.int .i64 0],bv (List.replicate 16 (0 : UInt8)),bv (List.replicate 32 (0 : UInt8)),bv (List.replicate 32 (0 : UInt8)),[.bool false],[.int .i64 0],bv (List.replicate 16 (0 : UInt8)),bv (List.replicate 32 (0 : UInt8)),bv (List.replicate 32 (0 : UInt8))]) hE rfl rfl hM rfl sz39 (by simp only [List.take_succ_cons,List.take_zero,List.drop_zero,List.drop_succ_cons];simp only [List.map_cons,List.map_nil,vj,List.length_cons,List.length_nil,List.length_replicate,hsl71_4,hsl71_5,hsl71_8,hsl71_9,hsl71_12,hsl71_13,hsl71_14,hsl71_17,hsl71_18,hsl71_19,hsl71_22,hsl71_23,hsl71_24,hsl71_27,hsl71_28,hsl71_29]) (by decide) rfl (one_fl ⟨one1 rfl,one1 rfl,one1 rfl,one1 rfl,ve _,ve _,one1 rfl,one1 rfl,ve _,ve _,one1 rfl,one1 rfl,ve _,ve _,ve _,one1 rfl,one1 rfl,ve _,ve _,ve _,one1 rfl,one1 rfl,ve _,ve _,ve _,one1 rfl,one1 rfl,ve _,ve _,ve _,trivial⟩) rfl (by intro X h;cases h) fun w6 hM=>?_
  try simp only [List.take_zero,List.take_succ_cons,List.drop_zero,List.drop_succ_cons,List.take_nil,List.drop_nil,List.nil_append,List.append_nil,List.cons_append] at hM
  exact sas hE rfl fun a hE=>sas hE rfl fun a hE=>qa (K4 (wp_ret (qb (qk hE rfl (res_cellN rfl (hM.get 0 rfl) row39 rfl) rfl rfl ⟨(by rw [e1];simp only [setS,newS,zH,zV,zS,slotT,List.flatten_cons,List.flatten_nil,List.append_nil,List.append_assoc,List.cons_append,List.nil_append];try rfl),hM.pick [] rfl⟩))))
 ·replace hb21 := of_decide_eq_true (not_false' hb21)
  replace hb21 : (checkH h) = 0 := by omega
  refine gy hE rfl (sm hE rfl fun a hE=>gy hE rfl (qn hE rfl Tryz.call16 (rpassb_c p _ ) rfl ?_))
  rintro e w6 ⟨rfl,hN⟩
  refine ⟨_,rfl,trivial,fun a hE=>?_⟩
  replace hM : Mem _ _ w6 [_,_,_,_] := hM.call0 hN trivial;clear hN
  refine gy hE rfl (s_not hE rfl rfl fun a hE=>pkf hE rfl fun a hE=>sm hE rfl fun a hE=>?_)
  refine hE.split 26 rfl (fun hb26 hE=>?_) (fun hb26 hE=>?_)
  ·replace hb26 := not_true hb26
   have e1 : addS h x p b z = (zH,0,2) := add_arg (by simp [hb26])
   refine gt hE rfl fun a hE=>gt hE rfl fun a hE=>pkt hE rfl fun a hE=>sm hE rfl fun a hE=>gt hE rfl fun a hE=>gt hE rfl fun a hE=>pkt hE rfl fun a hE=>qa (K3 (wct hE rfl ?_))
   refine ww1 fun _ K4=>wpp (vg [] hE rfl zero39 (by kernel_rfl) fpl39 (by first | (simp [PartsOk,Value.cells];done) | (simp [PartsOk,Value.cells];omega)) rfl fun a hE=>?_)
   replace hE := hE.cast 34 rfl (show _ = Value.agg ([[.int .i64 0],[.int .i64 0],[.bool false],[.int .u64 0],bv (List.replicate 32 (0 : UInt8)),bv (List.replicate 32 (0 : UInt8)),[.bool false],[.int .u64 0],bv (List.replicate 32 (0 : UInt8)),bv (List.replicate 32 (0 : UInt8)),[.bool false],[.int .i64 0],bv (List.replicate 16 (0 : UInt8)),bv (List.replicate 32 (0 : UInt8)),bv (List.replicate 32 (0 : UInt8)),[.bool false],[.int .i64 0],bv (List.replicate 16 (0 : UInt8)),bv (List.replicate 32 (0 : UInt8)),bv (List.replicate 32 (0 : UInt8)),[.bool false],[.int .i64 0],bv (List.replicate 16 (0 : UInt8)),bv (List.replicate 32 (0 : UInt8)),bv (List.replicate 32 (0 : UInt8)),[.bool false],[.int .i64 0],bv (List.replicate 16 (0 : UInt8)),bv (List.replicate 32 (0 : UInt8)),bv (List.replicate 32 (0 : UInt8))] : List (List Value)).flatten.toArray from (by first | rfl | simp [setAll] | (simp only [setAll,List.set_cons_zero,List.set_cons_succ,List.flatten_cons,List.flatten_nil,List.append_nil,List.append_assoc,List.replicate_succ,List.replicate_zero])))
   have hsl131_4 : (List.replicate 32 (0 : UInt8)).length = 32 := List.length_replicate
   have hsl131_5 : (List.replicate 32 (0 : UInt8)).length = 32 := List.length_replicate
   have hsl131_8 : (List.replicate 32 (0 : UInt8)).length = 32 := List.length_replicate
   have hsl131_9 : (List.replicate 32 (0 : UInt8)).length = 32 := List.length_replicate
   have hsl131_12 : (List.replicate 16 (0 : UInt8)).length = 16 := List.length_replicate
   have hsl131_13 : (List.replicate 32 (0 : UInt8)).length = 32 := List.length_replicate
   have hsl131_14 : (List.replicate 32 (0 : UInt8)).length = 32 := List.length_replicate
   have hsl131_17 : (List.replicate 16 (0 : UInt8)).length = 16 := List.length_replicate
   have hsl131_18 : (List.replicate 32 (0 : UInt8)).length = 32 := List.length_replicate
   have hsl131_19 : (List.replicate 32 (0 : UInt8)).length = 32 := List.length_replicate
   have hsl131_22 : (List.replicate 16 (0 : UInt8)).length = 16 := List.length_replicate
   have hsl131_23 : (List.replicate 32 (0 : UInt8)).length = 32 := List.length_replicate
   have hsl131_24 : (List.replicate 32 (0 : UInt8)).length = 32 := List.length_replicate
   have hsl131_27 : (List.replicate 16 (0 : UInt8)).length = 16 := List.length_replicate
   have hsl131_28 : (List.replicate 32 (0 : UInt8)).length = 32 := List.length_replicate
   have hsl131_29 : (List.replicate 32 (0 : UInt8)).length = 32 := List.length_replicate
   refine qq 0 30 (vss := [[.int .i64 0],[.int .i64 0],[.bool false],[.int .u64 0],bv (List.replicate 32 (0 : UInt8)),bv (List.replicate 32 (0 : UInt8)),[.bool false],[.int .u64 0],bv (List.replicate 32 (0 : UInt8)),bv (List.replicate 32 (0 : UInt8)),[.bool false],[.int .i64 0],bv (List.replicate 16 (0 : UInt8)),bv (List.replicate 32 (0 : UInt8)),bv (List.replicate 32 (0 : UInt8)),[.bool false],[.int .i64 0],bv (List.replicate 16 (0 : UInt8)),bv (List.replicate 32 (0 : UInt8)),bv (List.replicate 32 (0 : UInt8)),[.bool false],[.int .i64 0],bv (List.replicate 16 (0 : UInt8)),bv (List.replicate 32 (0 : UInt8)),bv (List.replicate 32 (0 : UInt8)),[.bool false],[.int .i64 0],bv (List.replicate 16 (0 : UInt8)),bv (List.replicate 32 (0 : UInt8)),bv (List.replicate 32 (0 : UInt8))]) hE rfl rfl hM rfl sz39 (by simp only [List.take_succ_cons,List.take_zero,List.drop_zero,List.drop_succ_cons];simp only [List.map_cons,List.map_nil,vj,List.length_cons,List.length_nil,List.length_replicate,hsl131_4,hsl131_5,hsl131_8,hsl131_9,hsl131_12,hsl131_13,hsl131_14,hsl131_17,hsl131_18,hsl131_19,hsl131_22,hsl131_23,hsl131_24,hsl131_27,hsl131_28,hsl131_29]) (by decide) rfl (one_fl ⟨one1 rfl,one1 rfl,one1 rfl,one1 rfl,ve _,ve _,one1 rfl,one1 rfl,ve _,ve _,one1 rfl,one1 rfl,ve _,ve _,ve _,one1 rfl,one1 rfl,ve _,ve _,ve _,one1 rfl,one1 rfl,ve _,ve _,ve _,one1 rfl,one1 rfl,ve _,ve _,ve _,trivial⟩) rfl (by intro X h;cases h) fun w7 hM=>?_
   try simp only [List.take_zero,List.take_succ_cons,List.drop_zero,List.drop_succ_cons,List.take_nil,List.drop_nil,List.nil_append,List.append_nil,List.cons_append] at hM
   exact sas hE rfl fun a hE=>sas hE rfl fun a hE=>qa (K4 (wp_ret (qb (qk hE rfl (res_cellN rfl (hM.get 0 rfl) row39 rfl) rfl rfl ⟨(by rw [e1];simp only [setS,newS,zH,zV,zS,slotT,List.flatten_cons,List.flatten_nil,List.append_nil,List.append_assoc,List.cons_append,List.nil_append];try rfl),hM.pick [] rfl⟩))))
  ·replace hb26 := not_false' hb26
   refine gy hE rfl (sm hE rfl fun a hE=>gy hE rfl (sb hE rfl rfl bin_lss fun a hE=>pkf hE rfl fun a hE=>sm hE rfl fun a hE=>?_))
   refine hE.split 30 rfl (fun hb30 hE=>?_) (fun hb30 hE=>?_)
   ·replace hb30 := of_decide_eq_true hb30
    have e1 : addS h x p b z = (zH,0,2) := add_arg (by simp [okr];omega)
    refine gt hE rfl fun a hE=>gt hE rfl fun a hE=>pkt hE rfl fun a hE=>qa (K3 (wct hE rfl (ww1 fun _ K4=>wpp (vg [] hE rfl zero39 (by kernel_rfl) fpl39 (by first | (simp [PartsOk,Value.cells];done) | (simp [PartsOk,Value.cells];omega)) rfl fun a hE=>?_))))
    replace hE := hE.cast 34 rfl (show _ = Value.agg ([[.int .i64 0],[.int .i64 0],[.bool false],[.int .u64 0],bv (List.replicate 32 (0 : UInt8)),bv (List.replicate 32 (0 : UInt8)),[.bool false],[.int .u64 0],bv (List.replicate 32 (0 : UInt8)),bv (List.replicate 32 (0 : UInt8)),[.bool false],[.int .i64 0],bv (List.replicate 16 (0 : UInt8)),bv (List.replicate 32 (0 : UInt8)),bv (List.replicate 32 (0 : UInt8)),[.bool false],[.int .i64 0],bv (List.replicate 16 (0 : UInt8)),bv (List.replicate 32 (0 : UInt8)),bv (List.replicate 32 (0 : UInt8)),[.bool false],[.int .i64 0],bv (List.replicate 16 (0 : UInt8)),bv (List.replicate 32 (0 : UInt8)),bv (List.replicate 32 (0 : UInt8)),[.bool false],[.int .i64 0],bv (List.replicate 16 (0 : UInt8)),bv (List.replicate 32 (0 : UInt8)),bv (List.replicate 32 (0 : UInt8))] : List (List Value)).flatten.toArray from (by first | rfl | simp [setAll] | (simp only [setAll,List.set_cons_zero,List.set_cons_succ,List.flatten_cons,List.flatten_nil,List.append_nil,List.append_assoc,List.replicate_succ,List.replicate_zero])))
    have hsl181_4 : (List.replicate 32 (0 : UInt8)).length = 32 := List.length_replicate
    have hsl181_5 : (List.replicate 32 (0 : UInt8)).length = 32 := List.length_replicate
    have hsl181_8 : (List.replicate 32 (0 : UInt8)).length = 32 := List.length_replicate
    have hsl181_9 : (List.replicate 32 (0 : UInt8)).length = 32 := List.length_replicate
    have hsl181_12 : (List.replicate 16 (0 : UInt8)).length = 16 := List.length_replicate
    have hsl181_13 : (List.replicate 32 (0 : UInt8)).length = 32 := List.length_replicate
    have hsl181_14 : (List.replicate 32 (0 : UInt8)).length = 32 := List.length_replicate
    have hsl181_17 : (List.replicate 16 (0 : UInt8)).length = 16 := List.length_replicate
    have hsl181_18 : (List.replicate 32 (0 : UInt8)).length = 32 := List.length_replicate
    have hsl181_19 : (List.replicate 32 (0 : UInt8)).length = 32 := List.length_replicate
    have hsl181_22 : (List.replicate 16 (0 : UInt8)).length = 16 := List.length_replicate
    have hsl181_23 : (List.replicate 32 (0 : UInt8)).length = 32 := List.length_replicate
    have hsl181_24 : (List.replicate 32 (0 : UInt8)).length = 32 := List.length_replicate
    have hsl181_27 : (List.replicate 16 (0 : UInt8)).length = 16 := List.length_replicate
    have hsl181_28 : (List.replicate 32 (0 : UInt8)).length = 32 := List.length_replicate
    have hsl181_29 : (List.replicate 32 (0 : UInt8)).length = 32 := List.length_replicate
    refine qq 0 30 (vss := [[.int .i64 0],[.int .i64 0],[.bool false],[.int .u64 0],bv (List.replicate 32 (0 : UInt8)),bv (List.replicate 32 (0 : UInt8)),[.bool false],[.int .u64 0],bv (List.replicate 32 (0 : UInt8)),bv (List.replicate 32 (0 : UInt8)),[.bool false],[.int .i64 0],bv (List.replicate 16 (0 : UInt8)),bv (List.replicate 32 (0 : UInt8)),bv (List.replicate 32 (0 : UInt8)),[.bool false],[.int .i64 0],bv (List.replicate 16 (0 : UInt8)),bv (List.replicate 32 (0 : UInt8)),bv (List.replicate 32 (0 : UInt8)),[.bool false],[.int .i64 0],bv (List.replicate 16 (0 : UInt8)),bv (List.replicate 32 (0 : UInt8)),bv (List.replicate 32 (0 : UInt8)),[.bool false],[.int .i64 0],bv (List.replicate 16 (0 : UInt8)),bv (List.replicate 32 (0 : UInt8)),bv (List.replicate 32 (0 : UInt8))]) hE rfl rfl hM rfl sz39 (by simp only [List.take_succ_cons,List.take_zero,List.drop_zero,List.drop_succ_cons];simp only [List.map_cons,List.map_nil,vj,List.length_cons,List.length_nil,List.length_replicate,hsl181_4,hsl181_5,hsl181_8,hsl181_9,hsl181_12,hsl181_13,hsl181_14,hsl181_17,hsl181_18,hsl181_19,hsl181_22,hsl181_23,hsl181_24,hsl181_27,hsl181_28,hsl181_29]) (by decide) rfl (one_fl ⟨one1 rfl,one1 rfl,one1 rfl,one1 rfl,ve _,ve _,one1 rfl,one1 rfl,ve _,ve _,one1 rfl,one1 rfl,ve _,ve _,ve _,one1 rfl,one1 rfl,ve _,ve _,ve _,one1 rfl,one1 rfl,ve _,ve _,ve _,one1 rfl,one1 rfl,ve _,ve _,ve _,trivial⟩) rfl (by intro X h;cases h) fun w7 hM=>?_
    try simp only [List.take_zero,List.take_succ_cons,List.drop_zero,List.drop_succ_cons,List.take_nil,List.drop_nil,List.nil_append,List.append_nil,List.cons_append] at hM
    exact sas hE rfl fun a hE=>sas hE rfl fun a hE=>qa (K4 (wp_ret (qb (qk hE rfl (res_cellN rfl (hM.get 0 rfl) row39 rfl) rfl rfl ⟨(by rw [e1];simp only [setS,newS,zH,zV,zS,slotT,List.flatten_cons,List.flatten_nil,List.append_nil,List.append_assoc,List.cons_append,List.nil_append];try rfl),hM.pick [] rfl⟩))))
   ·replace hb30 := of_decide_eq_false hb30
    refine gy hE rfl (sm hE rfl fun a hE=>gy hE rfl (sb hE rfl rfl bin_gtr fun a hE=>pkf hE rfl fun a hE=>qa (K3 ?_)))
    refine hE.split 33 rfl (fun hb33 hE=>?_) (fun hb33 hE=>?_)
    ·replace hb33 := of_decide_eq_true hb33
     have e1 : addS h x p b z = (zH,0,2) := add_arg (by simp [okr];omega)
     refine wct hE rfl (ww1 fun _ K4=>wpp (vg [] hE rfl zero39 (by kernel_rfl) fpl39 (by first | (simp [PartsOk,Value.cells];done) | (simp [PartsOk,Value.cells];omega)) rfl fun a hE=>?_))
     replace hE := hE.cast 34 rfl (show _ = Value.agg ([[.int .i64 0],[.int .i64 0],[.bool false],[.int .u64 0],bv (List.replicate 32 (0 : UInt8)),bv (List.replicate 32 (0 : UInt8)),[.bool false],[.int .u64 0],bv (List.replicate 32 (0 : UInt8)),bv (List.replicate 32 (0 : UInt8)),[.bool false],[.int .i64 0],bv (List.replicate 16 (0 : UInt8)),bv (List.replicate 32 (0 : UInt8)),bv (List.replicate 32 (0 : UInt8)),[.bool false],[.int .i64 0],bv (List.replicate 16 (0 : UInt8)),bv (List.replicate 32 (0 : UInt8)),bv (List.replicate 32 (0 : UInt8)),[.bool false],[.int .i64 0],bv (List.replicate 16 (0 : UInt8)),bv (List.replicate 32 (0 : UInt8)),bv (List.replicate 32 (0 : UInt8)),[.bool false],[.int .i64 0],bv (List.replicate 16 (0 : UInt8)),bv (List.replicate 32 (0 : UInt8)),bv (List.replicate 32 (0 : UInt8))] : List (List Value)).flatten.toArray from (by first | rfl | simp [setAll] | (simp only [setAll,List.set_cons_zero,List.set_cons_succ,List.flatten_cons,List.flatten_nil,List.append_nil,List.append_assoc,List.replicate_succ,List.replicate_zero])))
     have hsl227_4 : (List.replicate 32 (0 : UInt8)).length = 32 := List.length_replicate
     have hsl227_5 : (List.replicate 32 (0 : UInt8)).length = 32 := List.length_replicate
     have hsl227_8 : (List.replicate 32 (0 : UInt8)).length = 32 := List.length_replicate
     have hsl227_9 : (List.replicate 32 (0 : UInt8)).length = 32 := List.length_replicate
     have hsl227_12 : (List.replicate 16 (0 : UInt8)).length = 16 := List.length_replicate
     have hsl227_13 : (List.replicate 32 (0 : UInt8)).length = 32 := List.length_replicate
     have hsl227_14 : (List.replicate 32 (0 : UInt8)).length = 32 := List.length_replicate
     have hsl227_17 : (List.replicate 16 (0 : UInt8)).length = 16 := List.length_replicate
     have hsl227_18 : (List.replicate 32 (0 : UInt8)).length = 32 := List.length_replicate
     have hsl227_19 : (List.replicate 32 (0 : UInt8)).length = 32 := List.length_replicate
     have hsl227_22 : (List.replicate 16 (0 : UInt8)).length = 16 := List.length_replicate
     have hsl227_23 : (List.replicate 32 (0 : UInt8)).length = 32 := List.length_replicate
     have hsl227_24 : (List.replicate 32 (0 : UInt8)).length = 32 := List.length_replicate
     have hsl227_27 : (List.replicate 16 (0 : UInt8)).length = 16 := List.length_replicate
     have hsl227_28 : (List.replicate 32 (0 : UInt8)).length = 32 := List.length_replicate
     have hsl227_29 : (List.replicate 32 (0 : UInt8)).length = 32 := List.length_replicate
     refine qq 0 30 (vss := [[.int .i64 0],[.int .i64 0],[.bool false],[.int .u64 0],bv (List.replicate 32 (0 : UInt8)),bv (List.replicate 32 (0 : UInt8)),[.bool false],[.int .u64 0],bv (List.replicate 32 (0 : UInt8)),bv (List.replicate 32 (0 : UInt8)),[.bool false],[.int .i64 0],bv (List.replicate 16 (0 : UInt8)),bv (List.replicate 32 (0 : UInt8)),bv (List.replicate 32 (0 : UInt8)),[.bool false],[.int .i64 0],bv (List.replicate 16 (0 : UInt8)),bv (List.replicate 32 (0 : UInt8)),bv (List.replicate 32 (0 : UInt8)),[.bool false],[.int .i64 0],bv (List.replicate 16 (0 : UInt8)),bv (List.replicate 32 (0 : UInt8)),bv (List.replicate 32 (0 : UInt8)),[.bool false],[.int .i64 0],bv (List.replicate 16 (0 : UInt8)),bv (List.replicate 32 (0 : UInt8)),bv (List.replicate 32 (0 : UInt8))]) hE rfl rfl hM rfl sz39 (by simp only [List.take_succ_cons,List.take_zero,List.drop_zero,List.drop_succ_cons];simp only [List.map_cons,List.map_nil,vj,List.length_cons,List.length_nil,List.length_replicate,hsl227_4,hsl227_5,hsl227_8,hsl227_9,hsl227_12,hsl227_13,hsl227_14,hsl227_17,hsl227_18,hsl227_19,hsl227_22,hsl227_23,hsl227_24,hsl227_27,hsl227_28,hsl227_29]) (by decide) rfl (one_fl ⟨one1 rfl,one1 rfl,one1 rfl,one1 rfl,ve _,ve _,one1 rfl,one1 rfl,ve _,ve _,one1 rfl,one1 rfl,ve _,ve _,ve _,one1 rfl,one1 rfl,ve _,ve _,ve _,one1 rfl,one1 rfl,ve _,ve _,ve _,one1 rfl,one1 rfl,ve _,ve _,ve _,trivial⟩) rfl (by intro X h;cases h) fun w7 hM=>?_
     try simp only [List.take_zero,List.take_succ_cons,List.drop_zero,List.drop_succ_cons,List.take_nil,List.drop_nil,List.nil_append,List.append_nil,List.cons_append] at hM
     exact sas hE rfl fun a hE=>sas hE rfl fun a hE=>qa (K4 (wp_ret (qb (qk hE rfl (res_cellN rfl (hM.get 0 rfl) row39 rfl) rfl rfl ⟨(by rw [e1];simp only [setS,newS,zH,zV,zS,slotT,List.flatten_cons,List.flatten_nil,List.append_nil,List.append_assoc,List.cons_append,List.nil_append];try rfl),hM.pick [] rfl⟩))))
    ·replace hb33 := of_decide_eq_false hb33
     have hck : checkH h = 0 := by omega
     have hop : okp p = true := by simpa using hb26
     have hmay : mayS h p = true := by simp [mayS,hck,hop]
     have hor : okr z = true := by simp [okr];omega
     have hkz := kE_zero hop hor
     have hc0 := chk_slot hck 0 (by decide)
     have hc1 := chk_slot hck 1 (by decide)
     have hc2 := chk_slot hck 2 (by decide)
     have hc3 := chk_slot hck 3 (by decide)
     simp only [getS] at hc0 hc1 hc2 hc3
     refine wcf hE rfl (wp_skip (K2 (ww1 fun _ K4=>wpp (sas hE rfl fun a hE=>qa (K4 (ww1 fun _ K5=>ww1 fun _ K6=>?_))))))
     refine wpp (sas hE rfl fun a hE=>qa (K6 (wp_block (wp_loop_rounds 5 ?_))))
     refine c_roundsJ (fun a w' => hitS h p b 3 = false ∧ Env a 78 [(2,.string (str p)),(4,.int .i64 z),(5,.pointer (some ⟨b5,0,none⟩)),(6,.pointer (some ⟨b6,0,none⟩)),(8,.pointer (some ⟨b8,0,none⟩)),(10,.pointer (some ⟨b10,0,none⟩)),(11,.int .i64 0),(12,.int .i64 0),(13,.int .i64 (atI h 1)),(14,.int .i64 2),(33,.bool false)] ∧ Mem w [] w' [blk b10 [[.int .i64 0],[.int .i64 0],[.bool false],[.int .u64 0],bv (List.replicate 32 (0 : UInt8)),bv (List.replicate 32 (0 : UInt8)),[.bool false],[.int .u64 0],bv (List.replicate 32 (0 : UInt8)),bv (List.replicate 32 (0 : UInt8)),[.bool false],[.int .i64 0],bv (List.replicate 16 (0 : UInt8)),bv (List.replicate 32 (0 : UInt8)),bv (List.replicate 32 (0 : UInt8)),[.bool false],[.int .i64 0],bv (List.replicate 16 (0 : UInt8)),bv (List.replicate 32 (0 : UInt8)),bv (List.replicate 32 (0 : UInt8)),[.bool false],[.int .i64 0],bv (List.replicate 16 (0 : UInt8)),bv (List.replicate 32 (0 : UInt8)),bv (List.replicate 32 (0 : UInt8)),[.bool false],[.int .i64 0],bv (List.replicate 16 (0 : UInt8)),bv (List.replicate 32 (0 : UInt8)),bv (List.replicate 32 (0 : UInt8))] [1,1,1,1,32,32,1,1,32,32,1,1,16,32,32,1,1,16,32,32,1,1,16,32,32,1,1,16,32,32] 39,blk b8 [bv b] [16] 34,blk b6 [bv x] [32] 26,blk b5 [[.int .i64 h.m],[.int .i64 h.r],[.bool h.v0.1],[.int .u64 ((h.v0.2.1 : Nat) : Int)],bv h.v0.2.2.1,bv h.v0.2.2.2,[.bool h.v1.1],[.int .u64 ((h.v1.2.1 : Nat) : Int)],bv h.v1.2.2.1,bv h.v1.2.2.2,[.bool h.s0.1],[.int .i64 h.s0.2.1],bv h.s0.2.2.1,bv h.s0.2.2.2.1,bv h.s0.2.2.2.2,[.bool h.s1.1],[.int .i64 h.s1.2.1],bv h.s1.2.2.1,bv h.s1.2.2.2.1,bv h.s1.2.2.2.2,[.bool h.s2.1],[.int .i64 h.s2.2.1],bv h.s2.2.2.1,bv h.s2.2.2.2.1,bv h.s2.2.2.2.2,[.bool h.s3.1],[.int .i64 h.s3.2.1],bv h.s3.2.2.1,bv h.s3.2.2.2.1,bv h.s3.2.2.2.2] [1,1,1,1,32,32,1,1,32,32,1,1,16,32,32,1,1,16,32,32,1,1,16,32,32,1,1,16,32,32] 39]) ?_ ?_
     ·skip
      refine ww1 fun _ K7=>ww1 fun _ K8=>wpp (sm hE rfl fun a hE=>sb hE rfl rfl bin_geq fun a hE=>?_)
      replace hE := hE.cast 36 rfl (show _ = Value.bool true from (congrArg Value.bool (by decide)))
      refine qa (K8 (wct hE rfl (wp_skip (K7 (ww1 fun _ K9=>wp_block (ww1 fun _ K10=>wpp (sm hE rfl fun a hE=>?_)))))))
      refine sf hE rfl fo39_2 fun a hE=>qp (j := 3) hE rfl rfl arr37 rfl (by decide) rfl fun a hE=>?_
      refine ql hE rfl (hM.get 3 rfl) row36 rfl (by intro X h;cases h) rfl fun a hE=>?_
      replace hE := hE.cast 42 rfl (show _ = Value.agg ([[.bool h.s3.1],[.int .i64 h.s3.2.1],bv h.s3.2.2.1,bv h.s3.2.2.2.1,bv h.s3.2.2.2.2] : List (List Value)).flatten.toArray from (by first | (simp only [List.flatten_cons,List.flatten_nil,List.append_nil,List.append_assoc];done) | rfl))
      refine qo [1,1,16,32,32] hE hM zeroL36 rfl rfl fun a b15 w7 hE hM=>?_
      have hsl307_2 : h.s3.2.2.1.length = 16 := hk_h.s3.2.1
      have hsl307_3 : h.s3.2.2.2.1.length = 32 := hk_h.s3.2.2.1
      have hsl307_4 : h.s3.2.2.2.2.length = 32 := hk_h.s3.2.2.2
      refine qq 0 5 (vss := [[.bool h.s3.1],[.int .i64 h.s3.2.1],bv h.s3.2.2.1,bv h.s3.2.2.2.1,bv h.s3.2.2.2.2]) hE rfl rfl hM rfl sz36 (by simp only [List.take_succ_cons,List.take_zero,List.drop_zero,List.drop_succ_cons];simp only [List.map_cons,List.map_nil,vj,List.length_cons,List.length_nil,List.length_replicate,hsl307_2,hsl307_3,hsl307_4]) (by decide) rfl (one_fl ⟨one1 rfl,one1 rfl,ve _,ve _,ve _,trivial⟩) rfl (by intro X h;cases h) fun w8 hM=>?_
      try simp only [List.take_zero,List.take_succ_cons,List.drop_zero,List.drop_succ_cons,List.take_nil,List.drop_nil,List.nil_append,List.append_nil,List.cons_append] at hM
      refine qa (K10 (ww1 fun _ K11=>ww1 fun _ K12=>wpp (sf hE rfl fo36_0 fun a hE=>qm hE rfl (hM.get 0 rfl) rfl one4 (by intro X h;cases h) rfl fun a hE=>?_)))
      refine s_not hE rfl rfl fun a hE=>qa (K12 ?_)
      refine hE.split 45 rfl (fun hb45 hE=>?_) (fun hb45 hE=>?_)
      ·replace hb45 := not_true hb45
       refine wct hE rfl (ww1 fun _ K13=>wpp (sm hE rfl fun a hE=>sas hE rfl fun a hE=>qa (K13 (wp_exit (qc (qg ?_))))))
       refine K9 (wpp (sm hE rfl fun a hE=>sb hE rfl rfl (bin_sub (wrap_i64 (by omega) (by omega))) fun a hE=>?_))
       refine sas hE rfl fun a hE=>qa ?_
       replace hM : Mem _ _ w8 [_,_,_,_] := hM.pick [1,2,3,4] rfl
       replace hE := hE.cast 13 rfl (show _ = Value.int .i64 (atI h 1) from (by first | rfl | (simp [atI,getS,hb45];done)))
       replace hE := hE.cast 14 rfl (show _ = Value.int .i64 2 from (by first | rfl | (simp [atI,getS,hb45];done)))
       refine qd ⟨(by simp [hitS,getS,hb45]),hE.sel [2,4,5,6,8,10,11,12,13,14,33] rfl,hM⟩
      ·replace hb45 := not_false' hb45
       have hu3 : h.s3.1 = true := by simpa using hb45
       refine wcf hE rfl (wp_skip (K11 (ww1 fun _ K13=>wpp (ql hE rfl (hM.get 0 rfl) row36 rfl (by intro X h;cases h) rfl fun a hE=>?_))))
       replace hE := hE.cast 48 rfl (show _ = Value.agg ([[.bool h.s3.1],[.int .i64 h.s3.2.1],bv h.s3.2.2.1,bv h.s3.2.2.2.1,bv h.s3.2.2.2.2] : List (List Value)).flatten.toArray from (by first | (simp only [List.flatten_cons,List.flatten_nil,List.append_nil,List.append_assoc];done) | rfl))
       refine sm hE rfl fun a hE=>qn hE rfl Tryz.call17 (ropens_c h.s3 p _ hk_h.s3 (by first | omega | assumption | (simp;done) | (simp;omega) | decide) (by first | omega | assumption | (simp;done) | (simp;omega) | decide)) rfl ?_
       rintro e w9 ⟨rfl,hN⟩
       refine ⟨_,rfl,trivial,fun a hE=>?_⟩
       replace hM : Mem _ _ w9 [_,_,_,_,_] := hM.call0 hN trivial;clear hN
       refine sm hE rfl fun a hE=>sx hE rfl fun a hE=>sx hE rfl fun a hE=>qo [32] hE hM zero26 rfl rfl fun a b16 w10 hE hM=>qr 0 hE rfl rfl hM rfl sz26 ((vj _).trans (opK_len (p := p) hk_h.s3)) (ve _) rfl ((vj _).trans (by first | (simp;done) | (simp [*];done) | (simp;omega))) rfl (by intro X h;cases h) fun w11 hM=>?_
       simp only [List.set_cons_zero,List.set_cons_succ] at hM
       refine sas hE rfl fun a hE=>qa (K13 (ww1 fun _ K14=>wpp (sf hE rfl fo36_2 fun a hE=>ql hE rfl (hM.get 1 rfl) row34 rfl (by intro X h;cases h) rfl fun a hE=>?_)))
       refine ql hE rfl (hM.get 3 rfl) row34 rfl (by intro X h;cases h) rfl fun a hE=>?_
       refine s_bin hE rfl rfl (eqa34 hk_h.s3.2.1 hl_b).1 rfl fun a hE=>sm hE rfl fun a hE=>?_
       refine hE.split 57 rfl (fun hb57 hE=>?_) (fun hb57 hE=>?_)
       ·replace hb57 := of_decide_eq_true hb57
        have hth : thereS h p b = true := hit_there (k := 3) hmay (by decide) hu3 (.inl hb57)
        have e1 := add_there (x := x) hmay hkz hth
        refine gt hE rfl fun a hE=>pkt hE rfl fun a hE=>qa (K14 (wct hE rfl (ww1 fun _ K15=>wpp (vg [] hE rfl zero39 (by kernel_rfl) fpl39 (by first | (simp [PartsOk,Value.cells];done) | (simp [PartsOk,Value.cells];omega)) rfl fun a hE=>?_))))
        replace hE := hE.cast 60 rfl (show _ = Value.agg ([[.int .i64 0],[.int .i64 0],[.bool false],[.int .u64 0],bv (List.replicate 32 (0 : UInt8)),bv (List.replicate 32 (0 : UInt8)),[.bool false],[.int .u64 0],bv (List.replicate 32 (0 : UInt8)),bv (List.replicate 32 (0 : UInt8)),[.bool false],[.int .i64 0],bv (List.replicate 16 (0 : UInt8)),bv (List.replicate 32 (0 : UInt8)),bv (List.replicate 32 (0 : UInt8)),[.bool false],[.int .i64 0],bv (List.replicate 16 (0 : UInt8)),bv (List.replicate 32 (0 : UInt8)),bv (List.replicate 32 (0 : UInt8)),[.bool false],[.int .i64 0],bv (List.replicate 16 (0 : UInt8)),bv (List.replicate 32 (0 : UInt8)),bv (List.replicate 32 (0 : UInt8)),[.bool false],[.int .i64 0],bv (List.replicate 16 (0 : UInt8)),bv (List.replicate 32 (0 : UInt8)),bv (List.replicate 32 (0 : UInt8))] : List (List Value)).flatten.toArray from (by first | rfl | simp [setAll] | (simp only [setAll,List.set_cons_zero,List.set_cons_succ,List.flatten_cons,List.flatten_nil,List.append_nil,List.append_assoc,List.replicate_succ,List.replicate_zero])))
        have hsl397_4 : (List.replicate 32 (0 : UInt8)).length = 32 := List.length_replicate
        have hsl397_5 : (List.replicate 32 (0 : UInt8)).length = 32 := List.length_replicate
        have hsl397_8 : (List.replicate 32 (0 : UInt8)).length = 32 := List.length_replicate
        have hsl397_9 : (List.replicate 32 (0 : UInt8)).length = 32 := List.length_replicate
        have hsl397_12 : (List.replicate 16 (0 : UInt8)).length = 16 := List.length_replicate
        have hsl397_13 : (List.replicate 32 (0 : UInt8)).length = 32 := List.length_replicate
        have hsl397_14 : (List.replicate 32 (0 : UInt8)).length = 32 := List.length_replicate
        have hsl397_17 : (List.replicate 16 (0 : UInt8)).length = 16 := List.length_replicate
        have hsl397_18 : (List.replicate 32 (0 : UInt8)).length = 32 := List.length_replicate
        have hsl397_19 : (List.replicate 32 (0 : UInt8)).length = 32 := List.length_replicate
        have hsl397_22 : (List.replicate 16 (0 : UInt8)).length = 16 := List.length_replicate
        have hsl397_23 : (List.replicate 32 (0 : UInt8)).length = 32 := List.length_replicate
        have hsl397_24 : (List.replicate 32 (0 : UInt8)).length = 32 := List.length_replicate
        have hsl397_27 : (List.replicate 16 (0 : UInt8)).length = 16 := List.length_replicate
        have hsl397_28 : (List.replicate 32 (0 : UInt8)).length = 32 := List.length_replicate
        have hsl397_29 : (List.replicate 32 (0 : UInt8)).length = 32 := List.length_replicate
        replace hM : Mem _ _ w11 [_,_,_,_,_,_] := hM.pick [2,0,1,3,4,5] rfl
        refine qq 0 30 (vss := [[.int .i64 0],[.int .i64 0],[.bool false],[.int .u64 0],bv (List.replicate 32 (0 : UInt8)),bv (List.replicate 32 (0 : UInt8)),[.bool false],[.int .u64 0],bv (List.replicate 32 (0 : UInt8)),bv (List.replicate 32 (0 : UInt8)),[.bool false],[.int .i64 0],bv (List.replicate 16 (0 : UInt8)),bv (List.replicate 32 (0 : UInt8)),bv (List.replicate 32 (0 : UInt8)),[.bool false],[.int .i64 0],bv (List.replicate 16 (0 : UInt8)),bv (List.replicate 32 (0 : UInt8)),bv (List.replicate 32 (0 : UInt8)),[.bool false],[.int .i64 0],bv (List.replicate 16 (0 : UInt8)),bv (List.replicate 32 (0 : UInt8)),bv (List.replicate 32 (0 : UInt8)),[.bool false],[.int .i64 0],bv (List.replicate 16 (0 : UInt8)),bv (List.replicate 32 (0 : UInt8)),bv (List.replicate 32 (0 : UInt8))]) hE rfl rfl hM rfl sz39 (by simp only [List.take_succ_cons,List.take_zero,List.drop_zero,List.drop_succ_cons];simp only [List.map_cons,List.map_nil,vj,List.length_cons,List.length_nil,List.length_replicate,hsl397_4,hsl397_5,hsl397_8,hsl397_9,hsl397_12,hsl397_13,hsl397_14,hsl397_17,hsl397_18,hsl397_19,hsl397_22,hsl397_23,hsl397_24,hsl397_27,hsl397_28,hsl397_29]) (by decide) rfl (one_fl ⟨one1 rfl,one1 rfl,one1 rfl,one1 rfl,ve _,ve _,one1 rfl,one1 rfl,ve _,ve _,one1 rfl,one1 rfl,ve _,ve _,ve _,one1 rfl,one1 rfl,ve _,ve _,ve _,one1 rfl,one1 rfl,ve _,ve _,ve _,one1 rfl,one1 rfl,ve _,ve _,ve _,trivial⟩) rfl (by intro X h;cases h) fun w12 hM=>?_
        try simp only [List.take_zero,List.take_succ_cons,List.drop_zero,List.drop_succ_cons,List.take_nil,List.drop_nil,List.nil_append,List.append_nil,List.cons_append] at hM
        refine sas hE rfl fun a hE=>sas hE rfl fun a hE=>qa (K15 (wp_ret (qf (qb (qb (qf (qb ?_)))))))
        exact qk hE rfl (res_cellN rfl (hM.get 0 rfl) row39 rfl) rfl rfl ⟨(by rw [e1];simp only [setS,newS,zH,zV,zS,slotT,List.flatten_cons,List.flatten_nil,List.append_nil,List.append_assoc,List.cons_append,List.nil_append];try rfl),hM.pick [] rfl⟩
       ·replace hb57 := of_decide_eq_false hb57
        refine gy hE rfl (sm hE rfl fun a hE=>pkf hE rfl fun a hE=>qa (K14 ?_))
        refine hE.split 59 rfl (fun hb59 hE=>?_) (fun hb59 hE=>?_)
        ·have hth : thereS h p b = true := hit_there (k := 3) hmay (by decide) hu3 (.inr hb59)
         have e1 := add_there (x := x) hmay hkz hth
         refine wct hE rfl (ww1 fun _ K15=>wpp (vg [] hE rfl zero39 (by kernel_rfl) fpl39 (by first | (simp [PartsOk,Value.cells];done) | (simp [PartsOk,Value.cells];omega)) rfl fun a hE=>?_))
         replace hE := hE.cast 60 rfl (show _ = Value.agg ([[.int .i64 0],[.int .i64 0],[.bool false],[.int .u64 0],bv (List.replicate 32 (0 : UInt8)),bv (List.replicate 32 (0 : UInt8)),[.bool false],[.int .u64 0],bv (List.replicate 32 (0 : UInt8)),bv (List.replicate 32 (0 : UInt8)),[.bool false],[.int .i64 0],bv (List.replicate 16 (0 : UInt8)),bv (List.replicate 32 (0 : UInt8)),bv (List.replicate 32 (0 : UInt8)),[.bool false],[.int .i64 0],bv (List.replicate 16 (0 : UInt8)),bv (List.replicate 32 (0 : UInt8)),bv (List.replicate 32 (0 : UInt8)),[.bool false],[.int .i64 0],bv (List.replicate 16 (0 : UInt8)),bv (List.replicate 32 (0 : UInt8)),bv (List.replicate 32 (0 : UInt8)),[.bool false],[.int .i64 0],bv (List.replicate 16 (0 : UInt8)),bv (List.replicate 32 (0 : UInt8)),bv (List.replicate 32 (0 : UInt8))] : List (List Value)).flatten.toArray from (by first | rfl | simp [setAll] | (simp only [setAll,List.set_cons_zero,List.set_cons_succ,List.flatten_cons,List.flatten_nil,List.append_nil,List.append_assoc,List.replicate_succ,List.replicate_zero])))
         have hsl446_4 : (List.replicate 32 (0 : UInt8)).length = 32 := List.length_replicate
         have hsl446_5 : (List.replicate 32 (0 : UInt8)).length = 32 := List.length_replicate
         have hsl446_8 : (List.replicate 32 (0 : UInt8)).length = 32 := List.length_replicate
         have hsl446_9 : (List.replicate 32 (0 : UInt8)).length = 32 := List.length_replicate
         have hsl446_12 : (List.replicate 16 (0 : UInt8)).length = 16 := List.length_replicate
         have hsl446_13 : (List.replicate 32 (0 : UInt8)).length = 32 := List.length_replicate
         have hsl446_14 : (List.replicate 32 (0 : UInt8)).length = 32 := List.length_replicate
         have hsl446_17 : (List.replicate 16 (0 : UInt8)).length = 16 := List.length_replicate
         have hsl446_18 : (List.replicate 32 (0 : UInt8)).length = 32 := List.length_replicate
         have hsl446_19 : (List.replicate 32 (0 : UInt8)).length = 32 := List.length_replicate
         have hsl446_22 : (List.replicate 16 (0 : UInt8)).length = 16 := List.length_replicate
         have hsl446_23 : (List.replicate 32 (0 : UInt8)).length = 32 := List.length_replicate
         have hsl446_24 : (List.replicate 32 (0 : UInt8)).length = 32 := List.length_replicate
         have hsl446_27 : (List.replicate 16 (0 : UInt8)).length = 16 := List.length_replicate
         have hsl446_28 : (List.replicate 32 (0 : UInt8)).length = 32 := List.length_replicate
         have hsl446_29 : (List.replicate 32 (0 : UInt8)).length = 32 := List.length_replicate
         replace hM : Mem _ _ w11 [_,_,_,_,_,_] := hM.pick [2,0,1,3,4,5] rfl
         refine qq 0 30 (vss := [[.int .i64 0],[.int .i64 0],[.bool false],[.int .u64 0],bv (List.replicate 32 (0 : UInt8)),bv (List.replicate 32 (0 : UInt8)),[.bool false],[.int .u64 0],bv (List.replicate 32 (0 : UInt8)),bv (List.replicate 32 (0 : UInt8)),[.bool false],[.int .i64 0],bv (List.replicate 16 (0 : UInt8)),bv (List.replicate 32 (0 : UInt8)),bv (List.replicate 32 (0 : UInt8)),[.bool false],[.int .i64 0],bv (List.replicate 16 (0 : UInt8)),bv (List.replicate 32 (0 : UInt8)),bv (List.replicate 32 (0 : UInt8)),[.bool false],[.int .i64 0],bv (List.replicate 16 (0 : UInt8)),bv (List.replicate 32 (0 : UInt8)),bv (List.replicate 32 (0 : UInt8)),[.bool false],[.int .i64 0],bv (List.replicate 16 (0 : UInt8)),bv (List.replicate 32 (0 : UInt8)),bv (List.replicate 32 (0 : UInt8))]) hE rfl rfl hM rfl sz39 (by simp only [List.take_succ_cons,List.take_zero,List.drop_zero,List.drop_succ_cons];simp only [List.map_cons,List.map_nil,vj,List.length_cons,List.length_nil,List.length_replicate,hsl446_4,hsl446_5,hsl446_8,hsl446_9,hsl446_12,hsl446_13,hsl446_14,hsl446_17,hsl446_18,hsl446_19,hsl446_22,hsl446_23,hsl446_24,hsl446_27,hsl446_28,hsl446_29]) (by decide) rfl (one_fl ⟨one1 rfl,one1 rfl,one1 rfl,one1 rfl,ve _,ve _,one1 rfl,one1 rfl,ve _,ve _,one1 rfl,one1 rfl,ve _,ve _,ve _,one1 rfl,one1 rfl,ve _,ve _,ve _,one1 rfl,one1 rfl,ve _,ve _,ve _,one1 rfl,one1 rfl,ve _,ve _,ve _,trivial⟩) rfl (by intro X h;cases h) fun w12 hM=>?_
         try simp only [List.take_zero,List.take_succ_cons,List.drop_zero,List.drop_succ_cons,List.take_nil,List.drop_nil,List.nil_append,List.append_nil,List.cons_append] at hM
         refine sas hE rfl fun a hE=>sas hE rfl fun a hE=>qa (K15 (wp_ret (qf (qb (qb (qf (qb ?_)))))))
         exact qk hE rfl (res_cellN rfl (hM.get 0 rfl) row39 rfl) rfl rfl ⟨(by rw [e1];simp only [setS,newS,zH,zV,zS,slotT,List.flatten_cons,List.flatten_nil,List.append_nil,List.append_assoc,List.cons_append,List.nil_append];try rfl),hM.pick [] rfl⟩
        ·refine wcf hE rfl (wp_skip (qe (K9 (wpp (sm hE rfl fun a hE=>sb hE rfl rfl (bin_sub (wrap_i64 (by omega) (by omega))) fun a hE=>?_)))))
         refine sas hE rfl fun a hE=>qa ?_
         replace hM : Mem _ _ w11 [_,_,_,_] := hM.pick [2,3,4,5] rfl
         replace hE := hE.cast 13 rfl (show _ = Value.int .i64 (atI h 1) from (by first | rfl | (simp [atI,getS,hb45];done)))
         replace hE := hE.cast 14 rfl (show _ = Value.int .i64 2 from (by first | rfl | (simp [atI,getS,hb45];done)))
         refine qd ⟨(by simp [hitS,getS,hb57,hb59]),hE.sel [2,4,5,6,8,10,11,12,13,14,33] rfl,hM⟩
     rintro a w7 ⟨hJ5_0,hE,hM⟩
     refine c_roundsJ (fun a w' => hitS h p b 2 = false ∧ Env a 78 [(2,.string (str p)),(4,.int .i64 z),(5,.pointer (some ⟨b5,0,none⟩)),(6,.pointer (some ⟨b6,0,none⟩)),(8,.pointer (some ⟨b8,0,none⟩)),(10,.pointer (some ⟨b10,0,none⟩)),(11,.int .i64 0),(12,.int .i64 0),(13,.int .i64 (atI h 2)),(14,.int .i64 1),(33,.bool false)] ∧ Mem w [] w' [blk b10 [[.int .i64 0],[.int .i64 0],[.bool false],[.int .u64 0],bv (List.replicate 32 (0 : UInt8)),bv (List.replicate 32 (0 : UInt8)),[.bool false],[.int .u64 0],bv (List.replicate 32 (0 : UInt8)),bv (List.replicate 32 (0 : UInt8)),[.bool false],[.int .i64 0],bv (List.replicate 16 (0 : UInt8)),bv (List.replicate 32 (0 : UInt8)),bv (List.replicate 32 (0 : UInt8)),[.bool false],[.int .i64 0],bv (List.replicate 16 (0 : UInt8)),bv (List.replicate 32 (0 : UInt8)),bv (List.replicate 32 (0 : UInt8)),[.bool false],[.int .i64 0],bv (List.replicate 16 (0 : UInt8)),bv (List.replicate 32 (0 : UInt8)),bv (List.replicate 32 (0 : UInt8)),[.bool false],[.int .i64 0],bv (List.replicate 16 (0 : UInt8)),bv (List.replicate 32 (0 : UInt8)),bv (List.replicate 32 (0 : UInt8))] [1,1,1,1,32,32,1,1,32,32,1,1,16,32,32,1,1,16,32,32,1,1,16,32,32,1,1,16,32,32] 39,blk b8 [bv b] [16] 34,blk b6 [bv x] [32] 26,blk b5 [[.int .i64 h.m],[.int .i64 h.r],[.bool h.v0.1],[.int .u64 ((h.v0.2.1 : Nat) : Int)],bv h.v0.2.2.1,bv h.v0.2.2.2,[.bool h.v1.1],[.int .u64 ((h.v1.2.1 : Nat) : Int)],bv h.v1.2.2.1,bv h.v1.2.2.2,[.bool h.s0.1],[.int .i64 h.s0.2.1],bv h.s0.2.2.1,bv h.s0.2.2.2.1,bv h.s0.2.2.2.2,[.bool h.s1.1],[.int .i64 h.s1.2.1],bv h.s1.2.2.1,bv h.s1.2.2.2.1,bv h.s1.2.2.2.2,[.bool h.s2.1],[.int .i64 h.s2.2.1],bv h.s2.2.2.1,bv h.s2.2.2.2.1,bv h.s2.2.2.2.2,[.bool h.s3.1],[.int .i64 h.s3.2.1],bv h.s3.2.2.1,bv h.s3.2.2.2.1,bv h.s3.2.2.2.2] [1,1,1,1,32,32,1,1,32,32,1,1,16,32,32,1,1,16,32,32,1,1,16,32,32,1,1,16,32,32] 39]) ?_ ?_
     ·skip
      refine ww1 fun _ K7=>ww1 fun _ K8=>wpp (sm hE rfl fun a hE=>sb hE rfl rfl bin_geq fun a hE=>?_)
      replace hE := hE.cast 36 rfl (show _ = Value.bool true from (congrArg Value.bool (by decide)))
      refine qa (K8 (wct hE rfl (wp_skip (K7 (ww1 fun _ K9=>wp_block (ww1 fun _ K10=>wpp (sm hE rfl fun a hE=>?_)))))))
      refine sf hE rfl fo39_2 fun a hE=>qp (j := 2) hE rfl rfl arr37 rfl (by decide) rfl fun a hE=>?_
      refine ql hE rfl (hM.get 3 rfl) row36 rfl (by intro X h;cases h) rfl fun a hE=>?_
      replace hE := hE.cast 42 rfl (show _ = Value.agg ([[.bool h.s2.1],[.int .i64 h.s2.2.1],bv h.s2.2.2.1,bv h.s2.2.2.2.1,bv h.s2.2.2.2.2] : List (List Value)).flatten.toArray from (by first | (simp only [List.flatten_cons,List.flatten_nil,List.append_nil,List.append_assoc];done) | rfl))
      refine qo [1,1,16,32,32] hE hM zeroL36 rfl rfl fun a b15 w8 hE hM=>?_
      have hsl519_2 : h.s2.2.2.1.length = 16 := hk_h.s2.2.1
      have hsl519_3 : h.s2.2.2.2.1.length = 32 := hk_h.s2.2.2.1
      have hsl519_4 : h.s2.2.2.2.2.length = 32 := hk_h.s2.2.2.2
      refine qq 0 5 (vss := [[.bool h.s2.1],[.int .i64 h.s2.2.1],bv h.s2.2.2.1,bv h.s2.2.2.2.1,bv h.s2.2.2.2.2]) hE rfl rfl hM rfl sz36 (by simp only [List.take_succ_cons,List.take_zero,List.drop_zero,List.drop_succ_cons];simp only [List.map_cons,List.map_nil,vj,List.length_cons,List.length_nil,List.length_replicate,hsl519_2,hsl519_3,hsl519_4]) (by decide) rfl (one_fl ⟨one1 rfl,one1 rfl,ve _,ve _,ve _,trivial⟩) rfl (by intro X h;cases h) fun w9 hM=>?_
      try simp only [List.take_zero,List.take_succ_cons,List.drop_zero,List.drop_succ_cons,List.take_nil,List.drop_nil,List.nil_append,List.append_nil,List.cons_append] at hM
      refine qa (K10 (ww1 fun _ K11=>ww1 fun _ K12=>wpp (sf hE rfl fo36_0 fun a hE=>qm hE rfl (hM.get 0 rfl) rfl one4 (by intro X h;cases h) rfl fun a hE=>?_)))
      refine s_not hE rfl rfl fun a hE=>qa (K12 ?_)
      refine hE.split 45 rfl (fun hb45 hE=>?_) (fun hb45 hE=>?_)
      ·replace hb45 := not_true hb45
       refine wct hE rfl (ww1 fun _ K13=>wpp (sm hE rfl fun a hE=>sas hE rfl fun a hE=>qa (K13 (wp_exit (qc (qg ?_))))))
       refine K9 (wpp (sm hE rfl fun a hE=>sb hE rfl rfl (bin_sub (wrap_i64 (by omega) (by omega))) fun a hE=>?_))
       refine sas hE rfl fun a hE=>qa ?_
       replace hM : Mem _ _ w9 [_,_,_,_] := hM.pick [1,2,3,4] rfl
       replace hE := hE.cast 13 rfl (show _ = Value.int .i64 (atI h 2) from (by first | rfl | (simp [atI,getS,hb45];done)))
       replace hE := hE.cast 14 rfl (show _ = Value.int .i64 1 from (by first | rfl | (simp [atI,getS,hb45];done)))
       refine qd ⟨(by simp [hitS,getS,hb45]),hE.sel [2,4,5,6,8,10,11,12,13,14,33] rfl,hM⟩
      ·replace hb45 := not_false' hb45
       have hu2 : h.s2.1 = true := by simpa using hb45
       refine wcf hE rfl (wp_skip (K11 (ww1 fun _ K13=>wpp (ql hE rfl (hM.get 0 rfl) row36 rfl (by intro X h;cases h) rfl fun a hE=>?_))))
       replace hE := hE.cast 48 rfl (show _ = Value.agg ([[.bool h.s2.1],[.int .i64 h.s2.2.1],bv h.s2.2.2.1,bv h.s2.2.2.2.1,bv h.s2.2.2.2.2] : List (List Value)).flatten.toArray from (by first | (simp only [List.flatten_cons,List.flatten_nil,List.append_nil,List.append_assoc];done) | rfl))
       refine sm hE rfl fun a hE=>qn hE rfl Tryz.call17 (ropens_c h.s2 p _ hk_h.s2 (by first | omega | assumption | (simp;done) | (simp;omega) | decide) (by first | omega | assumption | (simp;done) | (simp;omega) | decide)) rfl ?_
       rintro e w10 ⟨rfl,hN⟩
       refine ⟨_,rfl,trivial,fun a hE=>?_⟩
       replace hM : Mem _ _ w10 [_,_,_,_,_] := hM.call0 hN trivial;clear hN
       refine sm hE rfl fun a hE=>sx hE rfl fun a hE=>sx hE rfl fun a hE=>qo [32] hE hM zero26 rfl rfl fun a b16 w11 hE hM=>qr 0 hE rfl rfl hM rfl sz26 ((vj _).trans (opK_len (p := p) hk_h.s2)) (ve _) rfl ((vj _).trans (by first | (simp;done) | (simp [*];done) | (simp;omega))) rfl (by intro X h;cases h) fun w12 hM=>?_
       simp only [List.set_cons_zero,List.set_cons_succ] at hM
       refine sas hE rfl fun a hE=>qa (K13 (ww1 fun _ K14=>wpp (sf hE rfl fo36_2 fun a hE=>ql hE rfl (hM.get 1 rfl) row34 rfl (by intro X h;cases h) rfl fun a hE=>?_)))
       refine ql hE rfl (hM.get 3 rfl) row34 rfl (by intro X h;cases h) rfl fun a hE=>?_
       refine s_bin hE rfl rfl (eqa34 hk_h.s2.2.1 hl_b).1 rfl fun a hE=>sm hE rfl fun a hE=>?_
       refine hE.split 57 rfl (fun hb57 hE=>?_) (fun hb57 hE=>?_)
       ·replace hb57 := of_decide_eq_true hb57
        have hth : thereS h p b = true := hit_there (k := 2) hmay (by decide) hu2 (.inl hb57)
        have e1 := add_there (x := x) hmay hkz hth
        refine gt hE rfl fun a hE=>pkt hE rfl fun a hE=>qa (K14 (wct hE rfl (ww1 fun _ K15=>wpp (vg [] hE rfl zero39 (by kernel_rfl) fpl39 (by first | (simp [PartsOk,Value.cells];done) | (simp [PartsOk,Value.cells];omega)) rfl fun a hE=>?_))))
        replace hE := hE.cast 60 rfl (show _ = Value.agg ([[.int .i64 0],[.int .i64 0],[.bool false],[.int .u64 0],bv (List.replicate 32 (0 : UInt8)),bv (List.replicate 32 (0 : UInt8)),[.bool false],[.int .u64 0],bv (List.replicate 32 (0 : UInt8)),bv (List.replicate 32 (0 : UInt8)),[.bool false],[.int .i64 0],bv (List.replicate 16 (0 : UInt8)),bv (List.replicate 32 (0 : UInt8)),bv (List.replicate 32 (0 : UInt8)),[.bool false],[.int .i64 0],bv (List.replicate 16 (0 : UInt8)),bv (List.replicate 32 (0 : UInt8)),bv (List.replicate 32 (0 : UInt8)),[.bool false],[.int .i64 0],bv (List.replicate 16 (0 : UInt8)),bv (List.replicate 32 (0 : UInt8)),bv (List.replicate 32 (0 : UInt8)),[.bool false],[.int .i64 0],bv (List.replicate 16 (0 : UInt8)),bv (List.replicate 32 (0 : UInt8)),bv (List.replicate 32 (0 : UInt8))] : List (List Value)).flatten.toArray from (by first | rfl | simp [setAll] | (simp only [setAll,List.set_cons_zero,List.set_cons_succ,List.flatten_cons,List.flatten_nil,List.append_nil,List.append_assoc,List.replicate_succ,List.replicate_zero])))
        have hsl609_4 : (List.replicate 32 (0 : UInt8)).length = 32 := List.length_replicate
        have hsl609_5 : (List.replicate 32 (0 : UInt8)).length = 32 := List.length_replicate
        have hsl609_8 : (List.replicate 32 (0 : UInt8)).length = 32 := List.length_replicate
        have hsl609_9 : (List.replicate 32 (0 : UInt8)).length = 32 := List.length_replicate
        have hsl609_12 : (List.replicate 16 (0 : UInt8)).length = 16 := List.length_replicate
        have hsl609_13 : (List.replicate 32 (0 : UInt8)).length = 32 := List.length_replicate
        have hsl609_14 : (List.replicate 32 (0 : UInt8)).length = 32 := List.length_replicate
        have hsl609_17 : (List.replicate 16 (0 : UInt8)).length = 16 := List.length_replicate
        have hsl609_18 : (List.replicate 32 (0 : UInt8)).length = 32 := List.length_replicate
        have hsl609_19 : (List.replicate 32 (0 : UInt8)).length = 32 := List.length_replicate
        have hsl609_22 : (List.replicate 16 (0 : UInt8)).length = 16 := List.length_replicate
        have hsl609_23 : (List.replicate 32 (0 : UInt8)).length = 32 := List.length_replicate
        have hsl609_24 : (List.replicate 32 (0 : UInt8)).length = 32 := List.length_replicate
        have hsl609_27 : (List.replicate 16 (0 : UInt8)).length = 16 := List.length_replicate
        have hsl609_28 : (List.replicate 32 (0 : UInt8)).length = 32 := List.length_replicate
        have hsl609_29 : (List.replicate 32 (0 : UInt8)).length = 32 := List.length_replicate
        replace hM : Mem _ _ w12 [_,_,_,_,_,_] := hM.pick [2,0,1,3,4,5] rfl
        refine qq 0 30 (vss := [[.int .i64 0],[.int .i64 0],[.bool false],[.int .u64 0],bv (List.replicate 32 (0 : UInt8)),bv (List.replicate 32 (0 : UInt8)),[.bool false],[.int .u64 0],bv (List.replicate 32 (0 : UInt8)),bv (List.replicate 32 (0 : UInt8)),[.bool false],[.int .i64 0],bv (List.replicate 16 (0 : UInt8)),bv (List.replicate 32 (0 : UInt8)),bv (List.replicate 32 (0 : UInt8)),[.bool false],[.int .i64 0],bv (List.replicate 16 (0 : UInt8)),bv (List.replicate 32 (0 : UInt8)),bv (List.replicate 32 (0 : UInt8)),[.bool false],[.int .i64 0],bv (List.replicate 16 (0 : UInt8)),bv (List.replicate 32 (0 : UInt8)),bv (List.replicate 32 (0 : UInt8)),[.bool false],[.int .i64 0],bv (List.replicate 16 (0 : UInt8)),bv (List.replicate 32 (0 : UInt8)),bv (List.replicate 32 (0 : UInt8))]) hE rfl rfl hM rfl sz39 (by simp only [List.take_succ_cons,List.take_zero,List.drop_zero,List.drop_succ_cons];simp only [List.map_cons,List.map_nil,vj,List.length_cons,List.length_nil,List.length_replicate,hsl609_4,hsl609_5,hsl609_8,hsl609_9,hsl609_12,hsl609_13,hsl609_14,hsl609_17,hsl609_18,hsl609_19,hsl609_22,hsl609_23,hsl609_24,hsl609_27,hsl609_28,hsl609_29]) (by decide) rfl (one_fl ⟨one1 rfl,one1 rfl,one1 rfl,one1 rfl,ve _,ve _,one1 rfl,one1 rfl,ve _,ve _,one1 rfl,one1 rfl,ve _,ve _,ve _,one1 rfl,one1 rfl,ve _,ve _,ve _,one1 rfl,one1 rfl,ve _,ve _,ve _,one1 rfl,one1 rfl,ve _,ve _,ve _,trivial⟩) rfl (by intro X h;cases h) fun w13 hM=>?_
        try simp only [List.take_zero,List.take_succ_cons,List.drop_zero,List.drop_succ_cons,List.take_nil,List.drop_nil,List.nil_append,List.append_nil,List.cons_append] at hM
        refine sas hE rfl fun a hE=>sas hE rfl fun a hE=>qa (K15 (wp_ret (qf (qb (qb (qf (qb ?_)))))))
        exact qk hE rfl (res_cellN rfl (hM.get 0 rfl) row39 rfl) rfl rfl ⟨(by rw [e1];simp only [setS,newS,zH,zV,zS,slotT,List.flatten_cons,List.flatten_nil,List.append_nil,List.append_assoc,List.cons_append,List.nil_append];try rfl),hM.pick [] rfl⟩
       ·replace hb57 := of_decide_eq_false hb57
        refine gy hE rfl (sm hE rfl fun a hE=>pkf hE rfl fun a hE=>qa (K14 ?_))
        refine hE.split 59 rfl (fun hb59 hE=>?_) (fun hb59 hE=>?_)
        ·have hth : thereS h p b = true := hit_there (k := 2) hmay (by decide) hu2 (.inr hb59)
         have e1 := add_there (x := x) hmay hkz hth
         refine wct hE rfl (ww1 fun _ K15=>wpp (vg [] hE rfl zero39 (by kernel_rfl) fpl39 (by first | (simp [PartsOk,Value.cells];done) | (simp [PartsOk,Value.cells];omega)) rfl fun a hE=>?_))
         replace hE := hE.cast 60 rfl (show _ = Value.agg ([[.int .i64 0],[.int .i64 0],[.bool false],[.int .u64 0],bv (List.replicate 32 (0 : UInt8)),bv (List.replicate 32 (0 : UInt8)),[.bool false],[.int .u64 0],bv (List.replicate 32 (0 : UInt8)),bv (List.replicate 32 (0 : UInt8)),[.bool false],[.int .i64 0],bv (List.replicate 16 (0 : UInt8)),bv (List.replicate 32 (0 : UInt8)),bv (List.replicate 32 (0 : UInt8)),[.bool false],[.int .i64 0],bv (List.replicate 16 (0 : UInt8)),bv (List.replicate 32 (0 : UInt8)),bv (List.replicate 32 (0 : UInt8)),[.bool false],[.int .i64 0],bv (List.replicate 16 (0 : UInt8)),bv (List.replicate 32 (0 : UInt8)),bv (List.replicate 32 (0 : UInt8)),[.bool false],[.int .i64 0],bv (List.replicate 16 (0 : UInt8)),bv (List.replicate 32 (0 : UInt8)),bv (List.replicate 32 (0 : UInt8))] : List (List Value)).flatten.toArray from (by first | rfl | simp [setAll] | (simp only [setAll,List.set_cons_zero,List.set_cons_succ,List.flatten_cons,List.flatten_nil,List.append_nil,List.append_assoc,List.replicate_succ,List.replicate_zero])))
         have hsl658_4 : (List.replicate 32 (0 : UInt8)).length = 32 := List.length_replicate
         have hsl658_5 : (List.replicate 32 (0 : UInt8)).length = 32 := List.length_replicate
         have hsl658_8 : (List.replicate 32 (0 : UInt8)).length = 32 := List.length_replicate
         have hsl658_9 : (List.replicate 32 (0 : UInt8)).length = 32 := List.length_replicate
         have hsl658_12 : (List.replicate 16 (0 : UInt8)).length = 16 := List.length_replicate
         have hsl658_13 : (List.replicate 32 (0 : UInt8)).length = 32 := List.length_replicate
         have hsl658_14 : (List.replicate 32 (0 : UInt8)).length = 32 := List.length_replicate
         have hsl658_17 : (List.replicate 16 (0 : UInt8)).length = 16 := List.length_replicate
         have hsl658_18 : (List.replicate 32 (0 : UInt8)).length = 32 := List.length_replicate
         have hsl658_19 : (List.replicate 32 (0 : UInt8)).length = 32 := List.length_replicate
         have hsl658_22 : (List.replicate 16 (0 : UInt8)).length = 16 := List.length_replicate
         have hsl658_23 : (List.replicate 32 (0 : UInt8)).length = 32 := List.length_replicate
         have hsl658_24 : (List.replicate 32 (0 : UInt8)).length = 32 := List.length_replicate
         have hsl658_27 : (List.replicate 16 (0 : UInt8)).length = 16 := List.length_replicate
         have hsl658_28 : (List.replicate 32 (0 : UInt8)).length = 32 := List.length_replicate
         have hsl658_29 : (List.replicate 32 (0 : UInt8)).length = 32 := List.length_replicate
         replace hM : Mem _ _ w12 [_,_,_,_,_,_] := hM.pick [2,0,1,3,4,5] rfl
         refine qq 0 30 (vss := [[.int .i64 0],[.int .i64 0],[.bool false],[.int .u64 0],bv (List.replicate 32 (0 : UInt8)),bv (List.replicate 32 (0 : UInt8)),[.bool false],[.int .u64 0],bv (List.replicate 32 (0 : UInt8)),bv (List.replicate 32 (0 : UInt8)),[.bool false],[.int .i64 0],bv (List.replicate 16 (0 : UInt8)),bv (List.replicate 32 (0 : UInt8)),bv (List.replicate 32 (0 : UInt8)),[.bool false],[.int .i64 0],bv (List.replicate 16 (0 : UInt8)),bv (List.replicate 32 (0 : UInt8)),bv (List.replicate 32 (0 : UInt8)),[.bool false],[.int .i64 0],bv (List.replicate 16 (0 : UInt8)),bv (List.replicate 32 (0 : UInt8)),bv (List.replicate 32 (0 : UInt8)),[.bool false],[.int .i64 0],bv (List.replicate 16 (0 : UInt8)),bv (List.replicate 32 (0 : UInt8)),bv (List.replicate 32 (0 : UInt8))]) hE rfl rfl hM rfl sz39 (by simp only [List.take_succ_cons,List.take_zero,List.drop_zero,List.drop_succ_cons];simp only [List.map_cons,List.map_nil,vj,List.length_cons,List.length_nil,List.length_replicate,hsl658_4,hsl658_5,hsl658_8,hsl658_9,hsl658_12,hsl658_13,hsl658_14,hsl658_17,hsl658_18,hsl658_19,hsl658_22,hsl658_23,hsl658_24,hsl658_27,hsl658_28,hsl658_29]) (by decide) rfl (one_fl ⟨one1 rfl,one1 rfl,one1 rfl,one1 rfl,ve _,ve _,one1 rfl,one1 rfl,ve _,ve _,one1 rfl,one1 rfl,ve _,ve _,ve _,one1 rfl,one1 rfl,ve _,ve _,ve _,one1 rfl,one1 rfl,ve _,ve _,ve _,one1 rfl,one1 rfl,ve _,ve _,ve _,trivial⟩) rfl (by intro X h;cases h) fun w13 hM=>?_
         try simp only [List.take_zero,List.take_succ_cons,List.drop_zero,List.drop_succ_cons,List.take_nil,List.drop_nil,List.nil_append,List.append_nil,List.cons_append] at hM
         refine sas hE rfl fun a hE=>sas hE rfl fun a hE=>qa (K15 (wp_ret (qf (qb (qb (qf (qb ?_)))))))
         exact qk hE rfl (res_cellN rfl (hM.get 0 rfl) row39 rfl) rfl rfl ⟨(by rw [e1];simp only [setS,newS,zH,zV,zS,slotT,List.flatten_cons,List.flatten_nil,List.append_nil,List.append_assoc,List.cons_append,List.nil_append];try rfl),hM.pick [] rfl⟩
        ·refine wcf hE rfl (wp_skip (qe (K9 (wpp (sm hE rfl fun a hE=>sb hE rfl rfl (bin_sub (wrap_i64 (by omega) (by omega))) fun a hE=>?_)))))
         refine sas hE rfl fun a hE=>qa ?_
         replace hM : Mem _ _ w12 [_,_,_,_] := hM.pick [2,3,4,5] rfl
         replace hE := hE.cast 13 rfl (show _ = Value.int .i64 (atI h 2) from (by first | rfl | (simp [atI,getS,hb45];done)))
         replace hE := hE.cast 14 rfl (show _ = Value.int .i64 1 from (by first | rfl | (simp [atI,getS,hb45];done)))
         refine qd ⟨(by simp [hitS,getS,hb57,hb59]),hE.sel [2,4,5,6,8,10,11,12,13,14,33] rfl,hM⟩
     rintro a w8 ⟨hJ5_1,hE,hM⟩
     refine c_roundsJ (fun a w' => hitS h p b 1 = false ∧ Env a 78 [(2,.string (str p)),(4,.int .i64 z),(5,.pointer (some ⟨b5,0,none⟩)),(6,.pointer (some ⟨b6,0,none⟩)),(8,.pointer (some ⟨b8,0,none⟩)),(10,.pointer (some ⟨b10,0,none⟩)),(11,.int .i64 0),(12,.int .i64 0),(13,.int .i64 (atI h 3)),(14,.int .i64 0),(33,.bool false)] ∧ Mem w [] w' [blk b10 [[.int .i64 0],[.int .i64 0],[.bool false],[.int .u64 0],bv (List.replicate 32 (0 : UInt8)),bv (List.replicate 32 (0 : UInt8)),[.bool false],[.int .u64 0],bv (List.replicate 32 (0 : UInt8)),bv (List.replicate 32 (0 : UInt8)),[.bool false],[.int .i64 0],bv (List.replicate 16 (0 : UInt8)),bv (List.replicate 32 (0 : UInt8)),bv (List.replicate 32 (0 : UInt8)),[.bool false],[.int .i64 0],bv (List.replicate 16 (0 : UInt8)),bv (List.replicate 32 (0 : UInt8)),bv (List.replicate 32 (0 : UInt8)),[.bool false],[.int .i64 0],bv (List.replicate 16 (0 : UInt8)),bv (List.replicate 32 (0 : UInt8)),bv (List.replicate 32 (0 : UInt8)),[.bool false],[.int .i64 0],bv (List.replicate 16 (0 : UInt8)),bv (List.replicate 32 (0 : UInt8)),bv (List.replicate 32 (0 : UInt8))] [1,1,1,1,32,32,1,1,32,32,1,1,16,32,32,1,1,16,32,32,1,1,16,32,32,1,1,16,32,32] 39,blk b8 [bv b] [16] 34,blk b6 [bv x] [32] 26,blk b5 [[.int .i64 h.m],[.int .i64 h.r],[.bool h.v0.1],[.int .u64 ((h.v0.2.1 : Nat) : Int)],bv h.v0.2.2.1,bv h.v0.2.2.2,[.bool h.v1.1],[.int .u64 ((h.v1.2.1 : Nat) : Int)],bv h.v1.2.2.1,bv h.v1.2.2.2,[.bool h.s0.1],[.int .i64 h.s0.2.1],bv h.s0.2.2.1,bv h.s0.2.2.2.1,bv h.s0.2.2.2.2,[.bool h.s1.1],[.int .i64 h.s1.2.1],bv h.s1.2.2.1,bv h.s1.2.2.2.1,bv h.s1.2.2.2.2,[.bool h.s2.1],[.int .i64 h.s2.2.1],bv h.s2.2.2.1,bv h.s2.2.2.2.1,bv h.s2.2.2.2.2,[.bool h.s3.1],[.int .i64 h.s3.2.1],bv h.s3.2.2.1,bv h.s3.2.2.2.1,bv h.s3.2.2.2.2] [1,1,1,1,32,32,1,1,32,32,1,1,16,32,32,1,1,16,32,32,1,1,16,32,32,1,1,16,32,32] 39]) ?_ ?_
     ·skip
      refine ww1 fun _ K7=>ww1 fun _ K8=>wpp (sm hE rfl fun a hE=>sb hE rfl rfl bin_geq fun a hE=>?_)
      replace hE := hE.cast 36 rfl (show _ = Value.bool true from (congrArg Value.bool (by decide)))
      refine qa (K8 (wct hE rfl (wp_skip (K7 (ww1 fun _ K9=>wp_block (ww1 fun _ K10=>wpp (sm hE rfl fun a hE=>?_)))))))
      refine sf hE rfl fo39_2 fun a hE=>qp (j := 1) hE rfl rfl arr37 rfl (by decide) rfl fun a hE=>?_
      refine ql hE rfl (hM.get 3 rfl) row36 rfl (by intro X h;cases h) rfl fun a hE=>?_
      replace hE := hE.cast 42 rfl (show _ = Value.agg ([[.bool h.s1.1],[.int .i64 h.s1.2.1],bv h.s1.2.2.1,bv h.s1.2.2.2.1,bv h.s1.2.2.2.2] : List (List Value)).flatten.toArray from (by first | (simp only [List.flatten_cons,List.flatten_nil,List.append_nil,List.append_assoc];done) | rfl))
      refine qo [1,1,16,32,32] hE hM zeroL36 rfl rfl fun a b15 w9 hE hM=>?_
      have hsl731_2 : h.s1.2.2.1.length = 16 := hk_h.s1.2.1
      have hsl731_3 : h.s1.2.2.2.1.length = 32 := hk_h.s1.2.2.1
      have hsl731_4 : h.s1.2.2.2.2.length = 32 := hk_h.s1.2.2.2
      refine qq 0 5 (vss := [[.bool h.s1.1],[.int .i64 h.s1.2.1],bv h.s1.2.2.1,bv h.s1.2.2.2.1,bv h.s1.2.2.2.2]) hE rfl rfl hM rfl sz36 (by simp only [List.take_succ_cons,List.take_zero,List.drop_zero,List.drop_succ_cons];simp only [List.map_cons,List.map_nil,vj,List.length_cons,List.length_nil,List.length_replicate,hsl731_2,hsl731_3,hsl731_4]) (by decide) rfl (one_fl ⟨one1 rfl,one1 rfl,ve _,ve _,ve _,trivial⟩) rfl (by intro X h;cases h) fun w10 hM=>?_
      try simp only [List.take_zero,List.take_succ_cons,List.drop_zero,List.drop_succ_cons,List.take_nil,List.drop_nil,List.nil_append,List.append_nil,List.cons_append] at hM
      refine qa (K10 (ww1 fun _ K11=>ww1 fun _ K12=>wpp (sf hE rfl fo36_0 fun a hE=>qm hE rfl (hM.get 0 rfl) rfl one4 (by intro X h;cases h) rfl fun a hE=>?_)))
      refine s_not hE rfl rfl fun a hE=>qa (K12 ?_)
      refine hE.split 45 rfl (fun hb45 hE=>?_) (fun hb45 hE=>?_)
      ·replace hb45 := not_true hb45
       refine wct hE rfl (ww1 fun _ K13=>wpp (sm hE rfl fun a hE=>sas hE rfl fun a hE=>qa (K13 (wp_exit (qc (qg ?_))))))
       refine K9 (wpp (sm hE rfl fun a hE=>sb hE rfl rfl (bin_sub (wrap_i64 (by omega) (by omega))) fun a hE=>?_))
       refine sas hE rfl fun a hE=>qa ?_
       replace hM : Mem _ _ w10 [_,_,_,_] := hM.pick [1,2,3,4] rfl
       replace hE := hE.cast 13 rfl (show _ = Value.int .i64 (atI h 3) from (by first | rfl | (simp [atI,getS,hb45];done)))
       replace hE := hE.cast 14 rfl (show _ = Value.int .i64 0 from (by first | rfl | (simp [atI,getS,hb45];done)))
       refine qd ⟨(by simp [hitS,getS,hb45]),hE.sel [2,4,5,6,8,10,11,12,13,14,33] rfl,hM⟩
      ·replace hb45 := not_false' hb45
       have hu1 : h.s1.1 = true := by simpa using hb45
       refine wcf hE rfl (wp_skip (K11 (ww1 fun _ K13=>wpp (ql hE rfl (hM.get 0 rfl) row36 rfl (by intro X h;cases h) rfl fun a hE=>?_))))
       replace hE := hE.cast 48 rfl (show _ = Value.agg ([[.bool h.s1.1],[.int .i64 h.s1.2.1],bv h.s1.2.2.1,bv h.s1.2.2.2.1,bv h.s1.2.2.2.2] : List (List Value)).flatten.toArray from (by first | (simp only [List.flatten_cons,List.flatten_nil,List.append_nil,List.append_assoc];done) | rfl))
       refine sm hE rfl fun a hE=>qn hE rfl Tryz.call17 (ropens_c h.s1 p _ hk_h.s1 (by first | omega | assumption | (simp;done) | (simp;omega) | decide) (by first | omega | assumption | (simp;done) | (simp;omega) | decide)) rfl ?_
       rintro e w11 ⟨rfl,hN⟩
       refine ⟨_,rfl,trivial,fun a hE=>?_⟩
       replace hM : Mem _ _ w11 [_,_,_,_,_] := hM.call0 hN trivial;clear hN
       refine sm hE rfl fun a hE=>sx hE rfl fun a hE=>sx hE rfl fun a hE=>qo [32] hE hM zero26 rfl rfl fun a b16 w12 hE hM=>qr 0 hE rfl rfl hM rfl sz26 ((vj _).trans (opK_len (p := p) hk_h.s1)) (ve _) rfl ((vj _).trans (by first | (simp;done) | (simp [*];done) | (simp;omega))) rfl (by intro X h;cases h) fun w13 hM=>?_
       simp only [List.set_cons_zero,List.set_cons_succ] at hM
       refine sas hE rfl fun a hE=>qa (K13 (ww1 fun _ K14=>wpp (sf hE rfl fo36_2 fun a hE=>ql hE rfl (hM.get 1 rfl) row34 rfl (by intro X h;cases h) rfl fun a hE=>?_)))
       refine ql hE rfl (hM.get 3 rfl) row34 rfl (by intro X h;cases h) rfl fun a hE=>?_
       refine s_bin hE rfl rfl (eqa34 hk_h.s1.2.1 hl_b).1 rfl fun a hE=>sm hE rfl fun a hE=>?_
       refine hE.split 57 rfl (fun hb57 hE=>?_) (fun hb57 hE=>?_)
       ·replace hb57 := of_decide_eq_true hb57
        have hth : thereS h p b = true := hit_there (k := 1) hmay (by decide) hu1 (.inl hb57)
        have e1 := add_there (x := x) hmay hkz hth
        refine gt hE rfl fun a hE=>pkt hE rfl fun a hE=>qa (K14 (wct hE rfl (ww1 fun _ K15=>wpp (vg [] hE rfl zero39 (by kernel_rfl) fpl39 (by first | (simp [PartsOk,Value.cells];done) | (simp [PartsOk,Value.cells];omega)) rfl fun a hE=>?_))))
        replace hE := hE.cast 60 rfl (show _ = Value.agg ([[.int .i64 0],[.int .i64 0],[.bool false],[.int .u64 0],bv (List.replicate 32 (0 : UInt8)),bv (List.replicate 32 (0 : UInt8)),[.bool false],[.int .u64 0],bv (List.replicate 32 (0 : UInt8)),bv (List.replicate 32 (0 : UInt8)),[.bool false],[.int .i64 0],bv (List.replicate 16 (0 : UInt8)),bv (List.replicate 32 (0 : UInt8)),bv (List.replicate 32 (0 : UInt8)),[.bool false],[.int .i64 0],bv (List.replicate 16 (0 : UInt8)),bv (List.replicate 32 (0 : UInt8)),bv (List.replicate 32 (0 : UInt8)),[.bool false],[.int .i64 0],bv (List.replicate 16 (0 : UInt8)),bv (List.replicate 32 (0 : UInt8)),bv (List.replicate 32 (0 : UInt8)),[.bool false],[.int .i64 0],bv (List.replicate 16 (0 : UInt8)),bv (List.replicate 32 (0 : UInt8)),bv (List.replicate 32 (0 : UInt8))] : List (List Value)).flatten.toArray from (by first | rfl | simp [setAll] | (simp only [setAll,List.set_cons_zero,List.set_cons_succ,List.flatten_cons,List.flatten_nil,List.append_nil,List.append_assoc,List.replicate_succ,List.replicate_zero])))
        have hsl821_4 : (List.replicate 32 (0 : UInt8)).length = 32 := List.length_replicate
        have hsl821_5 : (List.replicate 32 (0 : UInt8)).length = 32 := List.length_replicate
        have hsl821_8 : (List.replicate 32 (0 : UInt8)).length = 32 := List.length_replicate
        have hsl821_9 : (List.replicate 32 (0 : UInt8)).length = 32 := List.length_replicate
        have hsl821_12 : (List.replicate 16 (0 : UInt8)).length = 16 := List.length_replicate
        have hsl821_13 : (List.replicate 32 (0 : UInt8)).length = 32 := List.length_replicate
        have hsl821_14 : (List.replicate 32 (0 : UInt8)).length = 32 := List.length_replicate
        have hsl821_17 : (List.replicate 16 (0 : UInt8)).length = 16 := List.length_replicate
        have hsl821_18 : (List.replicate 32 (0 : UInt8)).length = 32 := List.length_replicate
        have hsl821_19 : (List.replicate 32 (0 : UInt8)).length = 32 := List.length_replicate
        have hsl821_22 : (List.replicate 16 (0 : UInt8)).length = 16 := List.length_replicate
        have hsl821_23 : (List.replicate 32 (0 : UInt8)).length = 32 := List.length_replicate
        have hsl821_24 : (List.replicate 32 (0 : UInt8)).length = 32 := List.length_replicate
        have hsl821_27 : (List.replicate 16 (0 : UInt8)).length = 16 := List.length_replicate
        have hsl821_28 : (List.replicate 32 (0 : UInt8)).length = 32 := List.length_replicate
        have hsl821_29 : (List.replicate 32 (0 : UInt8)).length = 32 := List.length_replicate
        replace hM : Mem _ _ w13 [_,_,_,_,_,_] := hM.pick [2,0,1,3,4,5] rfl
        refine qq 0 30 (vss := [[.int .i64 0],[.int .i64 0],[.bool false],[.int .u64 0],bv (List.replicate 32 (0 : UInt8)),bv (List.replicate 32 (0 : UInt8)),[.bool false],[.int .u64 0],bv (List.replicate 32 (0 : UInt8)),bv (List.replicate 32 (0 : UInt8)),[.bool false],[.int .i64 0],bv (List.replicate 16 (0 : UInt8)),bv (List.replicate 32 (0 : UInt8)),bv (List.replicate 32 (0 : UInt8)),[.bool false],[.int .i64 0],bv (List.replicate 16 (0 : UInt8)),bv (List.replicate 32 (0 : UInt8)),bv (List.replicate 32 (0 : UInt8)),[.bool false],[.int .i64 0],bv (List.replicate 16 (0 : UInt8)),bv (List.replicate 32 (0 : UInt8)),bv (List.replicate 32 (0 : UInt8)),[.bool false],[.int .i64 0],bv (List.replicate 16 (0 : UInt8)),bv (List.replicate 32 (0 : UInt8)),bv (List.replicate 32 (0 : UInt8))]) hE rfl rfl hM rfl sz39 (by simp only [List.take_succ_cons,List.take_zero,List.drop_zero,List.drop_succ_cons];simp only [List.map_cons,List.map_nil,vj,List.length_cons,List.length_nil,List.length_replicate,hsl821_4,hsl821_5,hsl821_8,hsl821_9,hsl821_12,hsl821_13,hsl821_14,hsl821_17,hsl821_18,hsl821_19,hsl821_22,hsl821_23,hsl821_24,hsl821_27,hsl821_28,hsl821_29]) (by decide) rfl (one_fl ⟨one1 rfl,one1 rfl,one1 rfl,one1 rfl,ve _,ve _,one1 rfl,one1 rfl,ve _,ve _,one1 rfl,one1 rfl,ve _,ve _,ve _,one1 rfl,one1 rfl,ve _,ve _,ve _,one1 rfl,one1 rfl,ve _,ve _,ve _,one1 rfl,one1 rfl,ve _,ve _,ve _,trivial⟩) rfl (by intro X h;cases h) fun w14 hM=>?_
        try simp only [List.take_zero,List.take_succ_cons,List.drop_zero,List.drop_succ_cons,List.take_nil,List.drop_nil,List.nil_append,List.append_nil,List.cons_append] at hM
        refine sas hE rfl fun a hE=>sas hE rfl fun a hE=>qa (K15 (wp_ret (qf (qb (qb (qf (qb ?_)))))))
        exact qk hE rfl (res_cellN rfl (hM.get 0 rfl) row39 rfl) rfl rfl ⟨(by rw [e1];simp only [setS,newS,zH,zV,zS,slotT,List.flatten_cons,List.flatten_nil,List.append_nil,List.append_assoc,List.cons_append,List.nil_append];try rfl),hM.pick [] rfl⟩
       ·replace hb57 := of_decide_eq_false hb57
        refine gy hE rfl (sm hE rfl fun a hE=>pkf hE rfl fun a hE=>qa (K14 ?_))
        refine hE.split 59 rfl (fun hb59 hE=>?_) (fun hb59 hE=>?_)
        ·have hth : thereS h p b = true := hit_there (k := 1) hmay (by decide) hu1 (.inr hb59)
         have e1 := add_there (x := x) hmay hkz hth
         refine wct hE rfl (ww1 fun _ K15=>wpp (vg [] hE rfl zero39 (by kernel_rfl) fpl39 (by first | (simp [PartsOk,Value.cells];done) | (simp [PartsOk,Value.cells];omega)) rfl fun a hE=>?_))
         replace hE := hE.cast 60 rfl (show _ = Value.agg ([[.int .i64 0],[.int .i64 0],[.bool false],[.int .u64 0],bv (List.replicate 32 (0 : UInt8)),bv (List.replicate 32 (0 : UInt8)),[.bool false],[.int .u64 0],bv (List.replicate 32 (0 : UInt8)),bv (List.replicate 32 (0 : UInt8)),[.bool false],[.int .i64 0],bv (List.replicate 16 (0 : UInt8)),bv (List.replicate 32 (0 : UInt8)),bv (List.replicate 32 (0 : UInt8)),[.bool false],[.int .i64 0],bv (List.replicate 16 (0 : UInt8)),bv (List.replicate 32 (0 : UInt8)),bv (List.replicate 32 (0 : UInt8)),[.bool false],[.int .i64 0],bv (List.replicate 16 (0 : UInt8)),bv (List.replicate 32 (0 : UInt8)),bv (List.replicate 32 (0 : UInt8)),[.bool false],[.int .i64 0],bv (List.replicate 16 (0 : UInt8)),bv (List.replicate 32 (0 : UInt8)),bv (List.replicate 32 (0 : UInt8))] : List (List Value)).flatten.toArray from (by first | rfl | simp [setAll] | (simp only [setAll,List.set_cons_zero,List.set_cons_succ,List.flatten_cons,List.flatten_nil,List.append_nil,List.append_assoc,List.replicate_succ,List.replicate_zero])))
         have hsl870_4 : (List.replicate 32 (0 : UInt8)).length = 32 := List.length_replicate
         have hsl870_5 : (List.replicate 32 (0 : UInt8)).length = 32 := List.length_replicate
         have hsl870_8 : (List.replicate 32 (0 : UInt8)).length = 32 := List.length_replicate
         have hsl870_9 : (List.replicate 32 (0 : UInt8)).length = 32 := List.length_replicate
         have hsl870_12 : (List.replicate 16 (0 : UInt8)).length = 16 := List.length_replicate
         have hsl870_13 : (List.replicate 32 (0 : UInt8)).length = 32 := List.length_replicate
         have hsl870_14 : (List.replicate 32 (0 : UInt8)).length = 32 := List.length_replicate
         have hsl870_17 : (List.replicate 16 (0 : UInt8)).length = 16 := List.length_replicate
         have hsl870_18 : (List.replicate 32 (0 : UInt8)).length = 32 := List.length_replicate
         have hsl870_19 : (List.replicate 32 (0 : UInt8)).length = 32 := List.length_replicate
         have hsl870_22 : (List.replicate 16 (0 : UInt8)).length = 16 := List.length_replicate
         have hsl870_23 : (List.replicate 32 (0 : UInt8)).length = 32 := List.length_replicate
         have hsl870_24 : (List.replicate 32 (0 : UInt8)).length = 32 := List.length_replicate
         have hsl870_27 : (List.replicate 16 (0 : UInt8)).length = 16 := List.length_replicate
         have hsl870_28 : (List.replicate 32 (0 : UInt8)).length = 32 := List.length_replicate
         have hsl870_29 : (List.replicate 32 (0 : UInt8)).length = 32 := List.length_replicate
         replace hM : Mem _ _ w13 [_,_,_,_,_,_] := hM.pick [2,0,1,3,4,5] rfl
         refine qq 0 30 (vss := [[.int .i64 0],[.int .i64 0],[.bool false],[.int .u64 0],bv (List.replicate 32 (0 : UInt8)),bv (List.replicate 32 (0 : UInt8)),[.bool false],[.int .u64 0],bv (List.replicate 32 (0 : UInt8)),bv (List.replicate 32 (0 : UInt8)),[.bool false],[.int .i64 0],bv (List.replicate 16 (0 : UInt8)),bv (List.replicate 32 (0 : UInt8)),bv (List.replicate 32 (0 : UInt8)),[.bool false],[.int .i64 0],bv (List.replicate 16 (0 : UInt8)),bv (List.replicate 32 (0 : UInt8)),bv (List.replicate 32 (0 : UInt8)),[.bool false],[.int .i64 0],bv (List.replicate 16 (0 : UInt8)),bv (List.replicate 32 (0 : UInt8)),bv (List.replicate 32 (0 : UInt8)),[.bool false],[.int .i64 0],bv (List.replicate 16 (0 : UInt8)),bv (List.replicate 32 (0 : UInt8)),bv (List.replicate 32 (0 : UInt8))]) hE rfl rfl hM rfl sz39 (by simp only [List.take_succ_cons,List.take_zero,List.drop_zero,List.drop_succ_cons];simp only [List.map_cons,List.map_nil,vj,List.length_cons,List.length_nil,List.length_replicate,hsl870_4,hsl870_5,hsl870_8,hsl870_9,hsl870_12,hsl870_13,hsl870_14,hsl870_17,hsl870_18,hsl870_19,hsl870_22,hsl870_23,hsl870_24,hsl870_27,hsl870_28,hsl870_29]) (by decide) rfl (one_fl ⟨one1 rfl,one1 rfl,one1 rfl,one1 rfl,ve _,ve _,one1 rfl,one1 rfl,ve _,ve _,one1 rfl,one1 rfl,ve _,ve _,ve _,one1 rfl,one1 rfl,ve _,ve _,ve _,one1 rfl,one1 rfl,ve _,ve _,ve _,one1 rfl,one1 rfl,ve _,ve _,ve _,trivial⟩) rfl (by intro X h;cases h) fun w14 hM=>?_
         try simp only [List.take_zero,List.take_succ_cons,List.drop_zero,List.drop_succ_cons,List.take_nil,List.drop_nil,List.nil_append,List.append_nil,List.cons_append] at hM
         refine sas hE rfl fun a hE=>sas hE rfl fun a hE=>qa (K15 (wp_ret (qf (qb (qb (qf (qb ?_)))))))
         exact qk hE rfl (res_cellN rfl (hM.get 0 rfl) row39 rfl) rfl rfl ⟨(by rw [e1];simp only [setS,newS,zH,zV,zS,slotT,List.flatten_cons,List.flatten_nil,List.append_nil,List.append_assoc,List.cons_append,List.nil_append];try rfl),hM.pick [] rfl⟩
        ·refine wcf hE rfl (wp_skip (qe (K9 (wpp (sm hE rfl fun a hE=>sb hE rfl rfl (bin_sub (wrap_i64 (by omega) (by omega))) fun a hE=>?_)))))
         refine sas hE rfl fun a hE=>qa ?_
         replace hM : Mem _ _ w13 [_,_,_,_] := hM.pick [2,3,4,5] rfl
         replace hE := hE.cast 13 rfl (show _ = Value.int .i64 (atI h 3) from (by first | rfl | (simp [atI,getS,hb45];done)))
         replace hE := hE.cast 14 rfl (show _ = Value.int .i64 0 from (by first | rfl | (simp [atI,getS,hb45];done)))
         refine qd ⟨(by simp [hitS,getS,hb57,hb59]),hE.sel [2,4,5,6,8,10,11,12,13,14,33] rfl,hM⟩
     rintro a w9 ⟨hJ5_2,hE,hM⟩
     refine c_roundsJ (fun a w' => hitS h p b 0 = false ∧ Env a 78 [(2,.string (str p)),(4,.int .i64 z),(5,.pointer (some ⟨b5,0,none⟩)),(6,.pointer (some ⟨b6,0,none⟩)),(8,.pointer (some ⟨b8,0,none⟩)),(10,.pointer (some ⟨b10,0,none⟩)),(11,.int .i64 0),(12,.int .i64 0),(13,.int .i64 (atI h 4)),(14,.int .i64 (-1)),(33,.bool false)] ∧ Mem w [] w' [blk b10 [[.int .i64 0],[.int .i64 0],[.bool false],[.int .u64 0],bv (List.replicate 32 (0 : UInt8)),bv (List.replicate 32 (0 : UInt8)),[.bool false],[.int .u64 0],bv (List.replicate 32 (0 : UInt8)),bv (List.replicate 32 (0 : UInt8)),[.bool false],[.int .i64 0],bv (List.replicate 16 (0 : UInt8)),bv (List.replicate 32 (0 : UInt8)),bv (List.replicate 32 (0 : UInt8)),[.bool false],[.int .i64 0],bv (List.replicate 16 (0 : UInt8)),bv (List.replicate 32 (0 : UInt8)),bv (List.replicate 32 (0 : UInt8)),[.bool false],[.int .i64 0],bv (List.replicate 16 (0 : UInt8)),bv (List.replicate 32 (0 : UInt8)),bv (List.replicate 32 (0 : UInt8)),[.bool false],[.int .i64 0],bv (List.replicate 16 (0 : UInt8)),bv (List.replicate 32 (0 : UInt8)),bv (List.replicate 32 (0 : UInt8))] [1,1,1,1,32,32,1,1,32,32,1,1,16,32,32,1,1,16,32,32,1,1,16,32,32,1,1,16,32,32] 39,blk b8 [bv b] [16] 34,blk b6 [bv x] [32] 26,blk b5 [[.int .i64 h.m],[.int .i64 h.r],[.bool h.v0.1],[.int .u64 ((h.v0.2.1 : Nat) : Int)],bv h.v0.2.2.1,bv h.v0.2.2.2,[.bool h.v1.1],[.int .u64 ((h.v1.2.1 : Nat) : Int)],bv h.v1.2.2.1,bv h.v1.2.2.2,[.bool h.s0.1],[.int .i64 h.s0.2.1],bv h.s0.2.2.1,bv h.s0.2.2.2.1,bv h.s0.2.2.2.2,[.bool h.s1.1],[.int .i64 h.s1.2.1],bv h.s1.2.2.1,bv h.s1.2.2.2.1,bv h.s1.2.2.2.2,[.bool h.s2.1],[.int .i64 h.s2.2.1],bv h.s2.2.2.1,bv h.s2.2.2.2.1,bv h.s2.2.2.2.2,[.bool h.s3.1],[.int .i64 h.s3.2.1],bv h.s3.2.2.1,bv h.s3.2.2.2.1,bv h.s3.2.2.2.2] [1,1,1,1,32,32,1,1,32,32,1,1,16,32,32,1,1,16,32,32,1,1,16,32,32,1,1,16,32,32] 39]) ?_ ?_
     ·skip
      refine ww1 fun _ K7=>ww1 fun _ K8=>wpp (sm hE rfl fun a hE=>sb hE rfl rfl bin_geq fun a hE=>?_)
      replace hE := hE.cast 36 rfl (show _ = Value.bool true from (congrArg Value.bool (by decide)))
      refine qa (K8 (wct hE rfl (wp_skip (K7 (ww1 fun _ K9=>wp_block (ww1 fun _ K10=>wpp (sm hE rfl fun a hE=>?_)))))))
      refine sf hE rfl fo39_2 fun a hE=>qp (j := 0) hE rfl rfl arr37 rfl (by decide) rfl fun a hE=>?_
      refine ql hE rfl (hM.get 3 rfl) row36 rfl (by intro X h;cases h) rfl fun a hE=>?_
      replace hE := hE.cast 42 rfl (show _ = Value.agg ([[.bool h.s0.1],[.int .i64 h.s0.2.1],bv h.s0.2.2.1,bv h.s0.2.2.2.1,bv h.s0.2.2.2.2] : List (List Value)).flatten.toArray from (by first | (simp only [List.flatten_cons,List.flatten_nil,List.append_nil,List.append_assoc];done) | rfl))
      refine qo [1,1,16,32,32] hE hM zeroL36 rfl rfl fun a b15 w10 hE hM=>?_
      have hsl943_2 : h.s0.2.2.1.length = 16 := hk_h.s0.2.1
      have hsl943_3 : h.s0.2.2.2.1.length = 32 := hk_h.s0.2.2.1
      have hsl943_4 : h.s0.2.2.2.2.length = 32 := hk_h.s0.2.2.2
      refine qq 0 5 (vss := [[.bool h.s0.1],[.int .i64 h.s0.2.1],bv h.s0.2.2.1,bv h.s0.2.2.2.1,bv h.s0.2.2.2.2]) hE rfl rfl hM rfl sz36 (by simp only [List.take_succ_cons,List.take_zero,List.drop_zero,List.drop_succ_cons];simp only [List.map_cons,List.map_nil,vj,List.length_cons,List.length_nil,List.length_replicate,hsl943_2,hsl943_3,hsl943_4]) (by decide) rfl (one_fl ⟨one1 rfl,one1 rfl,ve _,ve _,ve _,trivial⟩) rfl (by intro X h;cases h) fun w11 hM=>?_
      try simp only [List.take_zero,List.take_succ_cons,List.drop_zero,List.drop_succ_cons,List.take_nil,List.drop_nil,List.nil_append,List.append_nil,List.cons_append] at hM
      refine qa (K10 (ww1 fun _ K11=>ww1 fun _ K12=>wpp (sf hE rfl fo36_0 fun a hE=>qm hE rfl (hM.get 0 rfl) rfl one4 (by intro X h;cases h) rfl fun a hE=>?_)))
      refine s_not hE rfl rfl fun a hE=>qa (K12 ?_)
      refine hE.split 45 rfl (fun hb45 hE=>?_) (fun hb45 hE=>?_)
      ·replace hb45 := not_true hb45
       refine wct hE rfl (ww1 fun _ K13=>wpp (sm hE rfl fun a hE=>sas hE rfl fun a hE=>qa (K13 (wp_exit (qc (qg ?_))))))
       refine K9 (wpp (sm hE rfl fun a hE=>sb hE rfl rfl (bin_sub (wrap_i64 (by omega) (by omega))) fun a hE=>?_))
       refine sas hE rfl fun a hE=>qa ?_
       replace hM : Mem _ _ w11 [_,_,_,_] := hM.pick [1,2,3,4] rfl
       replace hE := hE.cast 13 rfl (show _ = Value.int .i64 (atI h 4) from (by first | rfl | (simp [atI,getS,hb45];done)))
       replace hE := hE.cast 14 rfl (show _ = Value.int .i64 (-1) from (by first | rfl | (simp [atI,getS,hb45];done)))
       refine qd ⟨(by simp [hitS,getS,hb45]),hE.sel [2,4,5,6,8,10,11,12,13,14,33] rfl,hM⟩
      ·replace hb45 := not_false' hb45
       have hu0 : h.s0.1 = true := by simpa using hb45
       refine wcf hE rfl (wp_skip (K11 (ww1 fun _ K13=>wpp (ql hE rfl (hM.get 0 rfl) row36 rfl (by intro X h;cases h) rfl fun a hE=>?_))))
       replace hE := hE.cast 48 rfl (show _ = Value.agg ([[.bool h.s0.1],[.int .i64 h.s0.2.1],bv h.s0.2.2.1,bv h.s0.2.2.2.1,bv h.s0.2.2.2.2] : List (List Value)).flatten.toArray from (by first | (simp only [List.flatten_cons,List.flatten_nil,List.append_nil,List.append_assoc];done) | rfl))
       refine sm hE rfl fun a hE=>qn hE rfl Tryz.call17 (ropens_c h.s0 p _ hk_h.s0 (by first | omega | assumption | (simp;done) | (simp;omega) | decide) (by first | omega | assumption | (simp;done) | (simp;omega) | decide)) rfl ?_
       rintro e w12 ⟨rfl,hN⟩
       refine ⟨_,rfl,trivial,fun a hE=>?_⟩
       replace hM : Mem _ _ w12 [_,_,_,_,_] := hM.call0 hN trivial;clear hN
       refine sm hE rfl fun a hE=>sx hE rfl fun a hE=>sx hE rfl fun a hE=>qo [32] hE hM zero26 rfl rfl fun a b16 w13 hE hM=>qr 0 hE rfl rfl hM rfl sz26 ((vj _).trans (opK_len (p := p) hk_h.s0)) (ve _) rfl ((vj _).trans (by first | (simp;done) | (simp [*];done) | (simp;omega))) rfl (by intro X h;cases h) fun w14 hM=>?_
       simp only [List.set_cons_zero,List.set_cons_succ] at hM
       refine sas hE rfl fun a hE=>qa (K13 (ww1 fun _ K14=>wpp (sf hE rfl fo36_2 fun a hE=>ql hE rfl (hM.get 1 rfl) row34 rfl (by intro X h;cases h) rfl fun a hE=>?_)))
       refine ql hE rfl (hM.get 3 rfl) row34 rfl (by intro X h;cases h) rfl fun a hE=>?_
       refine s_bin hE rfl rfl (eqa34 hk_h.s0.2.1 hl_b).1 rfl fun a hE=>sm hE rfl fun a hE=>?_
       refine hE.split 57 rfl (fun hb57 hE=>?_) (fun hb57 hE=>?_)
       ·replace hb57 := of_decide_eq_true hb57
        have hth : thereS h p b = true := hit_there (k := 0) hmay (by decide) hu0 (.inl hb57)
        have e1 := add_there (x := x) hmay hkz hth
        refine gt hE rfl fun a hE=>pkt hE rfl fun a hE=>qa (K14 (wct hE rfl (ww1 fun _ K15=>wpp (vg [] hE rfl zero39 (by kernel_rfl) fpl39 (by first | (simp [PartsOk,Value.cells];done) | (simp [PartsOk,Value.cells];omega)) rfl fun a hE=>?_))))
        replace hE := hE.cast 60 rfl (show _ = Value.agg ([[.int .i64 0],[.int .i64 0],[.bool false],[.int .u64 0],bv (List.replicate 32 (0 : UInt8)),bv (List.replicate 32 (0 : UInt8)),[.bool false],[.int .u64 0],bv (List.replicate 32 (0 : UInt8)),bv (List.replicate 32 (0 : UInt8)),[.bool false],[.int .i64 0],bv (List.replicate 16 (0 : UInt8)),bv (List.replicate 32 (0 : UInt8)),bv (List.replicate 32 (0 : UInt8)),[.bool false],[.int .i64 0],bv (List.replicate 16 (0 : UInt8)),bv (List.replicate 32 (0 : UInt8)),bv (List.replicate 32 (0 : UInt8)),[.bool false],[.int .i64 0],bv (List.replicate 16 (0 : UInt8)),bv (List.replicate 32 (0 : UInt8)),bv (List.replicate 32 (0 : UInt8)),[.bool false],[.int .i64 0],bv (List.replicate 16 (0 : UInt8)),bv (List.replicate 32 (0 : UInt8)),bv (List.replicate 32 (0 : UInt8))] : List (List Value)).flatten.toArray from (by first | rfl | simp [setAll] | (simp only [setAll,List.set_cons_zero,List.set_cons_succ,List.flatten_cons,List.flatten_nil,List.append_nil,List.append_assoc,List.replicate_succ,List.replicate_zero])))
        have hsl1033_4 : (List.replicate 32 (0 : UInt8)).length = 32 := List.length_replicate
        have hsl1033_5 : (List.replicate 32 (0 : UInt8)).length = 32 := List.length_replicate
        have hsl1033_8 : (List.replicate 32 (0 : UInt8)).length = 32 := List.length_replicate
        have hsl1033_9 : (List.replicate 32 (0 : UInt8)).length = 32 := List.length_replicate
        have hsl1033_12 : (List.replicate 16 (0 : UInt8)).length = 16 := List.length_replicate
        have hsl1033_13 : (List.replicate 32 (0 : UInt8)).length = 32 := List.length_replicate
        have hsl1033_14 : (List.replicate 32 (0 : UInt8)).length = 32 := List.length_replicate
        have hsl1033_17 : (List.replicate 16 (0 : UInt8)).length = 16 := List.length_replicate
        have hsl1033_18 : (List.replicate 32 (0 : UInt8)).length = 32 := List.length_replicate
        have hsl1033_19 : (List.replicate 32 (0 : UInt8)).length = 32 := List.length_replicate
        have hsl1033_22 : (List.replicate 16 (0 : UInt8)).length = 16 := List.length_replicate
        have hsl1033_23 : (List.replicate 32 (0 : UInt8)).length = 32 := List.length_replicate
        have hsl1033_24 : (List.replicate 32 (0 : UInt8)).length = 32 := List.length_replicate
        have hsl1033_27 : (List.replicate 16 (0 : UInt8)).length = 16 := List.length_replicate
        have hsl1033_28 : (List.replicate 32 (0 : UInt8)).length = 32 := List.length_replicate
        have hsl1033_29 : (List.replicate 32 (0 : UInt8)).length = 32 := List.length_replicate
        replace hM : Mem _ _ w14 [_,_,_,_,_,_] := hM.pick [2,0,1,3,4,5] rfl
        refine qq 0 30 (vss := [[.int .i64 0],[.int .i64 0],[.bool false],[.int .u64 0],bv (List.replicate 32 (0 : UInt8)),bv (List.replicate 32 (0 : UInt8)),[.bool false],[.int .u64 0],bv (List.replicate 32 (0 : UInt8)),bv (List.replicate 32 (0 : UInt8)),[.bool false],[.int .i64 0],bv (List.replicate 16 (0 : UInt8)),bv (List.replicate 32 (0 : UInt8)),bv (List.replicate 32 (0 : UInt8)),[.bool false],[.int .i64 0],bv (List.replicate 16 (0 : UInt8)),bv (List.replicate 32 (0 : UInt8)),bv (List.replicate 32 (0 : UInt8)),[.bool false],[.int .i64 0],bv (List.replicate 16 (0 : UInt8)),bv (List.replicate 32 (0 : UInt8)),bv (List.replicate 32 (0 : UInt8)),[.bool false],[.int .i64 0],bv (List.replicate 16 (0 : UInt8)),bv (List.replicate 32 (0 : UInt8)),bv (List.replicate 32 (0 : UInt8))]) hE rfl rfl hM rfl sz39 (by simp only [List.take_succ_cons,List.take_zero,List.drop_zero,List.drop_succ_cons];simp only [List.map_cons,List.map_nil,vj,List.length_cons,List.length_nil,List.length_replicate,hsl1033_4,hsl1033_5,hsl1033_8,hsl1033_9,hsl1033_12,hsl1033_13,hsl1033_14,hsl1033_17,hsl1033_18,hsl1033_19,hsl1033_22,hsl1033_23,hsl1033_24,hsl1033_27,hsl1033_28,hsl1033_29]) (by decide) rfl (one_fl ⟨one1 rfl,one1 rfl,one1 rfl,one1 rfl,ve _,ve _,one1 rfl,one1 rfl,ve _,ve _,one1 rfl,one1 rfl,ve _,ve _,ve _,one1 rfl,one1 rfl,ve _,ve _,ve _,one1 rfl,one1 rfl,ve _,ve _,ve _,one1 rfl,one1 rfl,ve _,ve _,ve _,trivial⟩) rfl (by intro X h;cases h) fun w15 hM=>?_
        try simp only [List.take_zero,List.take_succ_cons,List.drop_zero,List.drop_succ_cons,List.take_nil,List.drop_nil,List.nil_append,List.append_nil,List.cons_append] at hM
        refine sas hE rfl fun a hE=>sas hE rfl fun a hE=>qa (K15 (wp_ret (qf (qb (qb (qf (qb ?_)))))))
        exact qk hE rfl (res_cellN rfl (hM.get 0 rfl) row39 rfl) rfl rfl ⟨(by rw [e1];simp only [setS,newS,zH,zV,zS,slotT,List.flatten_cons,List.flatten_nil,List.append_nil,List.append_assoc,List.cons_append,List.nil_append];try rfl),hM.pick [] rfl⟩
       ·replace hb57 := of_decide_eq_false hb57
        refine gy hE rfl (sm hE rfl fun a hE=>pkf hE rfl fun a hE=>qa (K14 ?_))
        refine hE.split 59 rfl (fun hb59 hE=>?_) (fun hb59 hE=>?_)
        ·have hth : thereS h p b = true := hit_there (k := 0) hmay (by decide) hu0 (.inr hb59)
         have e1 := add_there (x := x) hmay hkz hth
         refine wct hE rfl (ww1 fun _ K15=>wpp (vg [] hE rfl zero39 (by kernel_rfl) fpl39 (by first | (simp [PartsOk,Value.cells];done) | (simp [PartsOk,Value.cells];omega)) rfl fun a hE=>?_))
         replace hE := hE.cast 60 rfl (show _ = Value.agg ([[.int .i64 0],[.int .i64 0],[.bool false],[.int .u64 0],bv (List.replicate 32 (0 : UInt8)),bv (List.replicate 32 (0 : UInt8)),[.bool false],[.int .u64 0],bv (List.replicate 32 (0 : UInt8)),bv (List.replicate 32 (0 : UInt8)),[.bool false],[.int .i64 0],bv (List.replicate 16 (0 : UInt8)),bv (List.replicate 32 (0 : UInt8)),bv (List.replicate 32 (0 : UInt8)),[.bool false],[.int .i64 0],bv (List.replicate 16 (0 : UInt8)),bv (List.replicate 32 (0 : UInt8)),bv (List.replicate 32 (0 : UInt8)),[.bool false],[.int .i64 0],bv (List.replicate 16 (0 : UInt8)),bv (List.replicate 32 (0 : UInt8)),bv (List.replicate 32 (0 : UInt8)),[.bool false],[.int .i64 0],bv (List.replicate 16 (0 : UInt8)),bv (List.replicate 32 (0 : UInt8)),bv (List.replicate 32 (0 : UInt8))] : List (List Value)).flatten.toArray from (by first | rfl | simp [setAll] | (simp only [setAll,List.set_cons_zero,List.set_cons_succ,List.flatten_cons,List.flatten_nil,List.append_nil,List.append_assoc,List.replicate_succ,List.replicate_zero])))
         have hsl1082_4 : (List.replicate 32 (0 : UInt8)).length = 32 := List.length_replicate
         have hsl1082_5 : (List.replicate 32 (0 : UInt8)).length = 32 := List.length_replicate
         have hsl1082_8 : (List.replicate 32 (0 : UInt8)).length = 32 := List.length_replicate
         have hsl1082_9 : (List.replicate 32 (0 : UInt8)).length = 32 := List.length_replicate
         have hsl1082_12 : (List.replicate 16 (0 : UInt8)).length = 16 := List.length_replicate
         have hsl1082_13 : (List.replicate 32 (0 : UInt8)).length = 32 := List.length_replicate
         have hsl1082_14 : (List.replicate 32 (0 : UInt8)).length = 32 := List.length_replicate
         have hsl1082_17 : (List.replicate 16 (0 : UInt8)).length = 16 := List.length_replicate
         have hsl1082_18 : (List.replicate 32 (0 : UInt8)).length = 32 := List.length_replicate
         have hsl1082_19 : (List.replicate 32 (0 : UInt8)).length = 32 := List.length_replicate
         have hsl1082_22 : (List.replicate 16 (0 : UInt8)).length = 16 := List.length_replicate
         have hsl1082_23 : (List.replicate 32 (0 : UInt8)).length = 32 := List.length_replicate
         have hsl1082_24 : (List.replicate 32 (0 : UInt8)).length = 32 := List.length_replicate
         have hsl1082_27 : (List.replicate 16 (0 : UInt8)).length = 16 := List.length_replicate
         have hsl1082_28 : (List.replicate 32 (0 : UInt8)).length = 32 := List.length_replicate
         have hsl1082_29 : (List.replicate 32 (0 : UInt8)).length = 32 := List.length_replicate
         replace hM : Mem _ _ w14 [_,_,_,_,_,_] := hM.pick [2,0,1,3,4,5] rfl
         refine qq 0 30 (vss := [[.int .i64 0],[.int .i64 0],[.bool false],[.int .u64 0],bv (List.replicate 32 (0 : UInt8)),bv (List.replicate 32 (0 : UInt8)),[.bool false],[.int .u64 0],bv (List.replicate 32 (0 : UInt8)),bv (List.replicate 32 (0 : UInt8)),[.bool false],[.int .i64 0],bv (List.replicate 16 (0 : UInt8)),bv (List.replicate 32 (0 : UInt8)),bv (List.replicate 32 (0 : UInt8)),[.bool false],[.int .i64 0],bv (List.replicate 16 (0 : UInt8)),bv (List.replicate 32 (0 : UInt8)),bv (List.replicate 32 (0 : UInt8)),[.bool false],[.int .i64 0],bv (List.replicate 16 (0 : UInt8)),bv (List.replicate 32 (0 : UInt8)),bv (List.replicate 32 (0 : UInt8)),[.bool false],[.int .i64 0],bv (List.replicate 16 (0 : UInt8)),bv (List.replicate 32 (0 : UInt8)),bv (List.replicate 32 (0 : UInt8))]) hE rfl rfl hM rfl sz39 (by simp only [List.take_succ_cons,List.take_zero,List.drop_zero,List.drop_succ_cons];simp only [List.map_cons,List.map_nil,vj,List.length_cons,List.length_nil,List.length_replicate,hsl1082_4,hsl1082_5,hsl1082_8,hsl1082_9,hsl1082_12,hsl1082_13,hsl1082_14,hsl1082_17,hsl1082_18,hsl1082_19,hsl1082_22,hsl1082_23,hsl1082_24,hsl1082_27,hsl1082_28,hsl1082_29]) (by decide) rfl (one_fl ⟨one1 rfl,one1 rfl,one1 rfl,one1 rfl,ve _,ve _,one1 rfl,one1 rfl,ve _,ve _,one1 rfl,one1 rfl,ve _,ve _,ve _,one1 rfl,one1 rfl,ve _,ve _,ve _,one1 rfl,one1 rfl,ve _,ve _,ve _,one1 rfl,one1 rfl,ve _,ve _,ve _,trivial⟩) rfl (by intro X h;cases h) fun w15 hM=>?_
         try simp only [List.take_zero,List.take_succ_cons,List.drop_zero,List.drop_succ_cons,List.take_nil,List.drop_nil,List.nil_append,List.append_nil,List.cons_append] at hM
         refine sas hE rfl fun a hE=>sas hE rfl fun a hE=>qa (K15 (wp_ret (qf (qb (qb (qf (qb ?_)))))))
         exact qk hE rfl (res_cellN rfl (hM.get 0 rfl) row39 rfl) rfl rfl ⟨(by rw [e1];simp only [setS,newS,zH,zV,zS,slotT,List.flatten_cons,List.flatten_nil,List.append_nil,List.append_assoc,List.cons_append,List.nil_append];try rfl),hM.pick [] rfl⟩
        ·refine wcf hE rfl (wp_skip (qe (K9 (wpp (sm hE rfl fun a hE=>sb hE rfl rfl (bin_sub (wrap_i64 (by omega) (by omega))) fun a hE=>?_)))))
         refine sas hE rfl fun a hE=>qa ?_
         replace hM : Mem _ _ w14 [_,_,_,_] := hM.pick [2,3,4,5] rfl
         replace hE := hE.cast 13 rfl (show _ = Value.int .i64 (atI h 4) from (by first | rfl | (simp [atI,getS,hb45];done)))
         replace hE := hE.cast 14 rfl (show _ = Value.int .i64 (-1) from (by first | rfl | (simp [atI,getS,hb45];done)))
         refine qd ⟨(by simp [hitS,getS,hb57,hb59]),hE.sel [2,4,5,6,8,10,11,12,13,14,33] rfl,hM⟩
     rintro a w10 ⟨hJ5_3,hE,hM⟩
     refine c_rounds (ww1 fun _ K7=>ww1 fun _ K8=>wpp (sm hE rfl fun a hE=>sb hE rfl rfl bin_geq fun a hE=>qa (K8 ?_)))
     replace hE := hE.cast 36 rfl (show _ = Value.bool false from (congrArg Value.bool (by decide)))
     refine wcf hE rfl (wp_exit (qc (qc (qg (K5 (ww1 fun _ K9=>ww1 fun _ K10=>wpp (sm hE rfl fun a hE=>?_)))))))
     have hth : thereS h p b = false := no_hit hmay (fun k hk => by rcases four_cases hk with rfl | rfl | rfl | rfl <;> assumption)
     rcases freeS_five h with hfr | hfr | hfr | hfr | hfr
     ·replace hE := hE.cast 13 rfl (show _ = Value.int .i64 (-1) from congrArg (Value.int .i64) ((atI_free h).trans hfr))
      replace hE := hE.cast 61 rfl (show _ = Value.int .i64 (-1) from congrArg (Value.int .i64) ((atI_free h).trans hfr))
      have e1 : addS h x p b z = (zH,0,7) := add_full hmay hkz hth hfr
      refine sb hE rfl rfl bin_lss fun a hE=>qa (K10 ?_)
      replace hE := hE.cast 62 rfl (show _ = Value.bool true from (congrArg Value.bool (by decide)))
      refine wct hE rfl (ww1 fun _ K11=>wpp (vg [] hE rfl zero39 (by kernel_rfl) fpl39 (by first | (simp [PartsOk,Value.cells];done) | (simp [PartsOk,Value.cells];omega)) rfl fun a hE=>?_))
      replace hE := hE.cast 63 rfl (show _ = Value.agg ([[.int .i64 0],[.int .i64 0],[.bool false],[.int .u64 0],bv (List.replicate 32 (0 : UInt8)),bv (List.replicate 32 (0 : UInt8)),[.bool false],[.int .u64 0],bv (List.replicate 32 (0 : UInt8)),bv (List.replicate 32 (0 : UInt8)),[.bool false],[.int .i64 0],bv (List.replicate 16 (0 : UInt8)),bv (List.replicate 32 (0 : UInt8)),bv (List.replicate 32 (0 : UInt8)),[.bool false],[.int .i64 0],bv (List.replicate 16 (0 : UInt8)),bv (List.replicate 32 (0 : UInt8)),bv (List.replicate 32 (0 : UInt8)),[.bool false],[.int .i64 0],bv (List.replicate 16 (0 : UInt8)),bv (List.replicate 32 (0 : UInt8)),bv (List.replicate 32 (0 : UInt8)),[.bool false],[.int .i64 0],bv (List.replicate 16 (0 : UInt8)),bv (List.replicate 32 (0 : UInt8)),bv (List.replicate 32 (0 : UInt8))] : List (List Value)).flatten.toArray from (by first | rfl | simp [setAll] | (simp only [setAll,List.set_cons_zero,List.set_cons_succ,List.flatten_cons,List.flatten_nil,List.append_nil,List.append_assoc,List.replicate_succ,List.replicate_zero])))
      have hsl1165_4 : (List.replicate 32 (0 : UInt8)).length = 32 := List.length_replicate
      have hsl1165_5 : (List.replicate 32 (0 : UInt8)).length = 32 := List.length_replicate
      have hsl1165_8 : (List.replicate 32 (0 : UInt8)).length = 32 := List.length_replicate
      have hsl1165_9 : (List.replicate 32 (0 : UInt8)).length = 32 := List.length_replicate
      have hsl1165_12 : (List.replicate 16 (0 : UInt8)).length = 16 := List.length_replicate
      have hsl1165_13 : (List.replicate 32 (0 : UInt8)).length = 32 := List.length_replicate
      have hsl1165_14 : (List.replicate 32 (0 : UInt8)).length = 32 := List.length_replicate
      have hsl1165_17 : (List.replicate 16 (0 : UInt8)).length = 16 := List.length_replicate
      have hsl1165_18 : (List.replicate 32 (0 : UInt8)).length = 32 := List.length_replicate
      have hsl1165_19 : (List.replicate 32 (0 : UInt8)).length = 32 := List.length_replicate
      have hsl1165_22 : (List.replicate 16 (0 : UInt8)).length = 16 := List.length_replicate
      have hsl1165_23 : (List.replicate 32 (0 : UInt8)).length = 32 := List.length_replicate
      have hsl1165_24 : (List.replicate 32 (0 : UInt8)).length = 32 := List.length_replicate
      have hsl1165_27 : (List.replicate 16 (0 : UInt8)).length = 16 := List.length_replicate
      have hsl1165_28 : (List.replicate 32 (0 : UInt8)).length = 32 := List.length_replicate
      have hsl1165_29 : (List.replicate 32 (0 : UInt8)).length = 32 := List.length_replicate
      refine qq 0 30 (vss := [[.int .i64 0],[.int .i64 0],[.bool false],[.int .u64 0],bv (List.replicate 32 (0 : UInt8)),bv (List.replicate 32 (0 : UInt8)),[.bool false],[.int .u64 0],bv (List.replicate 32 (0 : UInt8)),bv (List.replicate 32 (0 : UInt8)),[.bool false],[.int .i64 0],bv (List.replicate 16 (0 : UInt8)),bv (List.replicate 32 (0 : UInt8)),bv (List.replicate 32 (0 : UInt8)),[.bool false],[.int .i64 0],bv (List.replicate 16 (0 : UInt8)),bv (List.replicate 32 (0 : UInt8)),bv (List.replicate 32 (0 : UInt8)),[.bool false],[.int .i64 0],bv (List.replicate 16 (0 : UInt8)),bv (List.replicate 32 (0 : UInt8)),bv (List.replicate 32 (0 : UInt8)),[.bool false],[.int .i64 0],bv (List.replicate 16 (0 : UInt8)),bv (List.replicate 32 (0 : UInt8)),bv (List.replicate 32 (0 : UInt8))]) hE rfl rfl hM rfl sz39 (by simp only [List.take_succ_cons,List.take_zero,List.drop_zero,List.drop_succ_cons];simp only [List.map_cons,List.map_nil,vj,List.length_cons,List.length_nil,List.length_replicate,hsl1165_4,hsl1165_5,hsl1165_8,hsl1165_9,hsl1165_12,hsl1165_13,hsl1165_14,hsl1165_17,hsl1165_18,hsl1165_19,hsl1165_22,hsl1165_23,hsl1165_24,hsl1165_27,hsl1165_28,hsl1165_29]) (by decide) rfl (one_fl ⟨one1 rfl,one1 rfl,one1 rfl,one1 rfl,ve _,ve _,one1 rfl,one1 rfl,ve _,ve _,one1 rfl,one1 rfl,ve _,ve _,ve _,one1 rfl,one1 rfl,ve _,ve _,ve _,one1 rfl,one1 rfl,ve _,ve _,ve _,one1 rfl,one1 rfl,ve _,ve _,ve _,trivial⟩) rfl (by intro X h;cases h) fun w11 hM=>?_
      try simp only [List.take_zero,List.take_succ_cons,List.drop_zero,List.drop_succ_cons,List.take_nil,List.drop_nil,List.nil_append,List.append_nil,List.cons_append] at hM
      exact sas hE rfl fun a hE=>sas hE rfl fun a hE=>qa (K11 (wp_ret (qb (qk hE rfl (res_cellN rfl (hM.get 0 rfl) row39 rfl) rfl rfl ⟨(by rw [e1];simp only [setS,newS,zH,zV,zS,slotT,List.flatten_cons,List.flatten_nil,List.append_nil,List.append_assoc,List.cons_append,List.nil_append];try rfl),hM.pick [] rfl⟩))))
     ·replace hE := hE.cast 13 rfl (show _ = Value.int .i64 0 from congrArg (Value.int .i64) ((atI_free h).trans hfr))
      replace hE := hE.cast 61 rfl (show _ = Value.int .i64 0 from congrArg (Value.int .i64) ((atI_free h).trans hfr))
      have e1 : addS h x p b z = (setS h 0 (newS p b z x),0,0) := add_in (j := 0) hmay hkz hth hfr
      refine sb hE rfl rfl bin_lss fun a hE=>?_
      replace hE := hE.cast 62 rfl (show _ = Value.bool false from (congrArg Value.bool (by decide)))
      refine qa (K10 (wcf hE rfl (wp_skip (K9 (ww1 fun _ K11=>qz hM (by kernel_rfl) (fun _ => True) (fun _ => True) (.re [(0,true),(1,true),(3,true),(5,true),(10,true),(2,true),(4,true),(7,true),(6,false),(8,false),(9,true),(11,true),(12,false)] (.fl 5 (.weak (.fl 3 (.or 6 (.re [(8,false),(9,true),(11,true),(12,false)] (.fl 0 (.fl 0 (.or 8 (.re [(9,true),(11,true),(12,false)] (.fl 2 (.fl 0 (.cut (.or 12 (.cut (.re [] (.weak (.leaf 0)))) (.stop)))))) (.stop))))) (.stop)))))) [(0,true),(1,true),(3,true),(5,true),(10,true),(2,true),(4,true),(7,true),(6,false),(8,false),(9,true),(11,true),(12,false)] [(2,[(9,2),(11,2),(12,2)]),(4,[(6,4),(8,6),(9,8),(11,4),(12,4)]),(6,[(8,6),(9,8),(11,6),(12,6)]),(7,[(8,7),(9,8),(11,7),(12,7)]),(8,[(9,8),(11,8),(12,8)]),(9,[(11,9),(12,9)]),(10,[(11,10),(12,11)]),(11,[(12,11)]),(12,[])] (by kernel_rfl) ?_)))))
      intro w11 hM' hww11;replace hM := hM'
      refine o_re (o_fl rfl (sm hE rfl fun a hE=>sm hE rfl fun a hE=>sm hE rfl fun a hE=>sm hE rfl fun a hE=>sf hE rfl fo39_2 fun a hE=>qa (qh (vc (fun _ => False) (fun _ _ => trivial) (o_fl rfl ?_)))))
      refine ql hE rfl (hM.get 1 rfl) row34 rfl (by intro X h;cases h;simp) rfl fun a hE=>?_
      refine ql hE rfl (hM.get 1 rfl) row34 rfl (by intro X h;cases h;simp) rfl fun a hE=>?_
      refine ql hE rfl (hM.get 2 rfl) row26 rfl (by intro X h;cases h;simp) rfl fun a hE=>?_
      refine qa (qh ?_)
      refine o_or rfl ?_ ?_
      ·refine qn hE rfl Tryz.call19 (rkey25_c p b z _ hl_b (by have hl_1 : b.length = 16 := hl_b;first | omega | assumption | (simp;done) | (simp;omega) | decide) (by have hl_1 : b.length = 16 := hl_b;first | omega | assumption | (simp;done) | (simp;omega) | decide)) rfl ?_
       rintro e w12 ⟨rfl,hN⟩
       refine ⟨_,rfl,hN.sta0 _,fun a hE=>?_⟩
       replace hM : Mem _ _ w12 [_,_,_,_] := hM.call0 hN trivial;clear hN
       refine qa (qh (o_re (o_fl rfl (qa (qh (o_fl rfl (qa (qh ?_))))))))
       refine o_or rfl ?_ ?_
       ·refine qn hE rfl Tryz.call18 (rwrap_c (kK p b z) [115,108,111,116] 0 x _ (vh p b z) hl_x (by have hl_0 : (kK p b z).length = 32 := (vh p b z);have hl_1 : [115,108,111,116].length = 4 := (by first | (simp;done) | (simp [*];done) | (simp;omega));have hl_3 : x.length = 32 := hl_x;first | omega | assumption | (simp;done) | (simp;omega) | decide) (by have hl_0 : (kK p b z).length = 32 := (vh p b z);have hl_1 : [115,108,111,116].length = 4 := (by first | (simp;done) | (simp [*];done) | (simp;omega));have hl_3 : x.length = 32 := hl_x;first | omega | assumption | (simp;done) | (simp;omega) | decide)) rfl ?_
        rintro e w13 ⟨rfl,hN⟩
        refine ⟨_,rfl,hN.sta0 _,fun a hE=>?_⟩
        replace hM : Mem _ _ w13 [_,_,_,_] := hM.call0 hN trivial;clear hN
        refine qa (qh (o_re (o_fl rfl ?_)))
        have hbd73_2_0 : b.length = 16 := hl_b
        have hbd73_3_0 : (wrapD (kK p b z) [115,108,111,116] 0 x).length = 32 := (wrapD_len (k := (kK p b z)) (l := [115,108,111,116]) (n := 0) (x := x) (by have hl_ax : x.length = 32 := hl_x;first | assumption | (simp;done)))
        have hbd73_3_1 : (tagB (kK p b z) [115,108,111,116] 0 (wrapD (kK p b z) [115,108,111,116] 0 x)).length = 32 := (tagB_len (kK p b z) [115,108,111,116] 0 (wrapD (kK p b z) [115,108,111,116] 0 x))
        refine vg [[.bool true],[.int .i64 z],bv b,([bv (wrapD (kK p b z) [115,108,111,116] 0 x),bv (tagB (kK p b z) [115,108,111,116] 0 (wrapD (kK p b z) [115,108,111,116] 0 x))] : List (List Value)).flatten] hE rfl zero36 (by kernel_rfl) fpl36 (by first | (simp [PartsOk,Value.cells,hbd73_2_0,hbd73_3_0,hbd73_3_1];done) | (simp [PartsOk,Value.cells,hbd73_2_0,hbd73_3_0,hbd73_3_1];omega)) rfl fun a hE=>?_
        replace hE := hE.cast 73 rfl (show _ = Value.agg ([[.bool true],[.int .i64 z],bv b,bv (wrapD (kK p b z) [115,108,111,116] 0 x),bv (tagB (kK p b z) [115,108,111,116] 0 (wrapD (kK p b z) [115,108,111,116] 0 x))] : List (List Value)).flatten.toArray from (by first | rfl | simp [setAll] | (simp only [setAll,List.set_cons_zero,List.set_cons_succ,List.flatten_cons,List.flatten_nil,List.append_nil,List.append_assoc,List.replicate_succ,List.replicate_zero])))
        refine qp (j := 0) hE rfl rfl arr37 rfl (by decide) rfl fun a hE=>?_
        refine qa (qh (o_fl rfl (qa (qh (o_cut (fun b => b = b5) ?_)))))
        refine o_or rfl ?_ ?_
        ·have hsl1250_2 : b.length = 16 := hl_b
         have hsl1250_3 : (wrapD (kK p b z) [115,108,111,116] 0 x).length = 32 := (wrapD_len (k := (kK p b z)) (l := [115,108,111,116]) (n := 0) (x := x) (by have hl_ax : x.length = 32 := hl_x;first | assumption | (simp;done)))
         have hsl1250_4 : (tagB (kK p b z) [115,108,111,116] 0 (wrapD (kK p b z) [115,108,111,116] 0 x)).length = 32 := (tagB_len (kK p b z) [115,108,111,116] 0 (wrapD (kK p b z) [115,108,111,116] 0 x))
         replace hM : Mem _ _ w13 [_,_,_,_] := hM.pick [3,0,1,2] rfl
         refine qq 10 5 (vss := [[.bool true],[.int .i64 z],bv b,bv (wrapD (kK p b z) [115,108,111,116] 0 x),bv (tagB (kK p b z) [115,108,111,116] 0 (wrapD (kK p b z) [115,108,111,116] 0 x))]) hE rfl rfl hM rfl sz36 (by simp only [List.take_succ_cons,List.take_zero,List.drop_zero,List.drop_succ_cons];simp only [List.map_cons,List.map_nil,vj,List.length_cons,List.length_nil,List.length_replicate,hsl1250_2,hsl1250_3,hsl1250_4]) (by decide) rfl (one_fl ⟨one1 rfl,one1 rfl,ve _,ve _,ve _,trivial⟩) rfl (by intro X h;cases h;rfl) fun w14 hM=>?_
         try simp only [List.take_zero,List.take_succ_cons,List.drop_zero,List.drop_succ_cons,List.take_nil,List.drop_nil,List.nil_append,List.append_nil,List.cons_append] at hM
         refine qa (qh (o_cut (fun _ => True) (o_re (vc (fun _ => False) (fun _ _ => trivial) (va rfl rfl (qa (q_ph (qa (K11 (ww1 fun _ K12=>wpp (ql hE rfl (hM.get 0 rfl) row39 rfl (by intro X h;cases h) rfl fun a hE=>?_)))))))))))
         replace hE := hE.cast 76 rfl (show _ = Value.agg ([[.int .i64 h.m],[.int .i64 h.r],[.bool h.v0.1],[.int .u64 ((h.v0.2.1 : Nat) : Int)],bv h.v0.2.2.1,bv h.v0.2.2.2,[.bool h.v1.1],[.int .u64 ((h.v1.2.1 : Nat) : Int)],bv h.v1.2.2.1,bv h.v1.2.2.2,[.bool true],[.int .i64 z],bv b,bv (wrapD (kK p b z) [115,108,111,116] 0 x),bv (tagB (kK p b z) [115,108,111,116] 0 (wrapD (kK p b z) [115,108,111,116] 0 x)),[.bool h.s1.1],[.int .i64 h.s1.2.1],bv h.s1.2.2.1,bv h.s1.2.2.2.1,bv h.s1.2.2.2.2,[.bool h.s2.1],[.int .i64 h.s2.2.1],bv h.s2.2.2.1,bv h.s2.2.2.2.1,bv h.s2.2.2.2.2,[.bool h.s3.1],[.int .i64 h.s3.2.1],bv h.s3.2.2.1,bv h.s3.2.2.2.1,bv h.s3.2.2.2.2] : List (List Value)).flatten.toArray from (by first | (simp only [List.flatten_cons,List.flatten_nil,List.append_nil,List.append_assoc];done) | rfl))
         refine sm hE rfl fun a hE=>?_
         have hsl1269_4 : h.v0.2.2.1.length = 32 := hk_h.v0.2.1
         have hsl1269_5 : h.v0.2.2.2.length = 32 := hk_h.v0.2.2
         have hsl1269_8 : h.v1.2.2.1.length = 32 := hk_h.v1.2.1
         have hsl1269_9 : h.v1.2.2.2.length = 32 := hk_h.v1.2.2
         have hsl1269_12 : b.length = 16 := hl_b
         have hsl1269_13 : (wrapD (kK p b z) [115,108,111,116] 0 x).length = 32 := (wrapD_len (k := (kK p b z)) (l := [115,108,111,116]) (n := 0) (x := x) (by have hl_ax : x.length = 32 := hl_x;first | assumption | (simp;done)))
         have hsl1269_14 : (tagB (kK p b z) [115,108,111,116] 0 (wrapD (kK p b z) [115,108,111,116] 0 x)).length = 32 := (tagB_len (kK p b z) [115,108,111,116] 0 (wrapD (kK p b z) [115,108,111,116] 0 x))
         have hsl1269_17 : h.s1.2.2.1.length = 16 := hk_h.s1.2.1
         have hsl1269_18 : h.s1.2.2.2.1.length = 32 := hk_h.s1.2.2.1
         have hsl1269_19 : h.s1.2.2.2.2.length = 32 := hk_h.s1.2.2.2
         have hsl1269_22 : h.s2.2.2.1.length = 16 := hk_h.s2.2.1
         have hsl1269_23 : h.s2.2.2.2.1.length = 32 := hk_h.s2.2.2.1
         have hsl1269_24 : h.s2.2.2.2.2.length = 32 := hk_h.s2.2.2.2
         have hsl1269_27 : h.s3.2.2.1.length = 16 := hk_h.s3.2.1
         have hsl1269_28 : h.s3.2.2.2.1.length = 32 := hk_h.s3.2.2.1
         have hsl1269_29 : h.s3.2.2.2.2.length = 32 := hk_h.s3.2.2.2
         replace hM : Mem _ _ w14 [_,_,_,_] := hM.pick [1,0,2,3] rfl
         refine qq 0 30 (vss := [[.int .i64 h.m],[.int .i64 h.r],[.bool h.v0.1],[.int .u64 ((h.v0.2.1 : Nat) : Int)],bv h.v0.2.2.1,bv h.v0.2.2.2,[.bool h.v1.1],[.int .u64 ((h.v1.2.1 : Nat) : Int)],bv h.v1.2.2.1,bv h.v1.2.2.2,[.bool true],[.int .i64 z],bv b,bv (wrapD (kK p b z) [115,108,111,116] 0 x),bv (tagB (kK p b z) [115,108,111,116] 0 (wrapD (kK p b z) [115,108,111,116] 0 x)),[.bool h.s1.1],[.int .i64 h.s1.2.1],bv h.s1.2.2.1,bv h.s1.2.2.2.1,bv h.s1.2.2.2.2,[.bool h.s2.1],[.int .i64 h.s2.2.1],bv h.s2.2.2.1,bv h.s2.2.2.2.1,bv h.s2.2.2.2.2,[.bool h.s3.1],[.int .i64 h.s3.2.1],bv h.s3.2.2.1,bv h.s3.2.2.2.1,bv h.s3.2.2.2.2]) hE rfl rfl hM rfl sz39 (by simp only [List.take_succ_cons,List.take_zero,List.drop_zero,List.drop_succ_cons];simp only [List.map_cons,List.map_nil,vj,List.length_cons,List.length_nil,List.length_replicate,hsl1269_4,hsl1269_5,hsl1269_8,hsl1269_9,hsl1269_12,hsl1269_13,hsl1269_14,hsl1269_17,hsl1269_18,hsl1269_19,hsl1269_22,hsl1269_23,hsl1269_24,hsl1269_27,hsl1269_28,hsl1269_29]) (by decide) rfl (one_fl ⟨one1 rfl,one1 rfl,one1 rfl,one1 rfl,ve _,ve _,one1 rfl,one1 rfl,ve _,ve _,one1 rfl,one1 rfl,ve _,ve _,ve _,one1 rfl,one1 rfl,ve _,ve _,ve _,one1 rfl,one1 rfl,ve _,ve _,ve _,one1 rfl,one1 rfl,ve _,ve _,ve _,trivial⟩) rfl (by intro X h;cases h) fun w15 hM=>?_
         try simp only [List.take_zero,List.take_succ_cons,List.drop_zero,List.drop_succ_cons,List.take_nil,List.drop_nil,List.nil_append,List.append_nil,List.cons_append] at hM
         exact sas hE rfl fun a hE=>sas hE rfl fun a hE=>qa (K12 (wp_ret (qk hE rfl (res_cellN rfl (hM.get 0 rfl) row39 rfl) rfl rfl ⟨(by rw [e1];simp only [setS,newS,zH,zV,zS,slotT,List.flatten_cons,List.flatten_nil,List.append_nil,List.append_assoc,List.cons_append,List.nil_append];try rfl),hM.pick [] rfl⟩)))
        trivial
       trivial
      trivial
     ·replace hE := hE.cast 13 rfl (show _ = Value.int .i64 1 from congrArg (Value.int .i64) ((atI_free h).trans hfr))
      replace hE := hE.cast 61 rfl (show _ = Value.int .i64 1 from congrArg (Value.int .i64) ((atI_free h).trans hfr))
      have e1 : addS h x p b z = (setS h 1 (newS p b z x),1,0) := add_in (j := 1) hmay hkz hth hfr
      refine sb hE rfl rfl bin_lss fun a hE=>?_
      replace hE := hE.cast 62 rfl (show _ = Value.bool false from (congrArg Value.bool (by decide)))
      refine qa (K10 (wcf hE rfl (wp_skip (K9 (ww1 fun _ K11=>qz hM (by kernel_rfl) (fun _ => True) (fun _ => True) (.re [(0,true),(1,true),(3,true),(5,true),(10,true),(2,true),(4,true),(7,true),(6,false),(8,false),(9,true),(11,true),(12,false)] (.fl 5 (.weak (.fl 3 (.or 6 (.re [(8,false),(9,true),(11,true),(12,false)] (.fl 0 (.fl 0 (.or 8 (.re [(9,true),(11,true),(12,false)] (.fl 2 (.fl 0 (.cut (.or 12 (.cut (.re [] (.weak (.leaf 0)))) (.stop)))))) (.stop))))) (.stop)))))) [(0,true),(1,true),(3,true),(5,true),(10,true),(2,true),(4,true),(7,true),(6,false),(8,false),(9,true),(11,true),(12,false)] [(2,[(9,2),(11,2),(12,2)]),(4,[(6,4),(8,6),(9,8),(11,4),(12,4)]),(6,[(8,6),(9,8),(11,6),(12,6)]),(7,[(8,7),(9,8),(11,7),(12,7)]),(8,[(9,8),(11,8),(12,8)]),(9,[(11,9),(12,9)]),(10,[(11,10),(12,11)]),(11,[(12,11)]),(12,[])] (by kernel_rfl) ?_)))))
      intro w11 hM' hww11;replace hM := hM'
      refine o_re (o_fl rfl (sm hE rfl fun a hE=>sm hE rfl fun a hE=>sm hE rfl fun a hE=>sm hE rfl fun a hE=>sf hE rfl fo39_2 fun a hE=>qa (qh (vc (fun _ => False) (fun _ _ => trivial) (o_fl rfl ?_)))))
      refine ql hE rfl (hM.get 1 rfl) row34 rfl (by intro X h;cases h;simp) rfl fun a hE=>?_
      refine ql hE rfl (hM.get 1 rfl) row34 rfl (by intro X h;cases h;simp) rfl fun a hE=>?_
      refine ql hE rfl (hM.get 2 rfl) row26 rfl (by intro X h;cases h;simp) rfl fun a hE=>?_
      refine qa (qh ?_)
      refine o_or rfl ?_ ?_
      ·refine qn hE rfl Tryz.call19 (rkey25_c p b z _ hl_b (by have hl_1 : b.length = 16 := hl_b;first | omega | assumption | (simp;done) | (simp;omega) | decide) (by have hl_1 : b.length = 16 := hl_b;first | omega | assumption | (simp;done) | (simp;omega) | decide)) rfl ?_
       rintro e w12 ⟨rfl,hN⟩
       refine ⟨_,rfl,hN.sta0 _,fun a hE=>?_⟩
       replace hM : Mem _ _ w12 [_,_,_,_] := hM.call0 hN trivial;clear hN
       refine qa (qh (o_re (o_fl rfl (qa (qh (o_fl rfl (qa (qh ?_))))))))
       refine o_or rfl ?_ ?_
       ·refine qn hE rfl Tryz.call18 (rwrap_c (kK p b z) [115,108,111,116] 0 x _ (vh p b z) hl_x (by have hl_0 : (kK p b z).length = 32 := (vh p b z);have hl_1 : [115,108,111,116].length = 4 := (by first | (simp;done) | (simp [*];done) | (simp;omega));have hl_3 : x.length = 32 := hl_x;first | omega | assumption | (simp;done) | (simp;omega) | decide) (by have hl_0 : (kK p b z).length = 32 := (vh p b z);have hl_1 : [115,108,111,116].length = 4 := (by first | (simp;done) | (simp [*];done) | (simp;omega));have hl_3 : x.length = 32 := hl_x;first | omega | assumption | (simp;done) | (simp;omega) | decide)) rfl ?_
        rintro e w13 ⟨rfl,hN⟩
        refine ⟨_,rfl,hN.sta0 _,fun a hE=>?_⟩
        replace hM : Mem _ _ w13 [_,_,_,_] := hM.call0 hN trivial;clear hN
        refine qa (qh (o_re (o_fl rfl ?_)))
        have hbd73_2_0 : b.length = 16 := hl_b
        have hbd73_3_0 : (wrapD (kK p b z) [115,108,111,116] 0 x).length = 32 := (wrapD_len (k := (kK p b z)) (l := [115,108,111,116]) (n := 0) (x := x) (by have hl_ax : x.length = 32 := hl_x;first | assumption | (simp;done)))
        have hbd73_3_1 : (tagB (kK p b z) [115,108,111,116] 0 (wrapD (kK p b z) [115,108,111,116] 0 x)).length = 32 := (tagB_len (kK p b z) [115,108,111,116] 0 (wrapD (kK p b z) [115,108,111,116] 0 x))
        refine vg [[.bool true],[.int .i64 z],bv b,([bv (wrapD (kK p b z) [115,108,111,116] 0 x),bv (tagB (kK p b z) [115,108,111,116] 0 (wrapD (kK p b z) [115,108,111,116] 0 x))] : List (List Value)).flatten] hE rfl zero36 (by kernel_rfl) fpl36 (by first | (simp [PartsOk,Value.cells,hbd73_2_0,hbd73_3_0,hbd73_3_1];done) | (simp [PartsOk,Value.cells,hbd73_2_0,hbd73_3_0,hbd73_3_1];omega)) rfl fun a hE=>?_
        replace hE := hE.cast 73 rfl (show _ = Value.agg ([[.bool true],[.int .i64 z],bv b,bv (wrapD (kK p b z) [115,108,111,116] 0 x),bv (tagB (kK p b z) [115,108,111,116] 0 (wrapD (kK p b z) [115,108,111,116] 0 x))] : List (List Value)).flatten.toArray from (by first | rfl | simp [setAll] | (simp only [setAll,List.set_cons_zero,List.set_cons_succ,List.flatten_cons,List.flatten_nil,List.append_nil,List.append_assoc,List.replicate_succ,List.replicate_zero])))
        refine qp (j := 1) hE rfl rfl arr37 rfl (by decide) rfl fun a hE=>?_
        refine qa (qh (o_fl rfl (qa (qh (o_cut (fun b => b = b5) ?_)))))
        refine o_or rfl ?_ ?_
        ·have hsl1357_2 : b.length = 16 := hl_b
         have hsl1357_3 : (wrapD (kK p b z) [115,108,111,116] 0 x).length = 32 := (wrapD_len (k := (kK p b z)) (l := [115,108,111,116]) (n := 0) (x := x) (by have hl_ax : x.length = 32 := hl_x;first | assumption | (simp;done)))
         have hsl1357_4 : (tagB (kK p b z) [115,108,111,116] 0 (wrapD (kK p b z) [115,108,111,116] 0 x)).length = 32 := (tagB_len (kK p b z) [115,108,111,116] 0 (wrapD (kK p b z) [115,108,111,116] 0 x))
         replace hM : Mem _ _ w13 [_,_,_,_] := hM.pick [3,0,1,2] rfl
         refine qq 15 5 (vss := [[.bool true],[.int .i64 z],bv b,bv (wrapD (kK p b z) [115,108,111,116] 0 x),bv (tagB (kK p b z) [115,108,111,116] 0 (wrapD (kK p b z) [115,108,111,116] 0 x))]) hE rfl rfl hM rfl sz36 (by simp only [List.take_succ_cons,List.take_zero,List.drop_zero,List.drop_succ_cons];simp only [List.map_cons,List.map_nil,vj,List.length_cons,List.length_nil,List.length_replicate,hsl1357_2,hsl1357_3,hsl1357_4]) (by decide) rfl (one_fl ⟨one1 rfl,one1 rfl,ve _,ve _,ve _,trivial⟩) rfl (by intro X h;cases h;rfl) fun w14 hM=>?_
         try simp only [List.take_zero,List.take_succ_cons,List.drop_zero,List.drop_succ_cons,List.take_nil,List.drop_nil,List.nil_append,List.append_nil,List.cons_append] at hM
         refine qa (qh (o_cut (fun _ => True) (o_re (vc (fun _ => False) (fun _ _ => trivial) (va rfl rfl (qa (q_ph (qa (K11 (ww1 fun _ K12=>wpp (ql hE rfl (hM.get 0 rfl) row39 rfl (by intro X h;cases h) rfl fun a hE=>?_)))))))))))
         replace hE := hE.cast 76 rfl (show _ = Value.agg ([[.int .i64 h.m],[.int .i64 h.r],[.bool h.v0.1],[.int .u64 ((h.v0.2.1 : Nat) : Int)],bv h.v0.2.2.1,bv h.v0.2.2.2,[.bool h.v1.1],[.int .u64 ((h.v1.2.1 : Nat) : Int)],bv h.v1.2.2.1,bv h.v1.2.2.2,[.bool h.s0.1],[.int .i64 h.s0.2.1],bv h.s0.2.2.1,bv h.s0.2.2.2.1,bv h.s0.2.2.2.2,[.bool true],[.int .i64 z],bv b,bv (wrapD (kK p b z) [115,108,111,116] 0 x),bv (tagB (kK p b z) [115,108,111,116] 0 (wrapD (kK p b z) [115,108,111,116] 0 x)),[.bool h.s2.1],[.int .i64 h.s2.2.1],bv h.s2.2.2.1,bv h.s2.2.2.2.1,bv h.s2.2.2.2.2,[.bool h.s3.1],[.int .i64 h.s3.2.1],bv h.s3.2.2.1,bv h.s3.2.2.2.1,bv h.s3.2.2.2.2] : List (List Value)).flatten.toArray from (by first | (simp only [List.flatten_cons,List.flatten_nil,List.append_nil,List.append_assoc];done) | rfl))
         refine sm hE rfl fun a hE=>?_
         have hsl1376_4 : h.v0.2.2.1.length = 32 := hk_h.v0.2.1
         have hsl1376_5 : h.v0.2.2.2.length = 32 := hk_h.v0.2.2
         have hsl1376_8 : h.v1.2.2.1.length = 32 := hk_h.v1.2.1
         have hsl1376_9 : h.v1.2.2.2.length = 32 := hk_h.v1.2.2
         have hsl1376_12 : h.s0.2.2.1.length = 16 := hk_h.s0.2.1
         have hsl1376_13 : h.s0.2.2.2.1.length = 32 := hk_h.s0.2.2.1
         have hsl1376_14 : h.s0.2.2.2.2.length = 32 := hk_h.s0.2.2.2
         have hsl1376_17 : b.length = 16 := hl_b
         have hsl1376_18 : (wrapD (kK p b z) [115,108,111,116] 0 x).length = 32 := (wrapD_len (k := (kK p b z)) (l := [115,108,111,116]) (n := 0) (x := x) (by have hl_ax : x.length = 32 := hl_x;first | assumption | (simp;done)))
         have hsl1376_19 : (tagB (kK p b z) [115,108,111,116] 0 (wrapD (kK p b z) [115,108,111,116] 0 x)).length = 32 := (tagB_len (kK p b z) [115,108,111,116] 0 (wrapD (kK p b z) [115,108,111,116] 0 x))
         have hsl1376_22 : h.s2.2.2.1.length = 16 := hk_h.s2.2.1
         have hsl1376_23 : h.s2.2.2.2.1.length = 32 := hk_h.s2.2.2.1
         have hsl1376_24 : h.s2.2.2.2.2.length = 32 := hk_h.s2.2.2.2
         have hsl1376_27 : h.s3.2.2.1.length = 16 := hk_h.s3.2.1
         have hsl1376_28 : h.s3.2.2.2.1.length = 32 := hk_h.s3.2.2.1
         have hsl1376_29 : h.s3.2.2.2.2.length = 32 := hk_h.s3.2.2.2
         replace hM : Mem _ _ w14 [_,_,_,_] := hM.pick [1,0,2,3] rfl
         refine qq 0 30 (vss := [[.int .i64 h.m],[.int .i64 h.r],[.bool h.v0.1],[.int .u64 ((h.v0.2.1 : Nat) : Int)],bv h.v0.2.2.1,bv h.v0.2.2.2,[.bool h.v1.1],[.int .u64 ((h.v1.2.1 : Nat) : Int)],bv h.v1.2.2.1,bv h.v1.2.2.2,[.bool h.s0.1],[.int .i64 h.s0.2.1],bv h.s0.2.2.1,bv h.s0.2.2.2.1,bv h.s0.2.2.2.2,[.bool true],[.int .i64 z],bv b,bv (wrapD (kK p b z) [115,108,111,116] 0 x),bv (tagB (kK p b z) [115,108,111,116] 0 (wrapD (kK p b z) [115,108,111,116] 0 x)),[.bool h.s2.1],[.int .i64 h.s2.2.1],bv h.s2.2.2.1,bv h.s2.2.2.2.1,bv h.s2.2.2.2.2,[.bool h.s3.1],[.int .i64 h.s3.2.1],bv h.s3.2.2.1,bv h.s3.2.2.2.1,bv h.s3.2.2.2.2]) hE rfl rfl hM rfl sz39 (by simp only [List.take_succ_cons,List.take_zero,List.drop_zero,List.drop_succ_cons];simp only [List.map_cons,List.map_nil,vj,List.length_cons,List.length_nil,List.length_replicate,hsl1376_4,hsl1376_5,hsl1376_8,hsl1376_9,hsl1376_12,hsl1376_13,hsl1376_14,hsl1376_17,hsl1376_18,hsl1376_19,hsl1376_22,hsl1376_23,hsl1376_24,hsl1376_27,hsl1376_28,hsl1376_29]) (by decide) rfl (one_fl ⟨one1 rfl,one1 rfl,one1 rfl,one1 rfl,ve _,ve _,one1 rfl,one1 rfl,ve _,ve _,one1 rfl,one1 rfl,ve _,ve _,ve _,one1 rfl,one1 rfl,ve _,ve _,ve _,one1 rfl,one1 rfl,ve _,ve _,ve _,one1 rfl,one1 rfl,ve _,ve _,ve _,trivial⟩) rfl (by intro X h;cases h) fun w15 hM=>?_
         try simp only [List.take_zero,List.take_succ_cons,List.drop_zero,List.drop_succ_cons,List.take_nil,List.drop_nil,List.nil_append,List.append_nil,List.cons_append] at hM
         exact sas hE rfl fun a hE=>sas hE rfl fun a hE=>qa (K12 (wp_ret (qk hE rfl (res_cellN rfl (hM.get 0 rfl) row39 rfl) rfl rfl ⟨(by rw [e1];simp only [setS,newS,zH,zV,zS,slotT,List.flatten_cons,List.flatten_nil,List.append_nil,List.append_assoc,List.cons_append,List.nil_append];try rfl),hM.pick [] rfl⟩)))
        trivial
       trivial
      trivial
     ·replace hE := hE.cast 13 rfl (show _ = Value.int .i64 2 from congrArg (Value.int .i64) ((atI_free h).trans hfr))
      replace hE := hE.cast 61 rfl (show _ = Value.int .i64 2 from congrArg (Value.int .i64) ((atI_free h).trans hfr))
      have e1 : addS h x p b z = (setS h 2 (newS p b z x),2,0) := add_in (j := 2) hmay hkz hth hfr
      refine sb hE rfl rfl bin_lss fun a hE=>?_
      replace hE := hE.cast 62 rfl (show _ = Value.bool false from (congrArg Value.bool (by decide)))
      refine qa (K10 (wcf hE rfl (wp_skip (K9 (ww1 fun _ K11=>qz hM (by kernel_rfl) (fun _ => True) (fun _ => True) (.re [(0,true),(1,true),(3,true),(5,true),(10,true),(2,true),(4,true),(7,true),(6,false),(8,false),(9,true),(11,true),(12,false)] (.fl 5 (.weak (.fl 3 (.or 6 (.re [(8,false),(9,true),(11,true),(12,false)] (.fl 0 (.fl 0 (.or 8 (.re [(9,true),(11,true),(12,false)] (.fl 2 (.fl 0 (.cut (.or 12 (.cut (.re [] (.weak (.leaf 0)))) (.stop)))))) (.stop))))) (.stop)))))) [(0,true),(1,true),(3,true),(5,true),(10,true),(2,true),(4,true),(7,true),(6,false),(8,false),(9,true),(11,true),(12,false)] [(2,[(9,2),(11,2),(12,2)]),(4,[(6,4),(8,6),(9,8),(11,4),(12,4)]),(6,[(8,6),(9,8),(11,6),(12,6)]),(7,[(8,7),(9,8),(11,7),(12,7)]),(8,[(9,8),(11,8),(12,8)]),(9,[(11,9),(12,9)]),(10,[(11,10),(12,11)]),(11,[(12,11)]),(12,[])] (by kernel_rfl) ?_)))))
      intro w11 hM' hww11;replace hM := hM'
      refine o_re (o_fl rfl (sm hE rfl fun a hE=>sm hE rfl fun a hE=>sm hE rfl fun a hE=>sm hE rfl fun a hE=>sf hE rfl fo39_2 fun a hE=>qa (qh (vc (fun _ => False) (fun _ _ => trivial) (o_fl rfl ?_)))))
      refine ql hE rfl (hM.get 1 rfl) row34 rfl (by intro X h;cases h;simp) rfl fun a hE=>?_
      refine ql hE rfl (hM.get 1 rfl) row34 rfl (by intro X h;cases h;simp) rfl fun a hE=>?_
      refine ql hE rfl (hM.get 2 rfl) row26 rfl (by intro X h;cases h;simp) rfl fun a hE=>?_
      refine qa (qh ?_)
      refine o_or rfl ?_ ?_
      ·refine qn hE rfl Tryz.call19 (rkey25_c p b z _ hl_b (by have hl_1 : b.length = 16 := hl_b;first | omega | assumption | (simp;done) | (simp;omega) | decide) (by have hl_1 : b.length = 16 := hl_b;first | omega | assumption | (simp;done) | (simp;omega) | decide)) rfl ?_
       rintro e w12 ⟨rfl,hN⟩
       refine ⟨_,rfl,hN.sta0 _,fun a hE=>?_⟩
       replace hM : Mem _ _ w12 [_,_,_,_] := hM.call0 hN trivial;clear hN
       refine qa (qh (o_re (o_fl rfl (qa (qh (o_fl rfl (qa (qh ?_))))))))
       refine o_or rfl ?_ ?_
       ·refine qn hE rfl Tryz.call18 (rwrap_c (kK p b z) [115,108,111,116] 0 x _ (vh p b z) hl_x (by have hl_0 : (kK p b z).length = 32 := (vh p b z);have hl_1 : [115,108,111,116].length = 4 := (by first | (simp;done) | (simp [*];done) | (simp;omega));have hl_3 : x.length = 32 := hl_x;first | omega | assumption | (simp;done) | (simp;omega) | decide) (by have hl_0 : (kK p b z).length = 32 := (vh p b z);have hl_1 : [115,108,111,116].length = 4 := (by first | (simp;done) | (simp [*];done) | (simp;omega));have hl_3 : x.length = 32 := hl_x;first | omega | assumption | (simp;done) | (simp;omega) | decide)) rfl ?_
        rintro e w13 ⟨rfl,hN⟩
        refine ⟨_,rfl,hN.sta0 _,fun a hE=>?_⟩
        replace hM : Mem _ _ w13 [_,_,_,_] := hM.call0 hN trivial;clear hN
        refine qa (qh (o_re (o_fl rfl ?_)))
        have hbd73_2_0 : b.length = 16 := hl_b
        have hbd73_3_0 : (wrapD (kK p b z) [115,108,111,116] 0 x).length = 32 := (wrapD_len (k := (kK p b z)) (l := [115,108,111,116]) (n := 0) (x := x) (by have hl_ax : x.length = 32 := hl_x;first | assumption | (simp;done)))
        have hbd73_3_1 : (tagB (kK p b z) [115,108,111,116] 0 (wrapD (kK p b z) [115,108,111,116] 0 x)).length = 32 := (tagB_len (kK p b z) [115,108,111,116] 0 (wrapD (kK p b z) [115,108,111,116] 0 x))
        refine vg [[.bool true],[.int .i64 z],bv b,([bv (wrapD (kK p b z) [115,108,111,116] 0 x),bv (tagB (kK p b z) [115,108,111,116] 0 (wrapD (kK p b z) [115,108,111,116] 0 x))] : List (List Value)).flatten] hE rfl zero36 (by kernel_rfl) fpl36 (by first | (simp [PartsOk,Value.cells,hbd73_2_0,hbd73_3_0,hbd73_3_1];done) | (simp [PartsOk,Value.cells,hbd73_2_0,hbd73_3_0,hbd73_3_1];omega)) rfl fun a hE=>?_
        replace hE := hE.cast 73 rfl (show _ = Value.agg ([[.bool true],[.int .i64 z],bv b,bv (wrapD (kK p b z) [115,108,111,116] 0 x),bv (tagB (kK p b z) [115,108,111,116] 0 (wrapD (kK p b z) [115,108,111,116] 0 x))] : List (List Value)).flatten.toArray from (by first | rfl | simp [setAll] | (simp only [setAll,List.set_cons_zero,List.set_cons_succ,List.flatten_cons,List.flatten_nil,List.append_nil,List.append_assoc,List.replicate_succ,List.replicate_zero])))
        refine qp (j := 2) hE rfl rfl arr37 rfl (by decide) rfl fun a hE=>?_
        refine qa (qh (o_fl rfl (qa (qh (o_cut (fun b => b = b5) ?_)))))
        refine o_or rfl ?_ ?_
        ·have hsl1464_2 : b.length = 16 := hl_b
         have hsl1464_3 : (wrapD (kK p b z) [115,108,111,116] 0 x).length = 32 := (wrapD_len (k := (kK p b z)) (l := [115,108,111,116]) (n := 0) (x := x) (by have hl_ax : x.length = 32 := hl_x;first | assumption | (simp;done)))
         have hsl1464_4 : (tagB (kK p b z) [115,108,111,116] 0 (wrapD (kK p b z) [115,108,111,116] 0 x)).length = 32 := (tagB_len (kK p b z) [115,108,111,116] 0 (wrapD (kK p b z) [115,108,111,116] 0 x))
         replace hM : Mem _ _ w13 [_,_,_,_] := hM.pick [3,0,1,2] rfl
         refine qq 20 5 (vss := [[.bool true],[.int .i64 z],bv b,bv (wrapD (kK p b z) [115,108,111,116] 0 x),bv (tagB (kK p b z) [115,108,111,116] 0 (wrapD (kK p b z) [115,108,111,116] 0 x))]) hE rfl rfl hM rfl sz36 (by simp only [List.take_succ_cons,List.take_zero,List.drop_zero,List.drop_succ_cons];simp only [List.map_cons,List.map_nil,vj,List.length_cons,List.length_nil,List.length_replicate,hsl1464_2,hsl1464_3,hsl1464_4]) (by decide) rfl (one_fl ⟨one1 rfl,one1 rfl,ve _,ve _,ve _,trivial⟩) rfl (by intro X h;cases h;rfl) fun w14 hM=>?_
         try simp only [List.take_zero,List.take_succ_cons,List.drop_zero,List.drop_succ_cons,List.take_nil,List.drop_nil,List.nil_append,List.append_nil,List.cons_append] at hM
         refine qa (qh (o_cut (fun _ => True) (o_re (vc (fun _ => False) (fun _ _ => trivial) (va rfl rfl (qa (q_ph (qa (K11 (ww1 fun _ K12=>wpp (ql hE rfl (hM.get 0 rfl) row39 rfl (by intro X h;cases h) rfl fun a hE=>?_)))))))))))
         replace hE := hE.cast 76 rfl (show _ = Value.agg ([[.int .i64 h.m],[.int .i64 h.r],[.bool h.v0.1],[.int .u64 ((h.v0.2.1 : Nat) : Int)],bv h.v0.2.2.1,bv h.v0.2.2.2,[.bool h.v1.1],[.int .u64 ((h.v1.2.1 : Nat) : Int)],bv h.v1.2.2.1,bv h.v1.2.2.2,[.bool h.s0.1],[.int .i64 h.s0.2.1],bv h.s0.2.2.1,bv h.s0.2.2.2.1,bv h.s0.2.2.2.2,[.bool h.s1.1],[.int .i64 h.s1.2.1],bv h.s1.2.2.1,bv h.s1.2.2.2.1,bv h.s1.2.2.2.2,[.bool true],[.int .i64 z],bv b,bv (wrapD (kK p b z) [115,108,111,116] 0 x),bv (tagB (kK p b z) [115,108,111,116] 0 (wrapD (kK p b z) [115,108,111,116] 0 x)),[.bool h.s3.1],[.int .i64 h.s3.2.1],bv h.s3.2.2.1,bv h.s3.2.2.2.1,bv h.s3.2.2.2.2] : List (List Value)).flatten.toArray from (by first | (simp only [List.flatten_cons,List.flatten_nil,List.append_nil,List.append_assoc];done) | rfl))
         refine sm hE rfl fun a hE=>?_
         have hsl1483_4 : h.v0.2.2.1.length = 32 := hk_h.v0.2.1
         have hsl1483_5 : h.v0.2.2.2.length = 32 := hk_h.v0.2.2
         have hsl1483_8 : h.v1.2.2.1.length = 32 := hk_h.v1.2.1
         have hsl1483_9 : h.v1.2.2.2.length = 32 := hk_h.v1.2.2
         have hsl1483_12 : h.s0.2.2.1.length = 16 := hk_h.s0.2.1
         have hsl1483_13 : h.s0.2.2.2.1.length = 32 := hk_h.s0.2.2.1
         have hsl1483_14 : h.s0.2.2.2.2.length = 32 := hk_h.s0.2.2.2
         have hsl1483_17 : h.s1.2.2.1.length = 16 := hk_h.s1.2.1
         have hsl1483_18 : h.s1.2.2.2.1.length = 32 := hk_h.s1.2.2.1
         have hsl1483_19 : h.s1.2.2.2.2.length = 32 := hk_h.s1.2.2.2
         have hsl1483_22 : b.length = 16 := hl_b
         have hsl1483_23 : (wrapD (kK p b z) [115,108,111,116] 0 x).length = 32 := (wrapD_len (k := (kK p b z)) (l := [115,108,111,116]) (n := 0) (x := x) (by have hl_ax : x.length = 32 := hl_x;first | assumption | (simp;done)))
         have hsl1483_24 : (tagB (kK p b z) [115,108,111,116] 0 (wrapD (kK p b z) [115,108,111,116] 0 x)).length = 32 := (tagB_len (kK p b z) [115,108,111,116] 0 (wrapD (kK p b z) [115,108,111,116] 0 x))
         have hsl1483_27 : h.s3.2.2.1.length = 16 := hk_h.s3.2.1
         have hsl1483_28 : h.s3.2.2.2.1.length = 32 := hk_h.s3.2.2.1
         have hsl1483_29 : h.s3.2.2.2.2.length = 32 := hk_h.s3.2.2.2
         replace hM : Mem _ _ w14 [_,_,_,_] := hM.pick [1,0,2,3] rfl
         refine qq 0 30 (vss := [[.int .i64 h.m],[.int .i64 h.r],[.bool h.v0.1],[.int .u64 ((h.v0.2.1 : Nat) : Int)],bv h.v0.2.2.1,bv h.v0.2.2.2,[.bool h.v1.1],[.int .u64 ((h.v1.2.1 : Nat) : Int)],bv h.v1.2.2.1,bv h.v1.2.2.2,[.bool h.s0.1],[.int .i64 h.s0.2.1],bv h.s0.2.2.1,bv h.s0.2.2.2.1,bv h.s0.2.2.2.2,[.bool h.s1.1],[.int .i64 h.s1.2.1],bv h.s1.2.2.1,bv h.s1.2.2.2.1,bv h.s1.2.2.2.2,[.bool true],[.int .i64 z],bv b,bv (wrapD (kK p b z) [115,108,111,116] 0 x),bv (tagB (kK p b z) [115,108,111,116] 0 (wrapD (kK p b z) [115,108,111,116] 0 x)),[.bool h.s3.1],[.int .i64 h.s3.2.1],bv h.s3.2.2.1,bv h.s3.2.2.2.1,bv h.s3.2.2.2.2]) hE rfl rfl hM rfl sz39 (by simp only [List.take_succ_cons,List.take_zero,List.drop_zero,List.drop_succ_cons];simp only [List.map_cons,List.map_nil,vj,List.length_cons,List.length_nil,List.length_replicate,hsl1483_4,hsl1483_5,hsl1483_8,hsl1483_9,hsl1483_12,hsl1483_13,hsl1483_14,hsl1483_17,hsl1483_18,hsl1483_19,hsl1483_22,hsl1483_23,hsl1483_24,hsl1483_27,hsl1483_28,hsl1483_29]) (by decide) rfl (one_fl ⟨one1 rfl,one1 rfl,one1 rfl,one1 rfl,ve _,ve _,one1 rfl,one1 rfl,ve _,ve _,one1 rfl,one1 rfl,ve _,ve _,ve _,one1 rfl,one1 rfl,ve _,ve _,ve _,one1 rfl,one1 rfl,ve _,ve _,ve _,one1 rfl,one1 rfl,ve _,ve _,ve _,trivial⟩) rfl (by intro X h;cases h) fun w15 hM=>?_
         try simp only [List.take_zero,List.take_succ_cons,List.drop_zero,List.drop_succ_cons,List.take_nil,List.drop_nil,List.nil_append,List.append_nil,List.cons_append] at hM
         exact sas hE rfl fun a hE=>sas hE rfl fun a hE=>qa (K12 (wp_ret (qk hE rfl (res_cellN rfl (hM.get 0 rfl) row39 rfl) rfl rfl ⟨(by rw [e1];simp only [setS,newS,zH,zV,zS,slotT,List.flatten_cons,List.flatten_nil,List.append_nil,List.append_assoc,List.cons_append,List.nil_append];try rfl),hM.pick [] rfl⟩)))
        trivial
       trivial
      trivial
     ·replace hE := hE.cast 13 rfl (show _ = Value.int .i64 3 from congrArg (Value.int .i64) ((atI_free h).trans hfr))
      replace hE := hE.cast 61 rfl (show _ = Value.int .i64 3 from congrArg (Value.int .i64) ((atI_free h).trans hfr))
      have e1 : addS h x p b z = (setS h 3 (newS p b z x),3,0) := add_in (j := 3) hmay hkz hth hfr
      refine sb hE rfl rfl bin_lss fun a hE=>?_
      replace hE := hE.cast 62 rfl (show _ = Value.bool false from (congrArg Value.bool (by decide)))
      refine qa (K10 (wcf hE rfl (wp_skip (K9 (ww1 fun _ K11=>qz hM (by kernel_rfl) (fun _ => True) (fun _ => True) (.re [(0,true),(1,true),(3,true),(5,true),(10,true),(2,true),(4,true),(7,true),(6,false),(8,false),(9,true),(11,true),(12,false)] (.fl 5 (.weak (.fl 3 (.or 6 (.re [(8,false),(9,true),(11,true),(12,false)] (.fl 0 (.fl 0 (.or 8 (.re [(9,true),(11,true),(12,false)] (.fl 2 (.fl 0 (.cut (.or 12 (.cut (.re [] (.weak (.leaf 0)))) (.stop)))))) (.stop))))) (.stop)))))) [(0,true),(1,true),(3,true),(5,true),(10,true),(2,true),(4,true),(7,true),(6,false),(8,false),(9,true),(11,true),(12,false)] [(2,[(9,2),(11,2),(12,2)]),(4,[(6,4),(8,6),(9,8),(11,4),(12,4)]),(6,[(8,6),(9,8),(11,6),(12,6)]),(7,[(8,7),(9,8),(11,7),(12,7)]),(8,[(9,8),(11,8),(12,8)]),(9,[(11,9),(12,9)]),(10,[(11,10),(12,11)]),(11,[(12,11)]),(12,[])] (by kernel_rfl) ?_)))))
      intro w11 hM' hww11;replace hM := hM'
      refine o_re (o_fl rfl (sm hE rfl fun a hE=>sm hE rfl fun a hE=>sm hE rfl fun a hE=>sm hE rfl fun a hE=>sf hE rfl fo39_2 fun a hE=>qa (qh (vc (fun _ => False) (fun _ _ => trivial) (o_fl rfl ?_)))))
      refine ql hE rfl (hM.get 1 rfl) row34 rfl (by intro X h;cases h;simp) rfl fun a hE=>?_
      refine ql hE rfl (hM.get 1 rfl) row34 rfl (by intro X h;cases h;simp) rfl fun a hE=>?_
      refine ql hE rfl (hM.get 2 rfl) row26 rfl (by intro X h;cases h;simp) rfl fun a hE=>?_
      refine qa (qh ?_)
      refine o_or rfl ?_ ?_
      ·refine qn hE rfl Tryz.call19 (rkey25_c p b z _ hl_b (by have hl_1 : b.length = 16 := hl_b;first | omega | assumption | (simp;done) | (simp;omega) | decide) (by have hl_1 : b.length = 16 := hl_b;first | omega | assumption | (simp;done) | (simp;omega) | decide)) rfl ?_
       rintro e w12 ⟨rfl,hN⟩
       refine ⟨_,rfl,hN.sta0 _,fun a hE=>?_⟩
       replace hM : Mem _ _ w12 [_,_,_,_] := hM.call0 hN trivial;clear hN
       refine qa (qh (o_re (o_fl rfl (qa (qh (o_fl rfl (qa (qh ?_))))))))
       refine o_or rfl ?_ ?_
       ·refine qn hE rfl Tryz.call18 (rwrap_c (kK p b z) [115,108,111,116] 0 x _ (vh p b z) hl_x (by have hl_0 : (kK p b z).length = 32 := (vh p b z);have hl_1 : [115,108,111,116].length = 4 := (by first | (simp;done) | (simp [*];done) | (simp;omega));have hl_3 : x.length = 32 := hl_x;first | omega | assumption | (simp;done) | (simp;omega) | decide) (by have hl_0 : (kK p b z).length = 32 := (vh p b z);have hl_1 : [115,108,111,116].length = 4 := (by first | (simp;done) | (simp [*];done) | (simp;omega));have hl_3 : x.length = 32 := hl_x;first | omega | assumption | (simp;done) | (simp;omega) | decide)) rfl ?_
        rintro e w13 ⟨rfl,hN⟩
        refine ⟨_,rfl,hN.sta0 _,fun a hE=>?_⟩
        replace hM : Mem _ _ w13 [_,_,_,_] := hM.call0 hN trivial;clear hN
        refine qa (qh (o_re (o_fl rfl ?_)))
        have hbd73_2_0 : b.length = 16 := hl_b
        have hbd73_3_0 : (wrapD (kK p b z) [115,108,111,116] 0 x).length = 32 := (wrapD_len (k := (kK p b z)) (l := [115,108,111,116]) (n := 0) (x := x) (by have hl_ax : x.length = 32 := hl_x;first | assumption | (simp;done)))
        have hbd73_3_1 : (tagB (kK p b z) [115,108,111,116] 0 (wrapD (kK p b z) [115,108,111,116] 0 x)).length = 32 := (tagB_len (kK p b z) [115,108,111,116] 0 (wrapD (kK p b z) [115,108,111,116] 0 x))
        refine vg [[.bool true],[.int .i64 z],bv b,([bv (wrapD (kK p b z) [115,108,111,116] 0 x),bv (tagB (kK p b z) [115,108,111,116] 0 (wrapD (kK p b z) [115,108,111,116] 0 x))] : List (List Value)).flatten] hE rfl zero36 (by kernel_rfl) fpl36 (by first | (simp [PartsOk,Value.cells,hbd73_2_0,hbd73_3_0,hbd73_3_1];done) | (simp [PartsOk,Value.cells,hbd73_2_0,hbd73_3_0,hbd73_3_1];omega)) rfl fun a hE=>?_
        replace hE := hE.cast 73 rfl (show _ = Value.agg ([[.bool true],[.int .i64 z],bv b,bv (wrapD (kK p b z) [115,108,111,116] 0 x),bv (tagB (kK p b z) [115,108,111,116] 0 (wrapD (kK p b z) [115,108,111,116] 0 x))] : List (List Value)).flatten.toArray from (by first | rfl | simp [setAll] | (simp only [setAll,List.set_cons_zero,List.set_cons_succ,List.flatten_cons,List.flatten_nil,List.append_nil,List.append_assoc,List.replicate_succ,List.replicate_zero])))
        refine qp (j := 3) hE rfl rfl arr37 rfl (by decide) rfl fun a hE=>?_
        refine qa (qh (o_fl rfl (qa (qh (o_cut (fun b => b = b5) ?_)))))
        refine o_or rfl ?_ ?_
        ·have hsl1571_2 : b.length = 16 := hl_b
         have hsl1571_3 : (wrapD (kK p b z) [115,108,111,116] 0 x).length = 32 := (wrapD_len (k := (kK p b z)) (l := [115,108,111,116]) (n := 0) (x := x) (by have hl_ax : x.length = 32 := hl_x;first | assumption | (simp;done)))
         have hsl1571_4 : (tagB (kK p b z) [115,108,111,116] 0 (wrapD (kK p b z) [115,108,111,116] 0 x)).length = 32 := (tagB_len (kK p b z) [115,108,111,116] 0 (wrapD (kK p b z) [115,108,111,116] 0 x))
         replace hM : Mem _ _ w13 [_,_,_,_] := hM.pick [3,0,1,2] rfl
         refine qq 25 5 (vss := [[.bool true],[.int .i64 z],bv b,bv (wrapD (kK p b z) [115,108,111,116] 0 x),bv (tagB (kK p b z) [115,108,111,116] 0 (wrapD (kK p b z) [115,108,111,116] 0 x))]) hE rfl rfl hM rfl sz36 (by simp only [List.take_succ_cons,List.take_zero,List.drop_zero,List.drop_succ_cons];simp only [List.map_cons,List.map_nil,vj,List.length_cons,List.length_nil,List.length_replicate,hsl1571_2,hsl1571_3,hsl1571_4]) (by decide) rfl (one_fl ⟨one1 rfl,one1 rfl,ve _,ve _,ve _,trivial⟩) rfl (by intro X h;cases h;rfl) fun w14 hM=>?_
         try simp only [List.take_zero,List.take_succ_cons,List.drop_zero,List.drop_succ_cons,List.take_nil,List.drop_nil,List.nil_append,List.append_nil,List.cons_append] at hM
         refine qa (qh (o_cut (fun _ => True) (o_re (vc (fun _ => False) (fun _ _ => trivial) (va rfl rfl (qa (q_ph (qa (K11 (ww1 fun _ K12=>wpp (ql hE rfl (hM.get 0 rfl) row39 rfl (by intro X h;cases h) rfl fun a hE=>?_)))))))))))
         replace hE := hE.cast 76 rfl (show _ = Value.agg ([[.int .i64 h.m],[.int .i64 h.r],[.bool h.v0.1],[.int .u64 ((h.v0.2.1 : Nat) : Int)],bv h.v0.2.2.1,bv h.v0.2.2.2,[.bool h.v1.1],[.int .u64 ((h.v1.2.1 : Nat) : Int)],bv h.v1.2.2.1,bv h.v1.2.2.2,[.bool h.s0.1],[.int .i64 h.s0.2.1],bv h.s0.2.2.1,bv h.s0.2.2.2.1,bv h.s0.2.2.2.2,[.bool h.s1.1],[.int .i64 h.s1.2.1],bv h.s1.2.2.1,bv h.s1.2.2.2.1,bv h.s1.2.2.2.2,[.bool h.s2.1],[.int .i64 h.s2.2.1],bv h.s2.2.2.1,bv h.s2.2.2.2.1,bv h.s2.2.2.2.2,[.bool true],[.int .i64 z],bv b,bv (wrapD (kK p b z) [115,108,111,116] 0 x),bv (tagB (kK p b z) [115,108,111,116] 0 (wrapD (kK p b z) [115,108,111,116] 0 x))] : List (List Value)).flatten.toArray from (by first | (simp only [List.flatten_cons,List.flatten_nil,List.append_nil,List.append_assoc];done) | rfl))
         refine sm hE rfl fun a hE=>?_
         have hsl1590_4 : h.v0.2.2.1.length = 32 := hk_h.v0.2.1
         have hsl1590_5 : h.v0.2.2.2.length = 32 := hk_h.v0.2.2
         have hsl1590_8 : h.v1.2.2.1.length = 32 := hk_h.v1.2.1
         have hsl1590_9 : h.v1.2.2.2.length = 32 := hk_h.v1.2.2
         have hsl1590_12 : h.s0.2.2.1.length = 16 := hk_h.s0.2.1
         have hsl1590_13 : h.s0.2.2.2.1.length = 32 := hk_h.s0.2.2.1
         have hsl1590_14 : h.s0.2.2.2.2.length = 32 := hk_h.s0.2.2.2
         have hsl1590_17 : h.s1.2.2.1.length = 16 := hk_h.s1.2.1
         have hsl1590_18 : h.s1.2.2.2.1.length = 32 := hk_h.s1.2.2.1
         have hsl1590_19 : h.s1.2.2.2.2.length = 32 := hk_h.s1.2.2.2
         have hsl1590_22 : h.s2.2.2.1.length = 16 := hk_h.s2.2.1
         have hsl1590_23 : h.s2.2.2.2.1.length = 32 := hk_h.s2.2.2.1
         have hsl1590_24 : h.s2.2.2.2.2.length = 32 := hk_h.s2.2.2.2
         have hsl1590_27 : b.length = 16 := hl_b
         have hsl1590_28 : (wrapD (kK p b z) [115,108,111,116] 0 x).length = 32 := (wrapD_len (k := (kK p b z)) (l := [115,108,111,116]) (n := 0) (x := x) (by have hl_ax : x.length = 32 := hl_x;first | assumption | (simp;done)))
         have hsl1590_29 : (tagB (kK p b z) [115,108,111,116] 0 (wrapD (kK p b z) [115,108,111,116] 0 x)).length = 32 := (tagB_len (kK p b z) [115,108,111,116] 0 (wrapD (kK p b z) [115,108,111,116] 0 x))
         replace hM : Mem _ _ w14 [_,_,_,_] := hM.pick [1,0,2,3] rfl
         refine qq 0 30 (vss := [[.int .i64 h.m],[.int .i64 h.r],[.bool h.v0.1],[.int .u64 ((h.v0.2.1 : Nat) : Int)],bv h.v0.2.2.1,bv h.v0.2.2.2,[.bool h.v1.1],[.int .u64 ((h.v1.2.1 : Nat) : Int)],bv h.v1.2.2.1,bv h.v1.2.2.2,[.bool h.s0.1],[.int .i64 h.s0.2.1],bv h.s0.2.2.1,bv h.s0.2.2.2.1,bv h.s0.2.2.2.2,[.bool h.s1.1],[.int .i64 h.s1.2.1],bv h.s1.2.2.1,bv h.s1.2.2.2.1,bv h.s1.2.2.2.2,[.bool h.s2.1],[.int .i64 h.s2.2.1],bv h.s2.2.2.1,bv h.s2.2.2.2.1,bv h.s2.2.2.2.2,[.bool true],[.int .i64 z],bv b,bv (wrapD (kK p b z) [115,108,111,116] 0 x),bv (tagB (kK p b z) [115,108,111,116] 0 (wrapD (kK p b z) [115,108,111,116] 0 x))]) hE rfl rfl hM rfl sz39 (by simp only [List.take_succ_cons,List.take_zero,List.drop_zero,List.drop_succ_cons];simp only [List.map_cons,List.map_nil,vj,List.length_cons,List.length_nil,List.length_replicate,hsl1590_4,hsl1590_5,hsl1590_8,hsl1590_9,hsl1590_12,hsl1590_13,hsl1590_14,hsl1590_17,hsl1590_18,hsl1590_19,hsl1590_22,hsl1590_23,hsl1590_24,hsl1590_27,hsl1590_28,hsl1590_29]) (by decide) rfl (one_fl ⟨one1 rfl,one1 rfl,one1 rfl,one1 rfl,ve _,ve _,one1 rfl,one1 rfl,ve _,ve _,one1 rfl,one1 rfl,ve _,ve _,ve _,one1 rfl,one1 rfl,ve _,ve _,ve _,one1 rfl,one1 rfl,ve _,ve _,ve _,one1 rfl,one1 rfl,ve _,ve _,ve _,trivial⟩) rfl (by intro X h;cases h) fun w15 hM=>?_
         try simp only [List.take_zero,List.take_succ_cons,List.drop_zero,List.drop_succ_cons,List.take_nil,List.drop_nil,List.nil_append,List.append_nil,List.cons_append] at hM
         exact sas hE rfl fun a hE=>sas hE rfl fun a hE=>qa (K12 (wp_ret (qk hE rfl (res_cellN rfl (hM.get 0 rfl) row39 rfl) rfl rfl ⟨(by rw [e1];simp only [setS,newS,zH,zV,zS,slotT,List.flatten_cons,List.flatten_nil,List.append_nil,List.append_assoc,List.cons_append,List.nil_append];try rfl),hM.pick [] rfl⟩)))
        trivial
       trivial
      trivial
end Go.Proofs.YtniekapfoaiieaaGreatDoor
