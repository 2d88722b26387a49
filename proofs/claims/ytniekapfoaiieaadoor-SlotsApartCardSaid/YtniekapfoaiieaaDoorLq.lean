/- Walks of functions of the given program that the claim reaches. -/
import Derived.Test.YtniekapfoaiieaaDoorLm
set_option linter.unusedSimpArgs false
set_option linter.unusedVariables false
namespace Go.Proofs.YtniekapfoaiieaaDoor
open Go Go.Kx
theorem zero52 : Zero Tryd.prog 52 [[.int .i64 0],[.int .i64 0]] := ⟨.agg ([[.int .i64 0],[.int .i64 0]] : List (List Value)).flatten.toArray,by kernel_rfl,by kernel_rfl⟩
theorem fpl52 : fldPl Tryd.prog 52 = some (plc 0 [1,1]) := by kernel_rfl
theorem eqa23 : ∀ {a b : List UInt8},a.length = 32 → b.length = 32 → Bin Tryd.prog .eql 23 (.agg (bv a).toArray) (.agg (bv b).toArray) (.bool (decide (a = b))) ∧ Bin Tryd.prog .neq 23 (.agg (bv a).toArray) (.agg (bv b).toArray) (.bool (!decide (a = b))) := fun ha hb => bins_arr8 Tryd.underlying23 (by kernel_rfl) Tryd.underlying5 (by kernel_rfl) (by kernel_rfl) ha hb
set_option maxRecDepth 20000 in
theorem empty25_c  (w : World)  : Calls Tryd.prog 38 #[] w fun e w' => e = .returned (.agg ([[.int .i64 emptyH.m],[.int .i64 emptyH.r],[.bool emptyH.v0.1],[.int .u64 ((emptyH.v0.2.1 : Nat) : Int)],bv emptyH.v0.2.2.1,bv emptyH.v0.2.2.2,[.bool emptyH.v1.1],[.int .u64 ((emptyH.v1.2.1 : Nat) : Int)],bv emptyH.v1.2.2.1,bv emptyH.v1.2.2.2,[.bool emptyH.s0.1],[.int .i64 emptyH.s0.2.1],bv emptyH.s0.2.2.1,bv emptyH.s0.2.2.2.1,bv emptyH.s0.2.2.2.2,[.bool emptyH.s1.1],[.int .i64 emptyH.s1.2.1],bv emptyH.s1.2.2.1,bv emptyH.s1.2.2.2.1,bv emptyH.s1.2.2.2.2,[.bool emptyH.s2.1],[.int .i64 emptyH.s2.2.1],bv emptyH.s2.2.2.1,bv emptyH.s2.2.2.2.1,bv emptyH.s2.2.2.2.2,[.bool emptyH.s3.1],[.int .i64 emptyH.s3.2.1],bv emptyH.s3.2.2.1,bv emptyH.s3.2.2.2.1,bv emptyH.s3.2.2.2.2] : List (List Value)).flatten.toArray) ∧ Mem w [] w' [] := by
 have hM := Mem.start0 w
 refine ve 3 Tryd.func38 rfl rfl rfl ?_
 intro a hE
 replace hE : Env a 3 [] := hE
 refine ww1 fun _ K1=>wpp (qo [1,1,1,1,32,32,1,1,32,32,1,1,16,32,32,1,1,16,32,32,1,1,16,32,32,1,1,16,32,32] hE hM zeroL62 rfl rfl fun a b0 w1 hE hM=>qa (K1 (ww1 fun _ K2=>wpp (vf [[.int .i64 4],[.int .i64 1]] hE rfl zero52 (by kernel_rfl) fpl52 (by first | (simp [PartsOk,Value.cells];done) | (simp [PartsOk,Value.cells];omega)) rfl fun a hE=>?_))))
 replace hE := hE.cast 1 rfl (show _ = Value.agg ([[.int .i64 4],[.int .i64 1]] : List (List Value)).flatten.toArray from (by first | rfl | simp [setAll] | (simp only [setAll,List.set_cons_zero,List.set_cons_succ,List.flatten_cons,List.flatten_nil,List.append_nil,List.append_assoc,List.replicate_succ,List.replicate_zero])))
 refine vf [([[.int .i64 4],[.int .i64 1]] : List (List Value)).flatten] hE rfl zero62 (by kernel_rfl) fpl62 (by first | (simp [PartsOk,Value.cells];done) | (simp [PartsOk,Value.cells];omega)) rfl fun a hE=>?_
 replace hE := hE.cast 2 rfl (show _ = Value.agg ([[.int .i64 4],[.int .i64 1],[.bool false],[.int .u64 0],bv (List.replicate 32 (0 : UInt8)),bv (List.replicate 32 (0 : UInt8)),[.bool false],[.int .u64 0],bv (List.replicate 32 (0 : UInt8)),bv (List.replicate 32 (0 : UInt8)),[.bool false],[.int .i64 0],bv (List.replicate 16 (0 : UInt8)),bv (List.replicate 32 (0 : UInt8)),bv (List.replicate 32 (0 : UInt8)),[.bool false],[.int .i64 0],bv (List.replicate 16 (0 : UInt8)),bv (List.replicate 32 (0 : UInt8)),bv (List.replicate 32 (0 : UInt8)),[.bool false],[.int .i64 0],bv (List.replicate 16 (0 : UInt8)),bv (List.replicate 32 (0 : UInt8)),bv (List.replicate 32 (0 : UInt8)),[.bool false],[.int .i64 0],bv (List.replicate 16 (0 : UInt8)),bv (List.replicate 32 (0 : UInt8)),bv (List.replicate 32 (0 : UInt8))] : List (List Value)).flatten.toArray from (by first | rfl | simp [setAll] | (simp only [setAll,List.set_cons_zero,List.set_cons_succ,List.flatten_cons,List.flatten_nil,List.append_nil,List.append_assoc,List.replicate_succ,List.replicate_zero])))
 have hsl16_4 : (List.replicate 32 (0 : UInt8)).length = 32 := List.length_replicate
 have hsl16_5 : (List.replicate 32 (0 : UInt8)).length = 32 := List.length_replicate
 have hsl16_8 : (List.replicate 32 (0 : UInt8)).length = 32 := List.length_replicate
 have hsl16_9 : (List.replicate 32 (0 : UInt8)).length = 32 := List.length_replicate
 have hsl16_12 : (List.replicate 16 (0 : UInt8)).length = 16 := List.length_replicate
 have hsl16_13 : (List.replicate 32 (0 : UInt8)).length = 32 := List.length_replicate
 have hsl16_14 : (List.replicate 32 (0 : UInt8)).length = 32 := List.length_replicate
 have hsl16_17 : (List.replicate 16 (0 : UInt8)).length = 16 := List.length_replicate
 have hsl16_18 : (List.replicate 32 (0 : UInt8)).length = 32 := List.length_replicate
 have hsl16_19 : (List.replicate 32 (0 : UInt8)).length = 32 := List.length_replicate
 have hsl16_22 : (List.replicate 16 (0 : UInt8)).length = 16 := List.length_replicate
 have hsl16_23 : (List.replicate 32 (0 : UInt8)).length = 32 := List.length_replicate
 have hsl16_24 : (List.replicate 32 (0 : UInt8)).length = 32 := List.length_replicate
 have hsl16_27 : (List.replicate 16 (0 : UInt8)).length = 16 := List.length_replicate
 have hsl16_28 : (List.replicate 32 (0 : UInt8)).length = 32 := List.length_replicate
 have hsl16_29 : (List.replicate 32 (0 : UInt8)).length = 32 := List.length_replicate
 refine qq 0 30 (vss := [[.int .i64 4],[.int .i64 1],[.bool false],[.int .u64 0],bv (List.replicate 32 (0 : UInt8)),bv (List.replicate 32 (0 : UInt8)),[.bool false],[.int .u64 0],bv (List.replicate 32 (0 : UInt8)),bv (List.replicate 32 (0 : UInt8)),[.bool false],[.int .i64 0],bv (List.replicate 16 (0 : UInt8)),bv (List.replicate 32 (0 : UInt8)),bv (List.replicate 32 (0 : UInt8)),[.bool false],[.int .i64 0],bv (List.replicate 16 (0 : UInt8)),bv (List.replicate 32 (0 : UInt8)),bv (List.replicate 32 (0 : UInt8)),[.bool false],[.int .i64 0],bv (List.replicate 16 (0 : UInt8)),bv (List.replicate 32 (0 : UInt8)),bv (List.replicate 32 (0 : UInt8)),[.bool false],[.int .i64 0],bv (List.replicate 16 (0 : UInt8)),bv (List.replicate 32 (0 : UInt8)),bv (List.replicate 32 (0 : UInt8))]) hE rfl rfl hM rfl sz62 (by simp only [List.take_succ_cons,List.take_zero,List.drop_zero,List.drop_succ_cons];simp only [List.map_cons,List.map_nil,vh,List.length_cons,List.length_nil,List.length_replicate,hsl16_4,hsl16_5,hsl16_8,hsl16_9,hsl16_12,hsl16_13,hsl16_14,hsl16_17,hsl16_18,hsl16_19,hsl16_22,hsl16_23,hsl16_24,hsl16_27,hsl16_28,hsl16_29]) (by decide) rfl (one_fl ⟨one1 rfl,one1 rfl,one1 rfl,one1 rfl,vc _,vc _,one1 rfl,one1 rfl,vc _,vc _,one1 rfl,one1 rfl,vc _,vc _,vc _,one1 rfl,one1 rfl,vc _,vc _,vc _,one1 rfl,one1 rfl,vc _,vc _,vc _,one1 rfl,one1 rfl,vc _,vc _,vc _,trivial⟩) rfl (by intro X h;cases h) fun w2 hM=>?_
 try simp only [List.take_zero,List.take_succ_cons,List.drop_zero,List.drop_succ_cons,List.take_nil,List.drop_nil,List.nil_append,List.append_nil,List.cons_append] at hM
 exact qa (K2 (wp_ret (qi hE rfl (res_cellN rfl (hM.get 0 rfl) row62 rfl) ⟨(by simp only [emptyH,zV,zS];rfl),hM.pick [] rfl⟩)))
theorem two25_c  (w : World) (hG : (glb 1).holds w) (hT : tabP.holds w) : Calls Tryd.prog 34 #[] w fun e w' => e = .returned (.tuple #[.agg ([[.int .i64 h2T.m],[.int .i64 h2T.r],[.bool h2T.v0.1],[.int .u64 ((h2T.v0.2.1 : Nat) : Int)],bv h2T.v0.2.2.1,bv h2T.v0.2.2.2,[.bool h2T.v1.1],[.int .u64 ((h2T.v1.2.1 : Nat) : Int)],bv h2T.v1.2.2.1,bv h2T.v1.2.2.2,[.bool h2T.s0.1],[.int .i64 h2T.s0.2.1],bv h2T.s0.2.2.1,bv h2T.s0.2.2.2.1,bv h2T.s0.2.2.2.2,[.bool h2T.s1.1],[.int .i64 h2T.s1.2.1],bv h2T.s1.2.2.1,bv h2T.s1.2.2.2.1,bv h2T.s1.2.2.2.2,[.bool h2T.s2.1],[.int .i64 h2T.s2.2.1],bv h2T.s2.2.2.1,bv h2T.s2.2.2.2.1,bv h2T.s2.2.2.2.2,[.bool h2T.s3.1],[.int .i64 h2T.s3.2.1],bv h2T.s3.2.2.1,bv h2T.s3.2.2.2.1,bv h2T.s3.2.2.2.2] : List (List Value)).flatten.toArray,.bool true]) ∧ Mem w [] w' [] := by
 have hM : Mem w [] w [glb 1,tabP] := Mem.startR w (fun g hg => by
  simp only [List.mem_cons,List.not_mem_nil,or_false] at hg
  rcases hg with rfl | rfl
  ·exact ⟨hG,rfl⟩
  ·exact ⟨hT,rfl⟩)
 refine ve 39 Tryd.func34 rfl rfl rfl ?_
 intro a hE
 replace hE : Env a 39 [] := hE
 refine ww1 fun _ K1=>wpp (qo [1,1,1,1,32,32,1,1,32,32,1,1,16,32,32,1,1,16,32,32,1,1,16,32,32,1,1,16,32,32] hE hM zeroL62 rfl rfl fun a b0 w1 hE hM=>sas hE rfl fun a hE=>qa (K1 (ww1 fun _ K2=>wpp (qn hE rfl Tryd.call38 (empty25_c  _ ) rfl ?_))))
 rintro e w2 ⟨rfl,hN⟩
 refine ⟨_,rfl,trivial,fun a hE=>?_⟩
 replace hM : Mem _ _ w2 [_,_,_] := hM.call0 hN trivial;clear hN
 refine s_build (r := .agg (bv [7,0,0,0,0,0,0,0,0,0,0,0,0,0,0,0,0,0,0,0,0,0,0,0,0,0,0,0,0,0,0,0]).toArray) _ hE rfl (fun w => by kernel_rfl) rfl fun a hE=>?_
 refine s_build (r := .agg (bv [1,0,0,0,0,0,0,0,0,0,0,0,0,0,0,0]).toArray) _ hE rfl (fun w => by kernel_rfl) rfl fun a hE=>?_
 refine qn hE rfl Tryd.call37 ((by have h := add_c emptyH k7 [97,98] sa1 2 _ (hM.get 1 rfl) (hM.get 2 rfl) emptyH_ok (by decide) (by decide) (by unfold In64;decide);rw [add1T] at h;exact h)) rfl ?_
 rintro e w3 ⟨rfl,hN⟩
 refine ⟨_,rfl,trivial,fun a hE=>?_⟩
 replace hM : Mem _ _ w3 [_,_,_] := hM.call0 hN trivial;clear hN
 refine sm hE rfl fun a hE=>sx hE rfl fun a hE=>sx hE rfl fun a hE=>sx hE rfl fun a hE=>qo [1,1,1,1,32,32,1,1,32,32,1,1,16,32,32,1,1,16,32,32,1,1,16,32,32,1,1,16,32,32] hE hM zeroL62 rfl rfl fun a b2 w4 hE hM=>?_
 have hsl33_4 : h1T.v0.2.2.1.length = 32 := h1T_ok.v0.2.1
 have hsl33_5 : h1T.v0.2.2.2.length = 32 := h1T_ok.v0.2.2
 have hsl33_8 : h1T.v1.2.2.1.length = 32 := h1T_ok.v1.2.1
 have hsl33_9 : h1T.v1.2.2.2.length = 32 := h1T_ok.v1.2.2
 have hsl33_12 : h1T.s0.2.2.1.length = 16 := h1T_ok.s0.2.1
 have hsl33_13 : h1T.s0.2.2.2.1.length = 32 := h1T_ok.s0.2.2.1
 have hsl33_14 : h1T.s0.2.2.2.2.length = 32 := h1T_ok.s0.2.2.2
 have hsl33_17 : h1T.s1.2.2.1.length = 16 := h1T_ok.s1.2.1
 have hsl33_18 : h1T.s1.2.2.2.1.length = 32 := h1T_ok.s1.2.2.1
 have hsl33_19 : h1T.s1.2.2.2.2.length = 32 := h1T_ok.s1.2.2.2
 have hsl33_22 : h1T.s2.2.2.1.length = 16 := h1T_ok.s2.2.1
 have hsl33_23 : h1T.s2.2.2.2.1.length = 32 := h1T_ok.s2.2.2.1
 have hsl33_24 : h1T.s2.2.2.2.2.length = 32 := h1T_ok.s2.2.2.2
 have hsl33_27 : h1T.s3.2.2.1.length = 16 := h1T_ok.s3.2.1
 have hsl33_28 : h1T.s3.2.2.2.1.length = 32 := h1T_ok.s3.2.2.1
 have hsl33_29 : h1T.s3.2.2.2.2.length = 32 := h1T_ok.s3.2.2.2
 refine qq 0 30 (vss := [[.int .i64 h1T.m],[.int .i64 h1T.r],[.bool h1T.v0.1],[.int .u64 ((h1T.v0.2.1 : Nat) : Int)],bv h1T.v0.2.2.1,bv h1T.v0.2.2.2,[.bool h1T.v1.1],[.int .u64 ((h1T.v1.2.1 : Nat) : Int)],bv h1T.v1.2.2.1,bv h1T.v1.2.2.2,[.bool h1T.s0.1],[.int .i64 h1T.s0.2.1],bv h1T.s0.2.2.1,bv h1T.s0.2.2.2.1,bv h1T.s0.2.2.2.2,[.bool h1T.s1.1],[.int .i64 h1T.s1.2.1],bv h1T.s1.2.2.1,bv h1T.s1.2.2.2.1,bv h1T.s1.2.2.2.2,[.bool h1T.s2.1],[.int .i64 h1T.s2.2.1],bv h1T.s2.2.2.1,bv h1T.s2.2.2.2.1,bv h1T.s2.2.2.2.2,[.bool h1T.s3.1],[.int .i64 h1T.s3.2.1],bv h1T.s3.2.2.1,bv h1T.s3.2.2.2.1,bv h1T.s3.2.2.2.2]) hE rfl rfl hM rfl sz62 (by simp only [List.take_succ_cons,List.take_zero,List.drop_zero,List.drop_succ_cons];simp only [List.map_cons,List.map_nil,vh,List.length_cons,List.length_nil,List.length_replicate,hsl33_4,hsl33_5,hsl33_8,hsl33_9,hsl33_12,hsl33_13,hsl33_14,hsl33_17,hsl33_18,hsl33_19,hsl33_22,hsl33_23,hsl33_24,hsl33_27,hsl33_28,hsl33_29]) (by decide) rfl (one_fl ⟨one1 rfl,one1 rfl,one1 rfl,one1 rfl,vc _,vc _,one1 rfl,one1 rfl,vc _,vc _,one1 rfl,one1 rfl,vc _,vc _,vc _,one1 rfl,one1 rfl,vc _,vc _,vc _,one1 rfl,one1 rfl,vc _,vc _,vc _,one1 rfl,one1 rfl,vc _,vc _,vc _,trivial⟩) rfl (by intro X h;cases h) fun w5 hM=>?_
 try simp only [List.take_zero,List.take_succ_cons,List.drop_zero,List.drop_succ_cons,List.take_nil,List.drop_nil,List.nil_append,List.append_nil,List.cons_append] at hM
 refine sas hE rfl fun a hE=>sas hE rfl fun a hE=>qa (K2 (ww1 fun _ K3=>wpp (ql hE rfl (hM.get 0 rfl) row62 rfl (by intro X h;cases h) rfl fun a hE=>?_)))
 replace hE := hE.cast 17 rfl (show _ = Value.agg ([[.int .i64 h1T.m],[.int .i64 h1T.r],[.bool h1T.v0.1],[.int .u64 ((h1T.v0.2.1 : Nat) : Int)],bv h1T.v0.2.2.1,bv h1T.v0.2.2.2,[.bool h1T.v1.1],[.int .u64 ((h1T.v1.2.1 : Nat) : Int)],bv h1T.v1.2.2.1,bv h1T.v1.2.2.2,[.bool h1T.s0.1],[.int .i64 h1T.s0.2.1],bv h1T.s0.2.2.1,bv h1T.s0.2.2.2.1,bv h1T.s0.2.2.2.2,[.bool h1T.s1.1],[.int .i64 h1T.s1.2.1],bv h1T.s1.2.2.1,bv h1T.s1.2.2.2.1,bv h1T.s1.2.2.2.2,[.bool h1T.s2.1],[.int .i64 h1T.s2.2.1],bv h1T.s2.2.2.1,bv h1T.s2.2.2.2.1,bv h1T.s2.2.2.2.2,[.bool h1T.s3.1],[.int .i64 h1T.s3.2.1],bv h1T.s3.2.2.1,bv h1T.s3.2.2.2.1,bv h1T.s3.2.2.2.2] : List (List Value)).flatten.toArray from (by first | rfl | simp only [List.flatten_cons,List.flatten_nil,List.append_nil,List.append_assoc]))
 refine s_build (r := .agg (bv [7,0,0,0,0,0,0,0,0,0,0,0,0,0,0,0,0,0,0,0,0,0,0,0,0,0,0,0,0,0,0,0]).toArray) _ hE rfl (fun w => by kernel_rfl) rfl fun a hE=>?_
 refine s_build (r := .agg (bv [2,0,0,0,0,0,0,0,0,0,0,0,0,0,0,0]).toArray) _ hE rfl (fun w => by kernel_rfl) rfl fun a hE=>?_
 refine qn hE rfl Tryd.call37 ((by have h := add_c h1T k7 [99,100] sa2 1 _ (hM.get 2 rfl) (hM.get 3 rfl) h1T_ok (by decide) (by decide) (by unfold In64;decide);rw [add2T] at h;exact h)) rfl ?_
 rintro e w6 ⟨rfl,hN⟩
 refine ⟨_,rfl,trivial,fun a hE=>?_⟩
 replace hM : Mem _ _ w6 [_,_,_,_] := hM.call0 hN trivial;clear hN
 refine sm hE rfl fun a hE=>sx hE rfl fun a hE=>sx hE rfl fun a hE=>sx hE rfl fun a hE=>qo [1,1,1,1,32,32,1,1,32,32,1,1,16,32,32,1,1,16,32,32,1,1,16,32,32,1,1,16,32,32] hE hM zeroL62 rfl rfl fun a b5 w7 hE hM=>?_
 have hsl72_4 : h2T.v0.2.2.1.length = 32 := h2T_ok.v0.2.1
 have hsl72_5 : h2T.v0.2.2.2.length = 32 := h2T_ok.v0.2.2
 have hsl72_8 : h2T.v1.2.2.1.length = 32 := h2T_ok.v1.2.1
 have hsl72_9 : h2T.v1.2.2.2.length = 32 := h2T_ok.v1.2.2
 have hsl72_12 : h2T.s0.2.2.1.length = 16 := h2T_ok.s0.2.1
 have hsl72_13 : h2T.s0.2.2.2.1.length = 32 := h2T_ok.s0.2.2.1
 have hsl72_14 : h2T.s0.2.2.2.2.length = 32 := h2T_ok.s0.2.2.2
 have hsl72_17 : h2T.s1.2.2.1.length = 16 := h2T_ok.s1.2.1
 have hsl72_18 : h2T.s1.2.2.2.1.length = 32 := h2T_ok.s1.2.2.1
 have hsl72_19 : h2T.s1.2.2.2.2.length = 32 := h2T_ok.s1.2.2.2
 have hsl72_22 : h2T.s2.2.2.1.length = 16 := h2T_ok.s2.2.1
 have hsl72_23 : h2T.s2.2.2.2.1.length = 32 := h2T_ok.s2.2.2.1
 have hsl72_24 : h2T.s2.2.2.2.2.length = 32 := h2T_ok.s2.2.2.2
 have hsl72_27 : h2T.s3.2.2.1.length = 16 := h2T_ok.s3.2.1
 have hsl72_28 : h2T.s3.2.2.2.1.length = 32 := h2T_ok.s3.2.2.1
 have hsl72_29 : h2T.s3.2.2.2.2.length = 32 := h2T_ok.s3.2.2.2
 refine qq 0 30 (vss := [[.int .i64 h2T.m],[.int .i64 h2T.r],[.bool h2T.v0.1],[.int .u64 ((h2T.v0.2.1 : Nat) : Int)],bv h2T.v0.2.2.1,bv h2T.v0.2.2.2,[.bool h2T.v1.1],[.int .u64 ((h2T.v1.2.1 : Nat) : Int)],bv h2T.v1.2.2.1,bv h2T.v1.2.2.2,[.bool h2T.s0.1],[.int .i64 h2T.s0.2.1],bv h2T.s0.2.2.1,bv h2T.s0.2.2.2.1,bv h2T.s0.2.2.2.2,[.bool h2T.s1.1],[.int .i64 h2T.s1.2.1],bv h2T.s1.2.2.1,bv h2T.s1.2.2.2.1,bv h2T.s1.2.2.2.2,[.bool h2T.s2.1],[.int .i64 h2T.s2.2.1],bv h2T.s2.2.2.1,bv h2T.s2.2.2.2.1,bv h2T.s2.2.2.2.2,[.bool h2T.s3.1],[.int .i64 h2T.s3.2.1],bv h2T.s3.2.2.1,bv h2T.s3.2.2.2.1,bv h2T.s3.2.2.2.2]) hE rfl rfl hM rfl sz62 (by simp only [List.take_succ_cons,List.take_zero,List.drop_zero,List.drop_succ_cons];simp only [List.map_cons,List.map_nil,vh,List.length_cons,List.length_nil,List.length_replicate,hsl72_4,hsl72_5,hsl72_8,hsl72_9,hsl72_12,hsl72_13,hsl72_14,hsl72_17,hsl72_18,hsl72_19,hsl72_22,hsl72_23,hsl72_24,hsl72_27,hsl72_28,hsl72_29]) (by decide) rfl (one_fl ⟨one1 rfl,one1 rfl,one1 rfl,one1 rfl,vc _,vc _,one1 rfl,one1 rfl,vc _,vc _,one1 rfl,one1 rfl,vc _,vc _,vc _,one1 rfl,one1 rfl,vc _,vc _,vc _,one1 rfl,one1 rfl,vc _,vc _,vc _,one1 rfl,one1 rfl,vc _,vc _,vc _,trivial⟩) rfl (by intro X h;cases h) fun w8 hM=>?_
 try simp only [List.take_zero,List.take_succ_cons,List.drop_zero,List.drop_succ_cons,List.take_nil,List.drop_nil,List.nil_append,List.append_nil,List.cons_append] at hM
 refine sas hE rfl fun a hE=>sas hE rfl fun a hE=>qa (K3 (ww1 fun _ K4=>wpp (ql hE rfl (hM.get 0 rfl) row62 rfl (by intro X h;cases h) rfl fun a hE=>?_)))
 replace hE := hE.cast 24 rfl (show _ = Value.agg ([[.int .i64 h2T.m],[.int .i64 h2T.r],[.bool h2T.v0.1],[.int .u64 ((h2T.v0.2.1 : Nat) : Int)],bv h2T.v0.2.2.1,bv h2T.v0.2.2.2,[.bool h2T.v1.1],[.int .u64 ((h2T.v1.2.1 : Nat) : Int)],bv h2T.v1.2.2.1,bv h2T.v1.2.2.2,[.bool h2T.s0.1],[.int .i64 h2T.s0.2.1],bv h2T.s0.2.2.1,bv h2T.s0.2.2.2.1,bv h2T.s0.2.2.2.2,[.bool h2T.s1.1],[.int .i64 h2T.s1.2.1],bv h2T.s1.2.2.1,bv h2T.s1.2.2.2.1,bv h2T.s1.2.2.2.2,[.bool h2T.s2.1],[.int .i64 h2T.s2.2.1],bv h2T.s2.2.2.1,bv h2T.s2.2.2.2.1,bv h2T.s2.2.2.2.2,[.bool h2T.s3.1],[.int .i64 h2T.s3.2.1],bv h2T.s3.2.2.1,bv h2T.s3.2.2.2.1,bv h2T.s3.2.2.2.2] : List (List Value)).flatten.toArray from (by first | rfl | simp only [List.flatten_cons,List.flatten_nil,List.append_nil,List.append_assoc]))
 refine sm hE rfl fun a hE=>sb hE rfl rfl bin_eql fun a hE=>?_
 replace hE := hE.cast 26 rfl (show _ = Value.bool true from (congrArg Value.bool (by decide)))
 refine sm hE rfl fun a hE=>gy hE rfl (sm hE rfl fun a hE=>gy hE rfl (sb hE rfl rfl bin_eql fun a hE=>?_))
 replace hE := hE.cast 29 rfl (show _ = Value.bool true from (congrArg Value.bool (by decide)))
 refine pkt hE rfl fun a hE=>sm hE rfl fun a hE=>gy hE rfl (sm hE rfl fun a hE=>gy hE rfl (sb hE rfl rfl bin_eql fun a hE=>?_))
 replace hE := hE.cast 33 rfl (show _ = Value.bool true from (congrArg Value.bool (by decide)))
 refine pkt hE rfl fun a hE=>sm hE rfl fun a hE=>gy hE rfl (sm hE rfl fun a hE=>gy hE rfl (sb hE rfl rfl bin_eql fun a hE=>?_))
 replace hE := hE.cast 37 rfl (show _ = Value.bool true from (congrArg Value.bool (by decide)))
 refine pkt hE rfl fun a hE=>?_
 have hsl123_4 : h2T.v0.2.2.1.length = 32 := h2T_ok.v0.2.1
 have hsl123_5 : h2T.v0.2.2.2.length = 32 := h2T_ok.v0.2.2
 have hsl123_8 : h2T.v1.2.2.1.length = 32 := h2T_ok.v1.2.1
 have hsl123_9 : h2T.v1.2.2.2.length = 32 := h2T_ok.v1.2.2
 have hsl123_12 : h2T.s0.2.2.1.length = 16 := h2T_ok.s0.2.1
 have hsl123_13 : h2T.s0.2.2.2.1.length = 32 := h2T_ok.s0.2.2.1
 have hsl123_14 : h2T.s0.2.2.2.2.length = 32 := h2T_ok.s0.2.2.2
 have hsl123_17 : h2T.s1.2.2.1.length = 16 := h2T_ok.s1.2.1
 have hsl123_18 : h2T.s1.2.2.2.1.length = 32 := h2T_ok.s1.2.2.1
 have hsl123_19 : h2T.s1.2.2.2.2.length = 32 := h2T_ok.s1.2.2.2
 have hsl123_22 : h2T.s2.2.2.1.length = 16 := h2T_ok.s2.2.1
 have hsl123_23 : h2T.s2.2.2.2.1.length = 32 := h2T_ok.s2.2.2.1
 have hsl123_24 : h2T.s2.2.2.2.2.length = 32 := h2T_ok.s2.2.2.2
 have hsl123_27 : h2T.s3.2.2.1.length = 16 := h2T_ok.s3.2.1
 have hsl123_28 : h2T.s3.2.2.2.1.length = 32 := h2T_ok.s3.2.2.1
 have hsl123_29 : h2T.s3.2.2.2.2.length = 32 := h2T_ok.s3.2.2.2
 replace hM : Mem _ _ w8 [_,_,_,_,_] := hM.pick [2,0,1,3,4] rfl
 refine qq 0 30 (vss := [[.int .i64 h2T.m],[.int .i64 h2T.r],[.bool h2T.v0.1],[.int .u64 ((h2T.v0.2.1 : Nat) : Int)],bv h2T.v0.2.2.1,bv h2T.v0.2.2.2,[.bool h2T.v1.1],[.int .u64 ((h2T.v1.2.1 : Nat) : Int)],bv h2T.v1.2.2.1,bv h2T.v1.2.2.2,[.bool h2T.s0.1],[.int .i64 h2T.s0.2.1],bv h2T.s0.2.2.1,bv h2T.s0.2.2.2.1,bv h2T.s0.2.2.2.2,[.bool h2T.s1.1],[.int .i64 h2T.s1.2.1],bv h2T.s1.2.2.1,bv h2T.s1.2.2.2.1,bv h2T.s1.2.2.2.2,[.bool h2T.s2.1],[.int .i64 h2T.s2.2.1],bv h2T.s2.2.2.1,bv h2T.s2.2.2.2.1,bv h2T.s2.2.2.2.2,[.bool h2T.s3.1],[.int .i64 h2T.s3.2.1],bv h2T.s3.2.2.1,bv h2T.s3.2.2.2.1,bv h2T.s3.2.2.2.2]) hE rfl rfl hM rfl sz62 (by simp only [List.take_succ_cons,List.take_zero,List.drop_zero,List.drop_succ_cons];simp only [List.map_cons,List.map_nil,vh,List.length_cons,List.length_nil,List.length_replicate,hsl123_4,hsl123_5,hsl123_8,hsl123_9,hsl123_12,hsl123_13,hsl123_14,hsl123_17,hsl123_18,hsl123_19,hsl123_22,hsl123_23,hsl123_24,hsl123_27,hsl123_28,hsl123_29]) (by decide) rfl (one_fl ⟨one1 rfl,one1 rfl,one1 rfl,one1 rfl,vc _,vc _,one1 rfl,one1 rfl,vc _,vc _,one1 rfl,one1 rfl,vc _,vc _,vc _,one1 rfl,one1 rfl,vc _,vc _,vc _,one1 rfl,one1 rfl,vc _,vc _,vc _,one1 rfl,one1 rfl,vc _,vc _,vc _,trivial⟩) rfl (by intro X h;cases h) fun w9 hM=>?_
 try simp only [List.take_zero,List.take_succ_cons,List.drop_zero,List.drop_succ_cons,List.take_nil,List.drop_nil,List.nil_append,List.append_nil,List.cons_append] at hM
 exact sas hE rfl fun a hE=>qa (K4 (wp_ret (qj hE rfl (res_cellN rfl (hM.get 0 rfl) row62 rfl) rfl ⟨(by first | rfl | (simp;done)),hM.pick [] rfl⟩)))
theorem opens25_c (h : Hd) (p : List UInt8) (j : Nat) (w : World) (hG : (glb 1).holds w) (hT : tabP.holds w) (hk_h : OkHd h) : Calls Tryd.prog 39 #[.agg ([[.int .i64 h.m],[.int .i64 h.r],[.bool h.v0.1],[.int .u64 ((h.v0.2.1 : Nat) : Int)],bv h.v0.2.2.1,bv h.v0.2.2.2,[.bool h.v1.1],[.int .u64 ((h.v1.2.1 : Nat) : Int)],bv h.v1.2.2.1,bv h.v1.2.2.2,[.bool h.s0.1],[.int .i64 h.s0.2.1],bv h.s0.2.2.1,bv h.s0.2.2.2.1,bv h.s0.2.2.2.2,[.bool h.s1.1],[.int .i64 h.s1.2.1],bv h.s1.2.2.1,bv h.s1.2.2.2.1,bv h.s1.2.2.2.2,[.bool h.s2.1],[.int .i64 h.s2.2.1],bv h.s2.2.2.1,bv h.s2.2.2.2.1,bv h.s2.2.2.2.2,[.bool h.s3.1],[.int .i64 h.s3.2.1],bv h.s3.2.2.1,bv h.s3.2.2.2.1,bv h.s3.2.2.2.2] : List (List Value)).flatten.toArray,.string (str p),.int .i64 (j : Int)] w fun e w' => e = .returned (.bool (opensB h p j)) ∧ Mem w [] w' [] := by
 have hM : Mem w [] w [glb 1,tabP] := Mem.startR w (fun g hg => by
  simp only [List.mem_cons,List.not_mem_nil,or_false] at hg
  rcases hg with rfl | rfl
  ·exact ⟨hG,rfl⟩
  ·exact ⟨hT,rfl⟩)
 refine ve 29 Tryd.func39 rfl rfl rfl ?_
 intro a hE
 replace hE : Env a 29 [(0,_),(1,_),(2,_)] := hE
 refine ww1 fun _ K1=>wpp ?_
 have hbl3_4 : h.v0.2.2.1.length = 32 := hk_h.v0.2.1
 have hbl3_5 : h.v0.2.2.2.length = 32 := hk_h.v0.2.2
 have hbl3_8 : h.v1.2.2.1.length = 32 := hk_h.v1.2.1
 have hbl3_9 : h.v1.2.2.2.length = 32 := hk_h.v1.2.2
 have hbl3_12 : h.s0.2.2.1.length = 16 := hk_h.s0.2.1
 have hbl3_13 : h.s0.2.2.2.1.length = 32 := hk_h.s0.2.2.1
 have hbl3_14 : h.s0.2.2.2.2.length = 32 := hk_h.s0.2.2.2
 have hbl3_17 : h.s1.2.2.1.length = 16 := hk_h.s1.2.1
 have hbl3_18 : h.s1.2.2.2.1.length = 32 := hk_h.s1.2.2.1
 have hbl3_19 : h.s1.2.2.2.2.length = 32 := hk_h.s1.2.2.2
 have hbl3_22 : h.s2.2.2.1.length = 16 := hk_h.s2.2.1
 have hbl3_23 : h.s2.2.2.2.1.length = 32 := hk_h.s2.2.2.1
 have hbl3_24 : h.s2.2.2.2.2.length = 32 := hk_h.s2.2.2.2
 have hbl3_27 : h.s3.2.2.1.length = 16 := hk_h.s3.2.1
 have hbl3_28 : h.s3.2.2.2.1.length = 32 := hk_h.s3.2.2.1
 have hbl3_29 : h.s3.2.2.2.2.length = 32 := hk_h.s3.2.2.2
 refine s_box (ss := [[.int .i64 h.m],[.int .i64 h.r],[.bool h.v0.1],[.int .u64 ((h.v0.2.1 : Nat) : Int)],bv h.v0.2.2.1,bv h.v0.2.2.2,[.bool h.v1.1],[.int .u64 ((h.v1.2.1 : Nat) : Int)],bv h.v1.2.2.1,bv h.v1.2.2.2,[.bool h.s0.1],[.int .i64 h.s0.2.1],bv h.s0.2.2.1,bv h.s0.2.2.2.1,bv h.s0.2.2.2.2,[.bool h.s1.1],[.int .i64 h.s1.2.1],bv h.s1.2.2.1,bv h.s1.2.2.2.1,bv h.s1.2.2.2.2,[.bool h.s2.1],[.int .i64 h.s2.2.1],bv h.s2.2.2.1,bv h.s2.2.2.2.1,bv h.s2.2.2.2.2,[.bool h.s3.1],[.int .i64 h.s3.2.1],bv h.s3.2.2.1,bv h.s3.2.2.2.1,bv h.s3.2.2.2.2]) [1,1,1,1,32,32,1,1,32,32,1,1,16,32,32,1,1,16,32,32,1,1,16,32,32,1,1,16,32,32] hE hM rfl rfl (by simp only [List.map_cons,List.map_nil,vh,List.length_cons,List.length_nil,List.length_replicate,hbl3_4,hbl3_5,hbl3_8,hbl3_9,hbl3_12,hbl3_13,hbl3_14,hbl3_17,hbl3_18,hbl3_19,hbl3_22,hbl3_23,hbl3_24,hbl3_27,hbl3_28,hbl3_29]) rfl fun a b3 w1 hE hM=>?_
 refine sas hE rfl fun a hE=>qa (K1 (ww1 fun _ K2=>wpp (ql hE rfl (hM.get 0 rfl) row62 rfl (by intro X h;cases h) rfl fun a hE=>?_)))
 replace hE := hE.cast 11 rfl (show _ = Value.agg ([[.int .i64 h.m],[.int .i64 h.r],[.bool h.v0.1],[.int .u64 ((h.v0.2.1 : Nat) : Int)],bv h.v0.2.2.1,bv h.v0.2.2.2,[.bool h.v1.1],[.int .u64 ((h.v1.2.1 : Nat) : Int)],bv h.v1.2.2.1,bv h.v1.2.2.2,[.bool h.s0.1],[.int .i64 h.s0.2.1],bv h.s0.2.2.1,bv h.s0.2.2.2.1,bv h.s0.2.2.2.2,[.bool h.s1.1],[.int .i64 h.s1.2.1],bv h.s1.2.2.1,bv h.s1.2.2.2.1,bv h.s1.2.2.2.2,[.bool h.s2.1],[.int .i64 h.s2.2.1],bv h.s2.2.2.1,bv h.s2.2.2.2.1,bv h.s2.2.2.2.2,[.bool h.s3.1],[.int .i64 h.s3.2.1],bv h.s3.2.2.1,bv h.s3.2.2.2.1,bv h.s3.2.2.2.2] : List (List Value)).flatten.toArray from (by first | rfl | simp only [List.flatten_cons,List.flatten_nil,List.append_nil,List.append_assoc]))
 refine sm hE rfl fun a hE=>qn hE rfl Tryd.call29 (unlock_c h p _ (hM.get 1 rfl) (hM.get 2 rfl) hk_h) rfl ?_
 rintro e w2 ⟨rfl,hN⟩
 refine ⟨_,rfl,trivial,fun a hE=>?_⟩
 replace hM : Mem _ _ w2 [_,_,_] := hM.call0 hN trivial;clear hN
 refine sm hE rfl fun a hE=>sx hE rfl fun a hE=>sx hE rfl fun a hE=>sx hE rfl fun a hE=>qo [32] hE hM zero23 rfl rfl fun a b7 w3 hE hM=>qr 0 hE rfl rfl hM rfl sz23 ((vh _).trans (unl_len hk_h p)) (vc _) rfl ((vh _).trans (by first | (simp;done) | (simp [*];done) | (simp;omega))) rfl (by intro X h;cases h) fun w4 hM=>?_
 simp only [List.set_cons_zero,List.set_cons_succ] at hM
 refine sas hE rfl fun a hE=>sas hE rfl fun a hE=>qa (K2 (ww1 fun _ K3=>wpp (ql hE rfl (hM.get 0 rfl) row23 rfl (by intro X h;cases h) rfl fun a hE=>?_)))
 refine s_build (r := .agg (bv [7,0,0,0,0,0,0,0,0,0,0,0,0,0,0,0,0,0,0,0,0,0,0,0,0,0,0,0,0,0,0,0]).toArray) _ hE rfl (fun w => by kernel_rfl) rfl fun a hE=>?_
 refine s_bin hE rfl rfl (eqa23 (unl_len hk_h p) (by first | (simp;done) | (simp [*];done) | (simp;omega))).1 rfl fun a hE=>?_
 refine sm hE rfl fun a hE=>?_
 refine hE.split 20 rfl (fun hb20 hE=>?_) (fun hb20 hE=>?_)
 ·replace hb20 := of_decide_eq_true hb20
  refine gy hE rfl (sm hE rfl fun a hE=>gy hE rfl (sm hE rfl fun a hE=>gy hE rfl (sb hE rfl rfl bin_eql fun a hE=>pkt hE rfl fun a hE=>sm hE rfl fun a hE=>?_)))
  refine hE.split 25 rfl (fun hb25 hE=>?_) (fun hb25 hE=>?_)
  ·replace hb25 := of_decide_eq_true hb25
   replace hb25 : ((unl h p).2.1) = j := by omega
   exact gy hE rfl (sm hE rfl fun a hE=>gy hE rfl (sb hE rfl rfl bin_eql fun a hE=>pkt hE rfl fun a hE=>sas hE rfl fun a hE=>qa (K3 (wp_ret (qi hE rfl rfl ⟨(by simp [opensB,k7,hb20,hb25]),hM.pick [] rfl⟩)))))
  ·replace hb25 := of_decide_eq_false hb25
   replace hb25 : ¬ (((unl h p).2.1) = j) := by omega
   exact gf hE rfl fun a hE=>gf hE rfl fun a hE=>pkf hE rfl fun a hE=>sas hE rfl fun a hE=>qa (K3 (wp_ret (qi hE rfl rfl ⟨(by simp [opensB,k7,hb20,hb25]),hM.pick [] rfl⟩)))
 ·replace hb20 := of_decide_eq_false hb20
  refine gf hE rfl fun a hE=>gf hE rfl fun a hE=>gf hE rfl fun a hE=>pkf hE rfl fun a hE=>sm hE rfl fun a hE=>gf hE rfl fun a hE=>gf hE rfl fun a hE=>pkf hE rfl fun a hE=>sas hE rfl fun a hE=>qa ?_
  exact K3 (wp_ret (qi hE rfl rfl ⟨(by simp [opensB,k7,hb20]),hM.pick [] rfl⟩))
set_option maxRecDepth 20000 in
theorem awake25_c  (w : World) (hG : (glb 1).holds w) (hT : tabP.holds w) : Calls Tryd.prog 28 #[] w fun e w' => e = .returned (.bool true) ∧ Mem w [] w' [] := by
 have hM : Mem w [] w [glb 1,tabP] := Mem.startR w (fun g hg => by
  simp only [List.mem_cons,List.not_mem_nil,or_false] at hg
  rcases hg with rfl | rfl
  ·exact ⟨hG,rfl⟩
  ·exact ⟨hT,rfl⟩)
 refine ve 16 Tryd.func28 rfl rfl rfl ?_
 intro a hE
 replace hE : Env a 16 [] := hE
 refine ww1 fun _ K1=>wpp (sas hE rfl fun a hE=>qa (K1 (ww1 fun _ K2=>wpp (qn hE rfl Tryd.call34 (two25_c  _ (hM.get 0 rfl) (hM.get 1 rfl)) rfl ?_))))
 rintro e w1 ⟨rfl,hN⟩
 refine ⟨_,rfl,trivial,fun a hE=>?_⟩
 replace hM : Mem _ _ w1 [_,_] := hM.call0 hN trivial;clear hN
 refine sm hE rfl fun a hE=>sx hE rfl fun a hE=>sx hE rfl fun a hE=>qo [1,1,1,1,32,32,1,1,32,32,1,1,16,32,32,1,1,16,32,32,1,1,16,32,32,1,1,16,32,32] hE hM zeroL62 rfl rfl fun a b1 w2 hE hM=>?_
 have hsl24_4 : h2T.v0.2.2.1.length = 32 := h2T_ok.v0.2.1
 have hsl24_5 : h2T.v0.2.2.2.length = 32 := h2T_ok.v0.2.2
 have hsl24_8 : h2T.v1.2.2.1.length = 32 := h2T_ok.v1.2.1
 have hsl24_9 : h2T.v1.2.2.2.length = 32 := h2T_ok.v1.2.2
 have hsl24_12 : h2T.s0.2.2.1.length = 16 := h2T_ok.s0.2.1
 have hsl24_13 : h2T.s0.2.2.2.1.length = 32 := h2T_ok.s0.2.2.1
 have hsl24_14 : h2T.s0.2.2.2.2.length = 32 := h2T_ok.s0.2.2.2
 have hsl24_17 : h2T.s1.2.2.1.length = 16 := h2T_ok.s1.2.1
 have hsl24_18 : h2T.s1.2.2.2.1.length = 32 := h2T_ok.s1.2.2.1
 have hsl24_19 : h2T.s1.2.2.2.2.length = 32 := h2T_ok.s1.2.2.2
 have hsl24_22 : h2T.s2.2.2.1.length = 16 := h2T_ok.s2.2.1
 have hsl24_23 : h2T.s2.2.2.2.1.length = 32 := h2T_ok.s2.2.2.1
 have hsl24_24 : h2T.s2.2.2.2.2.length = 32 := h2T_ok.s2.2.2.2
 have hsl24_27 : h2T.s3.2.2.1.length = 16 := h2T_ok.s3.2.1
 have hsl24_28 : h2T.s3.2.2.2.1.length = 32 := h2T_ok.s3.2.2.1
 have hsl24_29 : h2T.s3.2.2.2.2.length = 32 := h2T_ok.s3.2.2.2
 refine qq 0 30 (vss := [[.int .i64 h2T.m],[.int .i64 h2T.r],[.bool h2T.v0.1],[.int .u64 ((h2T.v0.2.1 : Nat) : Int)],bv h2T.v0.2.2.1,bv h2T.v0.2.2.2,[.bool h2T.v1.1],[.int .u64 ((h2T.v1.2.1 : Nat) : Int)],bv h2T.v1.2.2.1,bv h2T.v1.2.2.2,[.bool h2T.s0.1],[.int .i64 h2T.s0.2.1],bv h2T.s0.2.2.1,bv h2T.s0.2.2.2.1,bv h2T.s0.2.2.2.2,[.bool h2T.s1.1],[.int .i64 h2T.s1.2.1],bv h2T.s1.2.2.1,bv h2T.s1.2.2.2.1,bv h2T.s1.2.2.2.2,[.bool h2T.s2.1],[.int .i64 h2T.s2.2.1],bv h2T.s2.2.2.1,bv h2T.s2.2.2.2.1,bv h2T.s2.2.2.2.2,[.bool h2T.s3.1],[.int .i64 h2T.s3.2.1],bv h2T.s3.2.2.1,bv h2T.s3.2.2.2.1,bv h2T.s3.2.2.2.2]) hE rfl rfl hM rfl sz62 (by simp only [List.take_succ_cons,List.take_zero,List.drop_zero,List.drop_succ_cons];simp only [List.map_cons,List.map_nil,vh,List.length_cons,List.length_nil,List.length_replicate,hsl24_4,hsl24_5,hsl24_8,hsl24_9,hsl24_12,hsl24_13,hsl24_14,hsl24_17,hsl24_18,hsl24_19,hsl24_22,hsl24_23,hsl24_24,hsl24_27,hsl24_28,hsl24_29]) (by decide) rfl (one_fl ⟨one1 rfl,one1 rfl,one1 rfl,one1 rfl,vc _,vc _,one1 rfl,one1 rfl,vc _,vc _,one1 rfl,one1 rfl,vc _,vc _,vc _,one1 rfl,one1 rfl,vc _,vc _,vc _,one1 rfl,one1 rfl,vc _,vc _,vc _,one1 rfl,one1 rfl,vc _,vc _,vc _,trivial⟩) rfl (by intro X h;cases h) fun w3 hM=>?_
 try simp only [List.take_zero,List.take_succ_cons,List.drop_zero,List.drop_succ_cons,List.take_nil,List.drop_nil,List.nil_append,List.append_nil,List.cons_append] at hM
 refine sas hE rfl fun a hE=>qa (K2 (ww1 fun _ K3=>wpp (sm hE rfl fun a hE=>sm hE rfl fun a hE=>?_)))
 replace hE := hE.cast 8 rfl (show _ = Value.bool true from (congrArg Value.bool (by first | (with_reducible rfl) | (with_reducible exact opens1T) | (with_reducible exact opens2T))))
 refine gy hE rfl (ql hE rfl (hM.get 0 rfl) row62 rfl (by intro X h;cases h) rfl fun a hE=>?_)
 replace hE := hE.cast 9 rfl (show _ = Value.agg ([[.int .i64 h2T.m],[.int .i64 h2T.r],[.bool h2T.v0.1],[.int .u64 ((h2T.v0.2.1 : Nat) : Int)],bv h2T.v0.2.2.1,bv h2T.v0.2.2.2,[.bool h2T.v1.1],[.int .u64 ((h2T.v1.2.1 : Nat) : Int)],bv h2T.v1.2.2.1,bv h2T.v1.2.2.2,[.bool h2T.s0.1],[.int .i64 h2T.s0.2.1],bv h2T.s0.2.2.1,bv h2T.s0.2.2.2.1,bv h2T.s0.2.2.2.2,[.bool h2T.s1.1],[.int .i64 h2T.s1.2.1],bv h2T.s1.2.2.1,bv h2T.s1.2.2.2.1,bv h2T.s1.2.2.2.2,[.bool h2T.s2.1],[.int .i64 h2T.s2.2.1],bv h2T.s2.2.2.1,bv h2T.s2.2.2.2.1,bv h2T.s2.2.2.2.2,[.bool h2T.s3.1],[.int .i64 h2T.s3.2.1],bv h2T.s3.2.2.1,bv h2T.s3.2.2.2.1,bv h2T.s3.2.2.2.2] : List (List Value)).flatten.toArray from (by first | rfl | simp only [List.flatten_cons,List.flatten_nil,List.append_nil,List.append_assoc]))
 refine gy hE rfl (qn hE rfl Tryd.call39 (opens25_c h2T [97,98] 0 _ (hM.get 1 rfl) (hM.get 2 rfl) h2T_ok) rfl ?_)
 rintro e w4 ⟨rfl,hN⟩
 refine ⟨_,rfl,trivial,fun a hE=>?_⟩
 replace hM : Mem _ _ w4 [_,_,_] := hM.call0 hN trivial;clear hN
 refine pkt hE rfl fun a hE=>sm hE rfl fun a hE=>?_
 replace hE := hE.cast 12 rfl (show _ = Value.bool true from (congrArg Value.bool (by first | (with_reducible rfl) | (with_reducible exact opens1T) | (with_reducible exact opens2T))))
 refine gy hE rfl (ql hE rfl (hM.get 0 rfl) row62 rfl (by intro X h;cases h) rfl fun a hE=>?_)
 replace hE := hE.cast 13 rfl (show _ = Value.agg ([[.int .i64 h2T.m],[.int .i64 h2T.r],[.bool h2T.v0.1],[.int .u64 ((h2T.v0.2.1 : Nat) : Int)],bv h2T.v0.2.2.1,bv h2T.v0.2.2.2,[.bool h2T.v1.1],[.int .u64 ((h2T.v1.2.1 : Nat) : Int)],bv h2T.v1.2.2.1,bv h2T.v1.2.2.2,[.bool h2T.s0.1],[.int .i64 h2T.s0.2.1],bv h2T.s0.2.2.1,bv h2T.s0.2.2.2.1,bv h2T.s0.2.2.2.2,[.bool h2T.s1.1],[.int .i64 h2T.s1.2.1],bv h2T.s1.2.2.1,bv h2T.s1.2.2.2.1,bv h2T.s1.2.2.2.2,[.bool h2T.s2.1],[.int .i64 h2T.s2.2.1],bv h2T.s2.2.2.1,bv h2T.s2.2.2.2.1,bv h2T.s2.2.2.2.2,[.bool h2T.s3.1],[.int .i64 h2T.s3.2.1],bv h2T.s3.2.2.1,bv h2T.s3.2.2.2.1,bv h2T.s3.2.2.2.2] : List (List Value)).flatten.toArray from (by first | rfl | simp only [List.flatten_cons,List.flatten_nil,List.append_nil,List.append_assoc]))
 refine gy hE rfl (qn hE rfl Tryd.call39 (opens25_c h2T [99,100] 1 _ (hM.get 1 rfl) (hM.get 2 rfl) h2T_ok) rfl ?_)
 rintro e w5 ⟨rfl,hN⟩
 refine ⟨_,rfl,trivial,fun a hE=>?_⟩
 replace hM : Mem _ _ w5 [_,_,_] := hM.call0 hN trivial;clear hN
 exact pkt hE rfl fun a hE=>sas hE rfl fun a hE=>qa (K3 (wp_ret (qi hE rfl rfl ⟨(by first | (with_reducible rfl) | rw [opens1T,opens2T] | rw [opens2T]),hM.pick [] rfl⟩)))
theorem large25_c (h : Hd) (p : List UInt8) (z : Int) (w : World) (hk_h : OkHd h) : Calls Tryd.prog 27 #[.agg ([[.int .i64 h.m],[.int .i64 h.r],[.bool h.v0.1],[.int .u64 ((h.v0.2.1 : Nat) : Int)],bv h.v0.2.2.1,bv h.v0.2.2.2,[.bool h.v1.1],[.int .u64 ((h.v1.2.1 : Nat) : Int)],bv h.v1.2.2.1,bv h.v1.2.2.2,[.bool h.s0.1],[.int .i64 h.s0.2.1],bv h.s0.2.2.1,bv h.s0.2.2.2.1,bv h.s0.2.2.2.2,[.bool h.s1.1],[.int .i64 h.s1.2.1],bv h.s1.2.2.1,bv h.s1.2.2.2.1,bv h.s1.2.2.2.2,[.bool h.s2.1],[.int .i64 h.s2.2.1],bv h.s2.2.2.1,bv h.s2.2.2.2.1,bv h.s2.2.2.2.2,[.bool h.s3.1],[.int .i64 h.s3.2.1],bv h.s3.2.2.1,bv h.s3.2.2.2.1,bv h.s3.2.2.2.2] : List (List Value)).flatten.toArray,.string (str p),.int .i64 z] w fun e w' => e = .returned (.bool (largeB h p z)) ∧ Mem w [] w' [] := by
 have hi0 := hk_h.s0.1
 have hi1 := hk_h.s1.1
 have hi2 := hk_h.s2.1
 have hi3 := hk_h.s3.1
 have hM := Mem.start0 w
 refine ve 41 Tryd.func27 rfl rfl rfl ?_
 intro a hE
 replace hE : Env a 41 [(0,_),(1,_),(2,_)] := hE
 refine ww1 fun _ K1=>wpp ?_
 have hbl3_4 : h.v0.2.2.1.length = 32 := hk_h.v0.2.1
 have hbl3_5 : h.v0.2.2.2.length = 32 := hk_h.v0.2.2
 have hbl3_8 : h.v1.2.2.1.length = 32 := hk_h.v1.2.1
 have hbl3_9 : h.v1.2.2.2.length = 32 := hk_h.v1.2.2
 have hbl3_12 : h.s0.2.2.1.length = 16 := hk_h.s0.2.1
 have hbl3_13 : h.s0.2.2.2.1.length = 32 := hk_h.s0.2.2.1
 have hbl3_14 : h.s0.2.2.2.2.length = 32 := hk_h.s0.2.2.2
 have hbl3_17 : h.s1.2.2.1.length = 16 := hk_h.s1.2.1
 have hbl3_18 : h.s1.2.2.2.1.length = 32 := hk_h.s1.2.2.1
 have hbl3_19 : h.s1.2.2.2.2.length = 32 := hk_h.s1.2.2.2
 have hbl3_22 : h.s2.2.2.1.length = 16 := hk_h.s2.2.1
 have hbl3_23 : h.s2.2.2.2.1.length = 32 := hk_h.s2.2.2.1
 have hbl3_24 : h.s2.2.2.2.2.length = 32 := hk_h.s2.2.2.2
 have hbl3_27 : h.s3.2.2.1.length = 16 := hk_h.s3.2.1
 have hbl3_28 : h.s3.2.2.2.1.length = 32 := hk_h.s3.2.2.1
 have hbl3_29 : h.s3.2.2.2.2.length = 32 := hk_h.s3.2.2.2
 refine s_box (ss := [[.int .i64 h.m],[.int .i64 h.r],[.bool h.v0.1],[.int .u64 ((h.v0.2.1 : Nat) : Int)],bv h.v0.2.2.1,bv h.v0.2.2.2,[.bool h.v1.1],[.int .u64 ((h.v1.2.1 : Nat) : Int)],bv h.v1.2.2.1,bv h.v1.2.2.2,[.bool h.s0.1],[.int .i64 h.s0.2.1],bv h.s0.2.2.1,bv h.s0.2.2.2.1,bv h.s0.2.2.2.2,[.bool h.s1.1],[.int .i64 h.s1.2.1],bv h.s1.2.2.1,bv h.s1.2.2.2.1,bv h.s1.2.2.2.2,[.bool h.s2.1],[.int .i64 h.s2.2.1],bv h.s2.2.2.1,bv h.s2.2.2.2.1,bv h.s2.2.2.2.2,[.bool h.s3.1],[.int .i64 h.s3.2.1],bv h.s3.2.2.1,bv h.s3.2.2.2.1,bv h.s3.2.2.2.2]) [1,1,1,1,32,32,1,1,32,32,1,1,16,32,32,1,1,16,32,32,1,1,16,32,32,1,1,16,32,32] hE hM rfl rfl (by simp only [List.map_cons,List.map_nil,vh,List.length_cons,List.length_nil,List.length_replicate,hbl3_4,hbl3_5,hbl3_8,hbl3_9,hbl3_12,hbl3_13,hbl3_14,hbl3_17,hbl3_18,hbl3_19,hbl3_22,hbl3_23,hbl3_24,hbl3_27,hbl3_28,hbl3_29]) rfl fun a b3 w1 hE hM=>?_
 refine sas hE rfl fun a hE=>qa (K1 (ww1 fun _ K2=>ww1 fun _ K3=>wpp (sas hE rfl fun a hE=>qa (K3 (wp_block ?_)))))
 refine wp_loop_rounds 5 ?_
 refine c_roundsJ (fun a w' => largeS h h.s0 = false ∧ Env a 41 [(1,.string (str p)),(2,.int .i64 z),(3,.pointer (some ⟨b3,0,none⟩)),(6,.bool false),(7,.int .i64 1)] ∧ Mem w [] w' [blk b3 [[.int .i64 h.m],[.int .i64 h.r],[.bool h.v0.1],[.int .u64 ((h.v0.2.1 : Nat) : Int)],bv h.v0.2.2.1,bv h.v0.2.2.2,[.bool h.v1.1],[.int .u64 ((h.v1.2.1 : Nat) : Int)],bv h.v1.2.2.1,bv h.v1.2.2.2,[.bool h.s0.1],[.int .i64 h.s0.2.1],bv h.s0.2.2.1,bv h.s0.2.2.2.1,bv h.s0.2.2.2.2,[.bool h.s1.1],[.int .i64 h.s1.2.1],bv h.s1.2.2.1,bv h.s1.2.2.2.1,bv h.s1.2.2.2.2,[.bool h.s2.1],[.int .i64 h.s2.2.1],bv h.s2.2.2.1,bv h.s2.2.2.2.1,bv h.s2.2.2.2.2,[.bool h.s3.1],[.int .i64 h.s3.2.1],bv h.s3.2.2.1,bv h.s3.2.2.2.1,bv h.s3.2.2.2.2] [1,1,1,1,32,32,1,1,32,32,1,1,16,32,32,1,1,16,32,32,1,1,16,32,32,1,1,16,32,32] 62]) ?_ ?_
 ·skip
  refine ww1 fun _ K4=>ww1 fun _ K5=>wpp (sm hE rfl fun a hE=>sb hE rfl rfl bin_lss fun a hE=>?_)
  replace hE := hE.cast 9 rfl (show _ = Value.bool true from (congrArg Value.bool (by decide)))
  refine qa (K5 (wct hE rfl (wp_skip (K4 (ww1 fun _ K6=>wp_block (ww1 fun _ K7=>wpp (sm hE rfl fun a hE=>?_)))))))
  refine sf hE rfl fo62_2 fun a hE=>qp (j := 0) hE rfl rfl arr60 rfl (by decide) rfl fun a hE=>?_
  refine sf hE rfl fo59_0 fun a hE=>qm hE rfl (hM.get 0 rfl) rfl one4 (by intro X h;cases h) rfl fun a hE=>?_
  refine sm hE rfl fun a hE=>?_
  refine hE.split 17 rfl (fun hb17 hE=>?_) (fun hb17 hE=>?_)
  ·refine gy hE rfl (sm hE rfl fun a hE=>gy hE rfl (sf hE rfl fo62_2 fun a hE=>gy hE rfl (qp (j := 0) hE rfl rfl arr60 rfl (by decide) rfl fun a hE=>?_)))
   refine gy hE rfl (sf hE rfl fo59_1 fun a hE=>gy hE rfl (qm hE rfl (hM.get 0 rfl) rfl one3 (by intro X h;cases h) rfl fun a hE=>?_))
   refine gy hE rfl (sb hE rfl rfl bin_gtr fun a hE=>pkt hE rfl fun a hE=>sm hE rfl fun a hE=>?_)
   refine hE.split 25 rfl (fun hb25 hE=>?_) (fun hb25 hE=>?_)
   ·replace hb25 := of_decide_eq_true hb25
    refine gy hE rfl (ql hE rfl (hM.get 0 rfl) row62 rfl (by intro X h;cases h) rfl fun a hE=>?_)
    replace hE := hE.cast 26 rfl (show _ = Value.agg ([[.int .i64 h.m],[.int .i64 h.r],[.bool h.v0.1],[.int .u64 ((h.v0.2.1 : Nat) : Int)],bv h.v0.2.2.1,bv h.v0.2.2.2,[.bool h.v1.1],[.int .u64 ((h.v1.2.1 : Nat) : Int)],bv h.v1.2.2.1,bv h.v1.2.2.2,[.bool h.s0.1],[.int .i64 h.s0.2.1],bv h.s0.2.2.1,bv h.s0.2.2.2.1,bv h.s0.2.2.2.2,[.bool h.s1.1],[.int .i64 h.s1.2.1],bv h.s1.2.2.1,bv h.s1.2.2.2.1,bv h.s1.2.2.2.2,[.bool h.s2.1],[.int .i64 h.s2.2.1],bv h.s2.2.2.1,bv h.s2.2.2.2.1,bv h.s2.2.2.2.2,[.bool h.s3.1],[.int .i64 h.s3.2.1],bv h.s3.2.2.1,bv h.s3.2.2.2.1,bv h.s3.2.2.2.2] : List (List Value)).flatten.toArray from (by first | rfl | simp only [List.flatten_cons,List.flatten_nil,List.append_nil,List.append_assoc]))
    refine gy hE rfl (qn hE rfl Tryd.call54 (rcheck_c h _ hk_h ) rfl ?_)
    rintro e w2 ⟨rfl,hN⟩
    refine ⟨_,rfl,trivial,fun a hE=>?_⟩
    replace hM : Mem _ _ w2 [_] := hM.call0 hN trivial;clear hN
    refine gy hE rfl (sb hE rfl rfl bin_eql fun a hE=>pkt hE rfl fun a hE=>qa (K7 ?_))
    refine hE.split 29 rfl (fun hb29 hE=>?_) (fun hb29 hE=>?_)
    ·replace hb29 := of_decide_eq_true hb29
     replace hb29 : (checkH h) = 0 := by omega
     refine wct hE rfl (ww1 fun _ K8=>wpp (sas hE rfl fun a hE=>qa (K8 (wp_ret (qf (qb (qb ?_)))))))
     exact qf (qb (qi hE rfl rfl ⟨(by first | (simp [largeB,hb17,hb25,hb29];done) | (simp [largeB,largeS,hb17,hb25,hb29];done) | (simp [largeB,largeS,hb17,hb25,hb29];omega)),hM.pick [] rfl⟩))
    ·replace hb29 := of_decide_eq_false hb29
     replace hb29 : ¬ ((checkH h) = 0) := by omega
     refine wcf hE rfl (wp_skip (qe (K6 (wpp (sm hE rfl fun a hE=>sb hE rfl rfl (show Bin _ _ _ _ _ (.int .i64 1) from bin_add (by rw [wrap_i64 (by omega) (by omega)];omega)) fun a hE=>?_)))))
     refine sas hE rfl fun a hE=>qa ?_
     replace hM : Mem _ _ w2 [_] := hM.pick [0] rfl
     refine qd ⟨(by first | (simp [largeS,hb17,hb25,hb29];done) | (simp [largeS,hb17,hb25,hb29];omega)),hE.sel [1,2,3,6,7] rfl,hM⟩
   ·replace hb25 := of_decide_eq_false hb25
    refine gf hE rfl fun a hE=>gf hE rfl fun a hE=>gf hE rfl fun a hE=>pkf hE rfl fun a hE=>qa (K7 (wcf hE rfl (wp_skip (qe (K6 ?_)))))
    refine wpp (sm hE rfl fun a hE=>sb hE rfl rfl (show Bin _ _ _ _ _ (.int .i64 1) from bin_add (by rw [wrap_i64 (by omega) (by omega)];omega)) fun a hE=>?_)
    refine sas hE rfl fun a hE=>qa ?_
    replace hM : Mem _ _ w1 [_] := hM.pick [0] rfl
    refine qd ⟨(by first | (simp [largeS,hb17,hb25];done) | (simp [largeS,hb17,hb25];omega)),hE.sel [1,2,3,6,7] rfl,hM⟩
  ·refine gf hE rfl fun a hE=>gf hE rfl fun a hE=>gf hE rfl fun a hE=>gf hE rfl fun a hE=>gf hE rfl fun a hE=>gf hE rfl fun a hE=>pkf hE rfl fun a hE=>sm hE rfl fun a hE=>gf hE rfl fun a hE=>gf hE rfl fun a hE=>?_
   refine gf hE rfl fun a hE=>pkf hE rfl fun a hE=>qa (K7 (wcf hE rfl (wp_skip (qe (K6 (wpp (sm hE rfl fun a hE=>?_)))))))
   refine sb hE rfl rfl (show Bin _ _ _ _ _ (.int .i64 1) from bin_add (by rw [wrap_i64 (by omega) (by omega)];omega)) fun a hE=>?_
   refine sas hE rfl fun a hE=>qa ?_
   replace hM : Mem _ _ w1 [_] := hM.pick [0] rfl
   refine qd ⟨(by first | (simp [largeS,hb17];done) | (simp [largeS,hb17];omega)),hE.sel [1,2,3,6,7] rfl,hM⟩
 rintro a w2 ⟨hJ2_0,hE,hM⟩
 refine c_roundsJ (fun a w' => largeS h h.s1 = false ∧ Env a 41 [(1,.string (str p)),(2,.int .i64 z),(3,.pointer (some ⟨b3,0,none⟩)),(6,.bool false),(7,.int .i64 2)] ∧ Mem w [] w' [blk b3 [[.int .i64 h.m],[.int .i64 h.r],[.bool h.v0.1],[.int .u64 ((h.v0.2.1 : Nat) : Int)],bv h.v0.2.2.1,bv h.v0.2.2.2,[.bool h.v1.1],[.int .u64 ((h.v1.2.1 : Nat) : Int)],bv h.v1.2.2.1,bv h.v1.2.2.2,[.bool h.s0.1],[.int .i64 h.s0.2.1],bv h.s0.2.2.1,bv h.s0.2.2.2.1,bv h.s0.2.2.2.2,[.bool h.s1.1],[.int .i64 h.s1.2.1],bv h.s1.2.2.1,bv h.s1.2.2.2.1,bv h.s1.2.2.2.2,[.bool h.s2.1],[.int .i64 h.s2.2.1],bv h.s2.2.2.1,bv h.s2.2.2.2.1,bv h.s2.2.2.2.2,[.bool h.s3.1],[.int .i64 h.s3.2.1],bv h.s3.2.2.1,bv h.s3.2.2.2.1,bv h.s3.2.2.2.2] [1,1,1,1,32,32,1,1,32,32,1,1,16,32,32,1,1,16,32,32,1,1,16,32,32,1,1,16,32,32] 62]) ?_ ?_
 ·skip
  refine ww1 fun _ K4=>ww1 fun _ K5=>wpp (sm hE rfl fun a hE=>sb hE rfl rfl bin_lss fun a hE=>?_)
  replace hE := hE.cast 9 rfl (show _ = Value.bool true from (congrArg Value.bool (by decide)))
  refine qa (K5 (wct hE rfl (wp_skip (K4 (ww1 fun _ K6=>wp_block (ww1 fun _ K7=>wpp (sm hE rfl fun a hE=>?_)))))))
  refine sf hE rfl fo62_2 fun a hE=>qp (j := 1) hE rfl rfl arr60 rfl (by decide) rfl fun a hE=>?_
  refine sf hE rfl fo59_0 fun a hE=>qm hE rfl (hM.get 0 rfl) rfl one4 (by intro X h;cases h) rfl fun a hE=>?_
  refine sm hE rfl fun a hE=>?_
  refine hE.split 17 rfl (fun hb17 hE=>?_) (fun hb17 hE=>?_)
  ·refine gy hE rfl (sm hE rfl fun a hE=>gy hE rfl (sf hE rfl fo62_2 fun a hE=>gy hE rfl (qp (j := 1) hE rfl rfl arr60 rfl (by decide) rfl fun a hE=>?_)))
   refine gy hE rfl (sf hE rfl fo59_1 fun a hE=>gy hE rfl (qm hE rfl (hM.get 0 rfl) rfl one3 (by intro X h;cases h) rfl fun a hE=>?_))
   refine gy hE rfl (sb hE rfl rfl bin_gtr fun a hE=>pkt hE rfl fun a hE=>sm hE rfl fun a hE=>?_)
   refine hE.split 25 rfl (fun hb25 hE=>?_) (fun hb25 hE=>?_)
   ·replace hb25 := of_decide_eq_true hb25
    refine gy hE rfl (ql hE rfl (hM.get 0 rfl) row62 rfl (by intro X h;cases h) rfl fun a hE=>?_)
    replace hE := hE.cast 26 rfl (show _ = Value.agg ([[.int .i64 h.m],[.int .i64 h.r],[.bool h.v0.1],[.int .u64 ((h.v0.2.1 : Nat) : Int)],bv h.v0.2.2.1,bv h.v0.2.2.2,[.bool h.v1.1],[.int .u64 ((h.v1.2.1 : Nat) : Int)],bv h.v1.2.2.1,bv h.v1.2.2.2,[.bool h.s0.1],[.int .i64 h.s0.2.1],bv h.s0.2.2.1,bv h.s0.2.2.2.1,bv h.s0.2.2.2.2,[.bool h.s1.1],[.int .i64 h.s1.2.1],bv h.s1.2.2.1,bv h.s1.2.2.2.1,bv h.s1.2.2.2.2,[.bool h.s2.1],[.int .i64 h.s2.2.1],bv h.s2.2.2.1,bv h.s2.2.2.2.1,bv h.s2.2.2.2.2,[.bool h.s3.1],[.int .i64 h.s3.2.1],bv h.s3.2.2.1,bv h.s3.2.2.2.1,bv h.s3.2.2.2.2] : List (List Value)).flatten.toArray from (by first | rfl | simp only [List.flatten_cons,List.flatten_nil,List.append_nil,List.append_assoc]))
    refine gy hE rfl (qn hE rfl Tryd.call54 (rcheck_c h _ hk_h ) rfl ?_)
    rintro e w3 ⟨rfl,hN⟩
    refine ⟨_,rfl,trivial,fun a hE=>?_⟩
    replace hM : Mem _ _ w3 [_] := hM.call0 hN trivial;clear hN
    refine gy hE rfl (sb hE rfl rfl bin_eql fun a hE=>pkt hE rfl fun a hE=>qa (K7 ?_))
    refine hE.split 29 rfl (fun hb29 hE=>?_) (fun hb29 hE=>?_)
    ·replace hb29 := of_decide_eq_true hb29
     replace hb29 : (checkH h) = 0 := by omega
     refine wct hE rfl (ww1 fun _ K8=>wpp (sas hE rfl fun a hE=>qa (K8 (wp_ret (qf (qb (qb ?_)))))))
     exact qf (qb (qi hE rfl rfl ⟨(by first | (simp [largeB,hJ2_0,hJ2_0,hb17,hb25,hb29];done) | (simp [largeB,largeS,hJ2_0,hJ2_0,hb17,hb25,hb29];done) | (simp [largeB,largeS,hJ2_0,hJ2_0,hb17,hb25,hb29];omega)),hM.pick [] rfl⟩))
    ·replace hb29 := of_decide_eq_false hb29
     replace hb29 : ¬ ((checkH h) = 0) := by omega
     refine wcf hE rfl (wp_skip (qe (K6 (wpp (sm hE rfl fun a hE=>sb hE rfl rfl (show Bin _ _ _ _ _ (.int .i64 2) from bin_add (by rw [wrap_i64 (by omega) (by omega)];omega)) fun a hE=>?_)))))
     refine sas hE rfl fun a hE=>qa ?_
     replace hM : Mem _ _ w3 [_] := hM.pick [0] rfl
     refine qd ⟨(by first | (simp [largeS,hJ2_0,hb17,hb25,hb29];done) | (simp [largeS,hJ2_0,hb17,hb25,hb29];omega)),hE.sel [1,2,3,6,7] rfl,hM⟩
   ·replace hb25 := of_decide_eq_false hb25
    refine gf hE rfl fun a hE=>gf hE rfl fun a hE=>gf hE rfl fun a hE=>pkf hE rfl fun a hE=>qa (K7 (wcf hE rfl (wp_skip (qe (K6 ?_)))))
    refine wpp (sm hE rfl fun a hE=>sb hE rfl rfl (show Bin _ _ _ _ _ (.int .i64 2) from bin_add (by rw [wrap_i64 (by omega) (by omega)];omega)) fun a hE=>?_)
    refine sas hE rfl fun a hE=>qa ?_
    replace hM : Mem _ _ w2 [_] := hM.pick [0] rfl
    refine qd ⟨(by first | (simp [largeS,hJ2_0,hb17,hb25];done) | (simp [largeS,hJ2_0,hb17,hb25];omega)),hE.sel [1,2,3,6,7] rfl,hM⟩
  ·refine gf hE rfl fun a hE=>gf hE rfl fun a hE=>gf hE rfl fun a hE=>gf hE rfl fun a hE=>gf hE rfl fun a hE=>gf hE rfl fun a hE=>pkf hE rfl fun a hE=>sm hE rfl fun a hE=>gf hE rfl fun a hE=>gf hE rfl fun a hE=>?_
   refine gf hE rfl fun a hE=>pkf hE rfl fun a hE=>qa (K7 (wcf hE rfl (wp_skip (qe (K6 (wpp (sm hE rfl fun a hE=>?_)))))))
   refine sb hE rfl rfl (show Bin _ _ _ _ _ (.int .i64 2) from bin_add (by rw [wrap_i64 (by omega) (by omega)];omega)) fun a hE=>?_
   refine sas hE rfl fun a hE=>qa ?_
   replace hM : Mem _ _ w2 [_] := hM.pick [0] rfl
   refine qd ⟨(by first | (simp [largeS,hJ2_0,hb17];done) | (simp [largeS,hJ2_0,hb17];omega)),hE.sel [1,2,3,6,7] rfl,hM⟩
 rintro a w3 ⟨hJ2_1,hE,hM⟩
 refine c_roundsJ (fun a w' => largeS h h.s2 = false ∧ Env a 41 [(1,.string (str p)),(2,.int .i64 z),(3,.pointer (some ⟨b3,0,none⟩)),(6,.bool false),(7,.int .i64 3)] ∧ Mem w [] w' [blk b3 [[.int .i64 h.m],[.int .i64 h.r],[.bool h.v0.1],[.int .u64 ((h.v0.2.1 : Nat) : Int)],bv h.v0.2.2.1,bv h.v0.2.2.2,[.bool h.v1.1],[.int .u64 ((h.v1.2.1 : Nat) : Int)],bv h.v1.2.2.1,bv h.v1.2.2.2,[.bool h.s0.1],[.int .i64 h.s0.2.1],bv h.s0.2.2.1,bv h.s0.2.2.2.1,bv h.s0.2.2.2.2,[.bool h.s1.1],[.int .i64 h.s1.2.1],bv h.s1.2.2.1,bv h.s1.2.2.2.1,bv h.s1.2.2.2.2,[.bool h.s2.1],[.int .i64 h.s2.2.1],bv h.s2.2.2.1,bv h.s2.2.2.2.1,bv h.s2.2.2.2.2,[.bool h.s3.1],[.int .i64 h.s3.2.1],bv h.s3.2.2.1,bv h.s3.2.2.2.1,bv h.s3.2.2.2.2] [1,1,1,1,32,32,1,1,32,32,1,1,16,32,32,1,1,16,32,32,1,1,16,32,32,1,1,16,32,32] 62]) ?_ ?_
 ·skip
  refine ww1 fun _ K4=>ww1 fun _ K5=>wpp (sm hE rfl fun a hE=>sb hE rfl rfl bin_lss fun a hE=>?_)
  replace hE := hE.cast 9 rfl (show _ = Value.bool true from (congrArg Value.bool (by decide)))
  refine qa (K5 (wct hE rfl (wp_skip (K4 (ww1 fun _ K6=>wp_block (ww1 fun _ K7=>wpp (sm hE rfl fun a hE=>?_)))))))
  refine sf hE rfl fo62_2 fun a hE=>qp (j := 2) hE rfl rfl arr60 rfl (by decide) rfl fun a hE=>?_
  refine sf hE rfl fo59_0 fun a hE=>qm hE rfl (hM.get 0 rfl) rfl one4 (by intro X h;cases h) rfl fun a hE=>?_
  refine sm hE rfl fun a hE=>?_
  refine hE.split 17 rfl (fun hb17 hE=>?_) (fun hb17 hE=>?_)
  ·refine gy hE rfl (sm hE rfl fun a hE=>gy hE rfl (sf hE rfl fo62_2 fun a hE=>gy hE rfl (qp (j := 2) hE rfl rfl arr60 rfl (by decide) rfl fun a hE=>?_)))
   refine gy hE rfl (sf hE rfl fo59_1 fun a hE=>gy hE rfl (qm hE rfl (hM.get 0 rfl) rfl one3 (by intro X h;cases h) rfl fun a hE=>?_))
   refine gy hE rfl (sb hE rfl rfl bin_gtr fun a hE=>pkt hE rfl fun a hE=>sm hE rfl fun a hE=>?_)
   refine hE.split 25 rfl (fun hb25 hE=>?_) (fun hb25 hE=>?_)
   ·replace hb25 := of_decide_eq_true hb25
    refine gy hE rfl (ql hE rfl (hM.get 0 rfl) row62 rfl (by intro X h;cases h) rfl fun a hE=>?_)
    replace hE := hE.cast 26 rfl (show _ = Value.agg ([[.int .i64 h.m],[.int .i64 h.r],[.bool h.v0.1],[.int .u64 ((h.v0.2.1 : Nat) : Int)],bv h.v0.2.2.1,bv h.v0.2.2.2,[.bool h.v1.1],[.int .u64 ((h.v1.2.1 : Nat) : Int)],bv h.v1.2.2.1,bv h.v1.2.2.2,[.bool h.s0.1],[.int .i64 h.s0.2.1],bv h.s0.2.2.1,bv h.s0.2.2.2.1,bv h.s0.2.2.2.2,[.bool h.s1.1],[.int .i64 h.s1.2.1],bv h.s1.2.2.1,bv h.s1.2.2.2.1,bv h.s1.2.2.2.2,[.bool h.s2.1],[.int .i64 h.s2.2.1],bv h.s2.2.2.1,bv h.s2.2.2.2.1,bv h.s2.2.2.2.2,[.bool h.s3.1],[.int .i64 h.s3.2.1],bv h.s3.2.2.1,bv h.s3.2.2.2.1,bv h.s3.2.2.2.2] : List (List Value)).flatten.toArray from (by first | rfl | simp only [List.flatten_cons,List.flatten_nil,List.append_nil,List.append_assoc]))
    refine gy hE rfl (qn hE rfl Tryd.call54 (rcheck_c h _ hk_h ) rfl ?_)
    rintro e w4 ⟨rfl,hN⟩
    refine ⟨_,rfl,trivial,fun a hE=>?_⟩
    replace hM : Mem _ _ w4 [_] := hM.call0 hN trivial;clear hN
    refine gy hE rfl (sb hE rfl rfl bin_eql fun a hE=>pkt hE rfl fun a hE=>qa (K7 ?_))
    refine hE.split 29 rfl (fun hb29 hE=>?_) (fun hb29 hE=>?_)
    ·replace hb29 := of_decide_eq_true hb29
     replace hb29 : (checkH h) = 0 := by omega
     refine wct hE rfl (ww1 fun _ K8=>wpp (sas hE rfl fun a hE=>qa (K8 (wp_ret (qf (qb (qb ?_)))))))
     exact qf (qb (qi hE rfl rfl ⟨(by first | (simp [largeB,hJ2_0,hJ2_1,hJ2_0,hJ2_1,hb17,hb25,hb29];done) | (simp [largeB,largeS,hJ2_0,hJ2_1,hJ2_0,hJ2_1,hb17,hb25,hb29];done) | (simp [largeB,largeS,hJ2_0,hJ2_1,hJ2_0,hJ2_1,hb17,hb25,hb29];omega)),hM.pick [] rfl⟩))
    ·replace hb29 := of_decide_eq_false hb29
     replace hb29 : ¬ ((checkH h) = 0) := by omega
     refine wcf hE rfl (wp_skip (qe (K6 (wpp (sm hE rfl fun a hE=>sb hE rfl rfl (show Bin _ _ _ _ _ (.int .i64 3) from bin_add (by rw [wrap_i64 (by omega) (by omega)];omega)) fun a hE=>?_)))))
     refine sas hE rfl fun a hE=>qa ?_
     replace hM : Mem _ _ w4 [_] := hM.pick [0] rfl
     refine qd ⟨(by first | (simp [largeS,hJ2_0,hJ2_1,hb17,hb25,hb29];done) | (simp [largeS,hJ2_0,hJ2_1,hb17,hb25,hb29];omega)),hE.sel [1,2,3,6,7] rfl,hM⟩
   ·replace hb25 := of_decide_eq_false hb25
    refine gf hE rfl fun a hE=>gf hE rfl fun a hE=>gf hE rfl fun a hE=>pkf hE rfl fun a hE=>qa (K7 (wcf hE rfl (wp_skip (qe (K6 ?_)))))
    refine wpp (sm hE rfl fun a hE=>sb hE rfl rfl (show Bin _ _ _ _ _ (.int .i64 3) from bin_add (by rw [wrap_i64 (by omega) (by omega)];omega)) fun a hE=>?_)
    refine sas hE rfl fun a hE=>qa ?_
    replace hM : Mem _ _ w3 [_] := hM.pick [0] rfl
    refine qd ⟨(by first | (simp [largeS,hJ2_0,hJ2_1,hb17,hb25];done) | (simp [largeS,hJ2_0,hJ2_1,hb17,hb25];omega)),hE.sel [1,2,3,6,7] rfl,hM⟩
  ·refine gf hE rfl fun a hE=>gf hE rfl fun a hE=>gf hE rfl fun a hE=>gf hE rfl fun a hE=>gf hE rfl fun a hE=>gf hE rfl fun a hE=>pkf hE rfl fun a hE=>sm hE rfl fun a hE=>gf hE rfl fun a hE=>gf hE rfl fun a hE=>?_
   refine gf hE rfl fun a hE=>pkf hE rfl fun a hE=>qa (K7 (wcf hE rfl (wp_skip (qe (K6 (wpp (sm hE rfl fun a hE=>?_)))))))
   refine sb hE rfl rfl (show Bin _ _ _ _ _ (.int .i64 3) from bin_add (by rw [wrap_i64 (by omega) (by omega)];omega)) fun a hE=>?_
   refine sas hE rfl fun a hE=>qa ?_
   replace hM : Mem _ _ w3 [_] := hM.pick [0] rfl
   refine qd ⟨(by first | (simp [largeS,hJ2_0,hJ2_1,hb17];done) | (simp [largeS,hJ2_0,hJ2_1,hb17];omega)),hE.sel [1,2,3,6,7] rfl,hM⟩
 rintro a w4 ⟨hJ2_2,hE,hM⟩
 refine c_roundsJ (fun a w' => largeS h h.s3 = false ∧ Env a 41 [(1,.string (str p)),(2,.int .i64 z),(3,.pointer (some ⟨b3,0,none⟩)),(6,.bool false),(7,.int .i64 4)] ∧ Mem w [] w' [blk b3 [[.int .i64 h.m],[.int .i64 h.r],[.bool h.v0.1],[.int .u64 ((h.v0.2.1 : Nat) : Int)],bv h.v0.2.2.1,bv h.v0.2.2.2,[.bool h.v1.1],[.int .u64 ((h.v1.2.1 : Nat) : Int)],bv h.v1.2.2.1,bv h.v1.2.2.2,[.bool h.s0.1],[.int .i64 h.s0.2.1],bv h.s0.2.2.1,bv h.s0.2.2.2.1,bv h.s0.2.2.2.2,[.bool h.s1.1],[.int .i64 h.s1.2.1],bv h.s1.2.2.1,bv h.s1.2.2.2.1,bv h.s1.2.2.2.2,[.bool h.s2.1],[.int .i64 h.s2.2.1],bv h.s2.2.2.1,bv h.s2.2.2.2.1,bv h.s2.2.2.2.2,[.bool h.s3.1],[.int .i64 h.s3.2.1],bv h.s3.2.2.1,bv h.s3.2.2.2.1,bv h.s3.2.2.2.2] [1,1,1,1,32,32,1,1,32,32,1,1,16,32,32,1,1,16,32,32,1,1,16,32,32,1,1,16,32,32] 62]) ?_ ?_
 ·skip
  refine ww1 fun _ K4=>ww1 fun _ K5=>wpp (sm hE rfl fun a hE=>sb hE rfl rfl bin_lss fun a hE=>?_)
  replace hE := hE.cast 9 rfl (show _ = Value.bool true from (congrArg Value.bool (by decide)))
  refine qa (K5 (wct hE rfl (wp_skip (K4 (ww1 fun _ K6=>wp_block (ww1 fun _ K7=>wpp (sm hE rfl fun a hE=>?_)))))))
  refine sf hE rfl fo62_2 fun a hE=>qp (j := 3) hE rfl rfl arr60 rfl (by decide) rfl fun a hE=>?_
  refine sf hE rfl fo59_0 fun a hE=>qm hE rfl (hM.get 0 rfl) rfl one4 (by intro X h;cases h) rfl fun a hE=>?_
  refine sm hE rfl fun a hE=>?_
  refine hE.split 17 rfl (fun hb17 hE=>?_) (fun hb17 hE=>?_)
  ·refine gy hE rfl (sm hE rfl fun a hE=>gy hE rfl (sf hE rfl fo62_2 fun a hE=>gy hE rfl (qp (j := 3) hE rfl rfl arr60 rfl (by decide) rfl fun a hE=>?_)))
   refine gy hE rfl (sf hE rfl fo59_1 fun a hE=>gy hE rfl (qm hE rfl (hM.get 0 rfl) rfl one3 (by intro X h;cases h) rfl fun a hE=>?_))
   refine gy hE rfl (sb hE rfl rfl bin_gtr fun a hE=>pkt hE rfl fun a hE=>sm hE rfl fun a hE=>?_)
   refine hE.split 25 rfl (fun hb25 hE=>?_) (fun hb25 hE=>?_)
   ·replace hb25 := of_decide_eq_true hb25
    refine gy hE rfl (ql hE rfl (hM.get 0 rfl) row62 rfl (by intro X h;cases h) rfl fun a hE=>?_)
    replace hE := hE.cast 26 rfl (show _ = Value.agg ([[.int .i64 h.m],[.int .i64 h.r],[.bool h.v0.1],[.int .u64 ((h.v0.2.1 : Nat) : Int)],bv h.v0.2.2.1,bv h.v0.2.2.2,[.bool h.v1.1],[.int .u64 ((h.v1.2.1 : Nat) : Int)],bv h.v1.2.2.1,bv h.v1.2.2.2,[.bool h.s0.1],[.int .i64 h.s0.2.1],bv h.s0.2.2.1,bv h.s0.2.2.2.1,bv h.s0.2.2.2.2,[.bool h.s1.1],[.int .i64 h.s1.2.1],bv h.s1.2.2.1,bv h.s1.2.2.2.1,bv h.s1.2.2.2.2,[.bool h.s2.1],[.int .i64 h.s2.2.1],bv h.s2.2.2.1,bv h.s2.2.2.2.1,bv h.s2.2.2.2.2,[.bool h.s3.1],[.int .i64 h.s3.2.1],bv h.s3.2.2.1,bv h.s3.2.2.2.1,bv h.s3.2.2.2.2] : List (List Value)).flatten.toArray from (by first | rfl | simp only [List.flatten_cons,List.flatten_nil,List.append_nil,List.append_assoc]))
    refine gy hE rfl (qn hE rfl Tryd.call54 (rcheck_c h _ hk_h ) rfl ?_)
    rintro e w5 ⟨rfl,hN⟩
    refine ⟨_,rfl,trivial,fun a hE=>?_⟩
    replace hM : Mem _ _ w5 [_] := hM.call0 hN trivial;clear hN
    refine gy hE rfl (sb hE rfl rfl bin_eql fun a hE=>pkt hE rfl fun a hE=>qa (K7 ?_))
    refine hE.split 29 rfl (fun hb29 hE=>?_) (fun hb29 hE=>?_)
    ·replace hb29 := of_decide_eq_true hb29
     replace hb29 : (checkH h) = 0 := by omega
     refine wct hE rfl (ww1 fun _ K8=>wpp (sas hE rfl fun a hE=>qa (K8 (wp_ret (qf (qb (qb ?_)))))))
     exact qf (qb (qi hE rfl rfl ⟨(by first | (simp [largeB,hJ2_0,hJ2_1,hJ2_2,hJ2_0,hJ2_1,hJ2_2,hb17,hb25,hb29];done) | (simp [largeB,largeS,hJ2_0,hJ2_1,hJ2_2,hJ2_0,hJ2_1,hJ2_2,hb17,hb25,hb29];done) | (simp [largeB,largeS,hJ2_0,hJ2_1,hJ2_2,hJ2_0,hJ2_1,hJ2_2,hb17,hb25,hb29];omega)),hM.pick [] rfl⟩))
    ·replace hb29 := of_decide_eq_false hb29
     replace hb29 : ¬ ((checkH h) = 0) := by omega
     refine wcf hE rfl (wp_skip (qe (K6 (wpp (sm hE rfl fun a hE=>sb hE rfl rfl (show Bin _ _ _ _ _ (.int .i64 4) from bin_add (by rw [wrap_i64 (by omega) (by omega)];omega)) fun a hE=>?_)))))
     refine sas hE rfl fun a hE=>qa ?_
     replace hM : Mem _ _ w5 [_] := hM.pick [0] rfl
     refine qd ⟨(by first | (simp [largeS,hJ2_0,hJ2_1,hJ2_2,hb17,hb25,hb29];done) | (simp [largeS,hJ2_0,hJ2_1,hJ2_2,hb17,hb25,hb29];omega)),hE.sel [1,2,3,6,7] rfl,hM⟩
   ·replace hb25 := of_decide_eq_false hb25
    refine gf hE rfl fun a hE=>gf hE rfl fun a hE=>gf hE rfl fun a hE=>pkf hE rfl fun a hE=>qa (K7 (wcf hE rfl (wp_skip (qe (K6 ?_)))))
    refine wpp (sm hE rfl fun a hE=>sb hE rfl rfl (show Bin _ _ _ _ _ (.int .i64 4) from bin_add (by rw [wrap_i64 (by omega) (by omega)];omega)) fun a hE=>?_)
    refine sas hE rfl fun a hE=>qa ?_
    replace hM : Mem _ _ w4 [_] := hM.pick [0] rfl
    refine qd ⟨(by first | (simp [largeS,hJ2_0,hJ2_1,hJ2_2,hb17,hb25];done) | (simp [largeS,hJ2_0,hJ2_1,hJ2_2,hb17,hb25];omega)),hE.sel [1,2,3,6,7] rfl,hM⟩
  ·refine gf hE rfl fun a hE=>gf hE rfl fun a hE=>gf hE rfl fun a hE=>gf hE rfl fun a hE=>gf hE rfl fun a hE=>gf hE rfl fun a hE=>pkf hE rfl fun a hE=>sm hE rfl fun a hE=>gf hE rfl fun a hE=>gf hE rfl fun a hE=>?_
   refine gf hE rfl fun a hE=>pkf hE rfl fun a hE=>qa (K7 (wcf hE rfl (wp_skip (qe (K6 (wpp (sm hE rfl fun a hE=>?_)))))))
   refine sb hE rfl rfl (show Bin _ _ _ _ _ (.int .i64 4) from bin_add (by rw [wrap_i64 (by omega) (by omega)];omega)) fun a hE=>?_
   refine sas hE rfl fun a hE=>qa ?_
   replace hM : Mem _ _ w4 [_] := hM.pick [0] rfl
   refine qd ⟨(by first | (simp [largeS,hJ2_0,hJ2_1,hJ2_2,hb17];done) | (simp [largeS,hJ2_0,hJ2_1,hJ2_2,hb17];omega)),hE.sel [1,2,3,6,7] rfl,hM⟩
 rintro a w5 ⟨hJ2_3,hE,hM⟩
 refine c_rounds (ww1 fun _ K4=>ww1 fun _ K5=>wpp (sm hE rfl fun a hE=>sb hE rfl rfl bin_lss fun a hE=>?_))
 replace hE := hE.cast 9 rfl (show _ = Value.bool false from (congrArg Value.bool (by decide)))
 refine qa (K5 (wcf hE rfl (wp_exit (qc (qc (qg (K2 (ww1 fun _ K6=>wpp ?_))))))))
 refine sm hE rfl fun a hE=>s_len_str hE rfl Tryd.underlying9 rfl fun a hE=>?_
 replace hE := hE.cast 31 rfl (show _ = Value.int .i64 ((p.length : Nat) : Int) from (congrArg (fun n : Nat => Value.int .i64 (n : Int)) (by first | rfl | (simp [*];done) | (simp;omega) | (simp [*];omega))))
 refine sb hE rfl rfl bin_gtr fun a hE=>sm hE rfl fun a hE=>?_
 refine hE.split 33 rfl (fun hb33 hE=>?_) (fun hb33 hE=>?_)
 ·replace hb33 := of_decide_eq_true hb33
  replace hb33 : 1000 < p.length := by omega
  refine gt hE rfl fun a hE=>gt hE rfl fun a hE=>gt hE rfl fun a hE=>g_und hE rfl rfl rfl fun a hE=>g_und hE rfl rfl rfl fun a hE=>gt hE rfl fun a hE=>pkt hE rfl fun a hE=>sas hE rfl fun a hE=>qa (K6 ?_)
  exact wp_ret (qi hE rfl rfl ⟨(by first | (simp [largeB,hJ2_0,hJ2_1,hJ2_2,hJ2_3,hJ2_0,hJ2_1,hJ2_2,hJ2_3,hb33];done) | (simp [largeB,largeS,hJ2_0,hJ2_1,hJ2_2,hJ2_3,hJ2_0,hJ2_1,hJ2_2,hJ2_3,hb33];done) | (simp [largeB,largeS,hJ2_0,hJ2_1,hJ2_2,hJ2_3,hJ2_0,hJ2_1,hJ2_2,hJ2_3,hb33];omega)),hM.pick [] rfl⟩)
 ·replace hb33 := of_decide_eq_false hb33
  replace hb33 : ¬ (1000 < p.length) := by omega
  refine gy hE rfl (sm hE rfl fun a hE=>gy hE rfl (sb hE rfl rfl bin_gtr fun a hE=>gy hE rfl (sm hE rfl fun a hE=>?_)))
  refine hE.split 36 rfl (fun hb36 hE=>?_) (fun hb36 hE=>?_)
  ·replace hb36 := of_decide_eq_true hb36
   refine gy hE rfl (sm hE rfl fun a hE=>gy hE rfl (sb hE rfl rfl bin_leq fun a hE=>gy hE rfl (pkt hE rfl fun a hE=>pkf hE rfl fun a hE=>sas hE rfl fun a hE=>qa (K6 ?_))))
   exact wp_ret (qi hE rfl rfl ⟨(by first | (simp [largeB,hJ2_0,hJ2_1,hJ2_2,hJ2_3,hJ2_0,hJ2_1,hJ2_2,hJ2_3,hb33,hb36];done) | (simp [largeB,largeS,hJ2_0,hJ2_1,hJ2_2,hJ2_3,hJ2_0,hJ2_1,hJ2_2,hJ2_3,hb33,hb36];done) | (simp [largeB,largeS,hJ2_0,hJ2_1,hJ2_2,hJ2_3,hJ2_0,hJ2_1,hJ2_2,hJ2_3,hb33,hb36];omega)),hM.pick [] rfl⟩)
  ·replace hb36 := of_decide_eq_false hb36
   exact gf hE rfl fun a hE=>gf hE rfl fun a hE=>gy hE rfl (pkf hE rfl fun a hE=>pkf hE rfl fun a hE=>sas hE rfl fun a hE=>qa (K6 (wp_ret (qi hE rfl rfl ⟨(by first | (simp [largeB,hJ2_0,hJ2_1,hJ2_2,hJ2_3,hJ2_0,hJ2_1,hJ2_2,hJ2_3,hb33,hb36];done) | (simp [largeB,largeS,hJ2_0,hJ2_1,hJ2_2,hJ2_3,hJ2_0,hJ2_1,hJ2_2,hJ2_3,hb33,hb36];done) | (simp [largeB,largeS,hJ2_0,hJ2_1,hJ2_2,hJ2_3,hJ2_0,hJ2_1,hJ2_2,hJ2_3,hb33,hb36];omega)),hM.pick [] rfl⟩))))
end Go.Proofs.YtniekapfoaiieaaDoor
