/- Walks of functions of the given program that the claim reaches. -/
import Derived.Test.YtniekapfoaiieaaDoorLq
set_option linter.unusedSimpArgs false
set_option linter.unusedVariables false
namespace Go.Proofs.YtniekapfoaiieaaDoor
open Go Go.Kx
theorem zeroL87 : Zero Tryd.prog 87 [bv (List.replicate 32 0),[.string .empty],bv (List.replicate 16 0),[.int .i64 0],bv (List.replicate 32 0),[.string .empty],bv (List.replicate 16 0),[.int .i64 0],bv (List.replicate 32 0),[.string .empty],bv (List.replicate 16 0),[.int .i64 0],bv (List.replicate 32 0),[.string .empty],bv (List.replicate 16 0),[.int .i64 0]] := ⟨.agg ([bv (List.replicate 32 0),[.string .empty],bv (List.replicate 16 0),[.int .i64 0],bv (List.replicate 32 0),[.string .empty],bv (List.replicate 16 0),[.int .i64 0],bv (List.replicate 32 0),[.string .empty],bv (List.replicate 16 0),[.int .i64 0],bv (List.replicate 32 0),[.string .empty],bv (List.replicate 16 0),[.int .i64 0]] : List (List Value)).flatten.toArray,by kernel_rfl,by kernel_rfl⟩
theorem slt86 : slT Tryd.prog 86 = some 52 := by kernel_rfl
theorem fo89_1 : fieldOff Tryd.prog 89 1 = some 1 := by kernel_rfl
theorem row84 : RowT Tryd.prog 84 50 := RowT.of Tryd.underlying84 rfl (by kernel_rfl)
theorem zeroL84 : Zero Tryd.prog 84 [bv (List.replicate 32 0),[.string .empty],bv (List.replicate 16 0),[.int .i64 0]] := ⟨.agg ([bv (List.replicate 32 0),[.string .empty],bv (List.replicate 16 0),[.int .i64 0]] : List (List Value)).flatten.toArray,by kernel_rfl,by kernel_rfl⟩
theorem sz84 : (Tryd.prog.info? 84).map (·.size) = some 50 := by kernel_rfl
theorem fo84_1 : fieldOff Tryd.prog 84 1 = some 32 := by kernel_rfl
theorem one9 : OneT Tryd.prog 9 := OneT.of Tryd.underlying9 rfl (by kernel_rfl)
theorem fo84_3 : fieldOff Tryd.prog 84 3 = some 49 := by kernel_rfl
theorem fo89_0 : fieldOff Tryd.prog 89 0 = some 0 := by kernel_rfl
theorem fo84_2 : fieldOff Tryd.prog 84 2 = some 33 := by kernel_rfl
theorem arr87 : arrT Tryd.prog 87 = some (4,50) := by kernel_rfl
theorem fo89_2 : fieldOff Tryd.prog 89 2 = some 51 := by kernel_rfl
set_option maxRecDepth 20000 in
set_option maxHeartbeats 8000000 in
theorem slotsApart_c (y : List UInt8) (vt : Value) (ts : List Tn) (ct : Nat) (w : World) (hG : (glb 1).holds w) (hT : tabP.holds w) (hl_y : y.length = 32) (hr_ts : (rd vt 52 ts.length ct (ts.flatMap tnC)).holds w) (ho_ts : ∀ x,x ∈ ts → OkT x) : Calls Tryd.prog 12 #[.agg (bv y).toArray,vt] w fun e w' => e = .returned (.bool true) ∧ Mem w [] w' [] := by
 have hM : Mem w [] w [rd vt 52 ts.length ct (ts.flatMap tnC),glb 1,tabP] := Mem.startR w (fun g hg => by
  simp only [List.mem_cons,List.not_mem_nil,or_false] at hg
  rcases hg with rfl | rfl | rfl
  ·exact ⟨hr_ts,rfl⟩
  ·exact ⟨hG,rfl⟩
  ·exact ⟨hT,rfl⟩)
 refine ve 173 Tryd.func12 rfl rfl rfl ?_
 intro a hE
 replace hE : Env a 173 [(0,_),(1,_)] := hE
 refine ww1 fun _ K1=>wpp ?_
 have hul := usedL_len (h := (stT y ts ts.length).1)
 refine s_box (ss := [bv y]) [32] hE hM rfl (by simp [Value.cells]) (by simp [*]) rfl fun a b2 w1 hE hM=>?_
 refine sas hE rfl fun a hE=>qa (K1 (ww1 fun _ K2=>ww1 fun _ K3=>wpp (sm hE rfl fun a hE=>s_len hE rfl Tryd.underlying86 (rd_slice (hM.get 1 rfl)) rfl fun a hE=>sb hE rfl rfl bin_gtr fun a hE=>qa ?_)))
 refine K3 ?_
 refine hE.split 23 rfl (fun hb23 hE=>?_) (fun hb23 hE=>?_)
 ·replace hb23 := of_decide_eq_true hb23
  replace hb23 : 8 < ts.length := by omega
  refine wct hE rfl (ww1 fun _ K4=>wpp (qn hE rfl Tryd.call28 (awake25_c  _ (hM.get 2 rfl) (hM.get 3 rfl)) rfl ?_))
  rintro e w2 ⟨rfl,hN⟩
  refine ⟨_,rfl,trivial,fun a hE=>?_⟩
  replace hM : Mem _ _ w2 [_,_,_,_] := hM.call0 hN trivial;clear hN
  exact sas hE rfl fun a hE=>qa (K4 (wp_ret (qb (qi hE rfl rfl ⟨(by first | rfl | (simp;done)),hM.pick [] rfl⟩))))
 ·replace hb23 := of_decide_eq_false hb23
  replace hb23 : ¬ (8 < ts.length) := by omega
  refine wcf hE rfl (wp_skip (K2 (ww1 fun _ K4=>wpp (qn hE rfl Tryd.call38 (empty25_c  _ ) rfl ?_))))
  rintro e w2 ⟨rfl,hN⟩
  refine ⟨_,rfl,trivial,fun a hE=>?_⟩
  replace hM : Mem _ _ w2 [_,_,_,_] := hM.call0 hN trivial;clear hN
  refine qo [1,1,1,1,32,32,1,1,32,32,1,1,16,32,32,1,1,16,32,32,1,1,16,32,32,1,1,16,32,32] hE hM zeroL62 rfl rfl fun a b5 w3 hE hM=>?_
  have hsl60_4 : emptyH.v0.2.2.1.length = 32 := emptyH_ok.v0.2.1
  have hsl60_5 : emptyH.v0.2.2.2.length = 32 := emptyH_ok.v0.2.2
  have hsl60_8 : emptyH.v1.2.2.1.length = 32 := emptyH_ok.v1.2.1
  have hsl60_9 : emptyH.v1.2.2.2.length = 32 := emptyH_ok.v1.2.2
  have hsl60_12 : emptyH.s0.2.2.1.length = 16 := emptyH_ok.s0.2.1
  have hsl60_13 : emptyH.s0.2.2.2.1.length = 32 := emptyH_ok.s0.2.2.1
  have hsl60_14 : emptyH.s0.2.2.2.2.length = 32 := emptyH_ok.s0.2.2.2
  have hsl60_17 : emptyH.s1.2.2.1.length = 16 := emptyH_ok.s1.2.1
  have hsl60_18 : emptyH.s1.2.2.2.1.length = 32 := emptyH_ok.s1.2.2.1
  have hsl60_19 : emptyH.s1.2.2.2.2.length = 32 := emptyH_ok.s1.2.2.2
  have hsl60_22 : emptyH.s2.2.2.1.length = 16 := emptyH_ok.s2.2.1
  have hsl60_23 : emptyH.s2.2.2.2.1.length = 32 := emptyH_ok.s2.2.2.1
  have hsl60_24 : emptyH.s2.2.2.2.2.length = 32 := emptyH_ok.s2.2.2.2
  have hsl60_27 : emptyH.s3.2.2.1.length = 16 := emptyH_ok.s3.2.1
  have hsl60_28 : emptyH.s3.2.2.2.1.length = 32 := emptyH_ok.s3.2.2.1
  have hsl60_29 : emptyH.s3.2.2.2.2.length = 32 := emptyH_ok.s3.2.2.2
  refine qq 0 30 (vss := [[.int .i64 emptyH.m],[.int .i64 emptyH.r],[.bool emptyH.v0.1],[.int .u64 ((emptyH.v0.2.1 : Nat) : Int)],bv emptyH.v0.2.2.1,bv emptyH.v0.2.2.2,[.bool emptyH.v1.1],[.int .u64 ((emptyH.v1.2.1 : Nat) : Int)],bv emptyH.v1.2.2.1,bv emptyH.v1.2.2.2,[.bool emptyH.s0.1],[.int .i64 emptyH.s0.2.1],bv emptyH.s0.2.2.1,bv emptyH.s0.2.2.2.1,bv emptyH.s0.2.2.2.2,[.bool emptyH.s1.1],[.int .i64 emptyH.s1.2.1],bv emptyH.s1.2.2.1,bv emptyH.s1.2.2.2.1,bv emptyH.s1.2.2.2.2,[.bool emptyH.s2.1],[.int .i64 emptyH.s2.2.1],bv emptyH.s2.2.2.1,bv emptyH.s2.2.2.2.1,bv emptyH.s2.2.2.2.2,[.bool emptyH.s3.1],[.int .i64 emptyH.s3.2.1],bv emptyH.s3.2.2.1,bv emptyH.s3.2.2.2.1,bv emptyH.s3.2.2.2.2]) hE rfl rfl hM rfl sz62 (by simp only [List.take_succ_cons,List.take_zero,List.drop_zero,List.drop_succ_cons];simp only [List.map_cons,List.map_nil,vh,List.length_cons,List.length_nil,List.length_replicate,hsl60_4,hsl60_5,hsl60_8,hsl60_9,hsl60_12,hsl60_13,hsl60_14,hsl60_17,hsl60_18,hsl60_19,hsl60_22,hsl60_23,hsl60_24,hsl60_27,hsl60_28,hsl60_29]) (by decide) rfl (one_fl ⟨one1 rfl,one1 rfl,one1 rfl,one1 rfl,vc _,vc _,one1 rfl,one1 rfl,vc _,vc _,one1 rfl,one1 rfl,vc _,vc _,vc _,one1 rfl,one1 rfl,vc _,vc _,vc _,one1 rfl,one1 rfl,vc _,vc _,vc _,one1 rfl,one1 rfl,vc _,vc _,vc _,trivial⟩) rfl (by intro X h;cases h) fun w4 hM=>?_
  try simp only [List.take_zero,List.take_succ_cons,List.drop_zero,List.drop_succ_cons,List.take_nil,List.drop_nil,List.nil_append,List.append_nil,List.cons_append] at hM
  refine qa (K4 (ww1 fun _ K5=>wpp (qo [32,1,16,1,32,1,16,1,32,1,16,1,32,1,16,1] hE hM zeroL87 rfl rfl fun a b6 w5 hE hM=>qa (K5 (ww1 fun _ K6=>ww1 fun _ K7=>wpp ?_)))))
  refine sas hE rfl fun a hE=>qa (K7 (wp_block ?_))
  replace hM : Mem _ _ w5 [_,_,_,_,_,_] := hM.pick [1,0,2,3,4,5] rfl
  replace hM := Mem.blkEq (ss := [[.int .i64 emptyH.m],[.int .i64 emptyH.r],[.bool emptyH.v0.1],[.int .u64 ((emptyH.v0.2.1 : Nat) : Int)],bv emptyH.v0.2.2.1,bv emptyH.v0.2.2.2,[.bool emptyH.v1.1],[.int .u64 ((emptyH.v1.2.1 : Nat) : Int)],bv emptyH.v1.2.2.1,bv emptyH.v1.2.2.2,[.bool emptyH.s0.1],[.int .i64 emptyH.s0.2.1],bv emptyH.s0.2.2.1,bv emptyH.s0.2.2.2.1,bv emptyH.s0.2.2.2.2,[.bool emptyH.s1.1],[.int .i64 emptyH.s1.2.1],bv emptyH.s1.2.2.1,bv emptyH.s1.2.2.2.1,bv emptyH.s1.2.2.2.2,[.bool emptyH.s2.1],[.int .i64 emptyH.s2.2.1],bv emptyH.s2.2.2.1,bv emptyH.s2.2.2.2.1,bv emptyH.s2.2.2.2.2,[.bool emptyH.s3.1],[.int .i64 emptyH.s3.2.1],bv emptyH.s3.2.2.1,bv emptyH.s3.2.2.2.1,bv emptyH.s3.2.2.2.2]) (ss' := [[.int .i64 (((stT y ts 0).1).m)],[.int .i64 (((stT y ts 0).1).r)],[.bool (((stT y ts 0).1).v0.1)],[.int .u64 ((((stT y ts 0).1).v0.2.1 : Nat) : Int)],bv (((stT y ts 0).1).v0.2.2.1),bv (((stT y ts 0).1).v0.2.2.2),[.bool (((stT y ts 0).1).v1.1)],[.int .u64 ((((stT y ts 0).1).v1.2.1 : Nat) : Int)],bv (((stT y ts 0).1).v1.2.2.1),bv (((stT y ts 0).1).v1.2.2.2),[.bool (((stT y ts 0).1).s0.1)],[.int .i64 (((stT y ts 0).1).s0.2.1)],bv (((stT y ts 0).1).s0.2.2.1),bv (((stT y ts 0).1).s0.2.2.2.1),bv (((stT y ts 0).1).s0.2.2.2.2),[.bool (((stT y ts 0).1).s1.1)],[.int .i64 (((stT y ts 0).1).s1.2.1)],bv (((stT y ts 0).1).s1.2.2.1),bv (((stT y ts 0).1).s1.2.2.2.1),bv (((stT y ts 0).1).s1.2.2.2.2),[.bool (((stT y ts 0).1).s2.1)],[.int .i64 (((stT y ts 0).1).s2.2.1)],bv (((stT y ts 0).1).s2.2.2.1),bv (((stT y ts 0).1).s2.2.2.2.1),bv (((stT y ts 0).1).s2.2.2.2.2),[.bool (((stT y ts 0).1).s3.1)],[.int .i64 (((stT y ts 0).1).s3.2.1)],bv (((stT y ts 0).1).s3.2.2.1),bv (((stT y ts 0).1).s3.2.2.2.1),bv (((stT y ts 0).1).s3.2.2.2.2)]) hM rfl
  replace hM : Mem _ _ w5 [_,_,_,_,_,_] := hM.pick [1,0,2,3,4,5] rfl
  replace hM := Mem.blkEq (ss := [bv (List.replicate 32 (0 : UInt8)),[.string .empty],bv (List.replicate 16 (0 : UInt8)),[.int .i64 0],bv (List.replicate 32 (0 : UInt8)),[.string .empty],bv (List.replicate 16 (0 : UInt8)),[.int .i64 0],bv (List.replicate 32 (0 : UInt8)),[.string .empty],bv (List.replicate 16 (0 : UInt8)),[.int .i64 0],bv (List.replicate 32 (0 : UInt8)),[.string .empty],bv (List.replicate 16 (0 : UInt8)),[.int .i64 0]]) (ss' := [bv (((stT y ts 0).2).n0.1),[.string (str ((stT y ts 0).2).n0.2.1)],bv (((stT y ts 0).2).n0.2.2.1),[.int .i64 (((stT y ts 0).2).n0.2.2.2)],bv (((stT y ts 0).2).n1.1),[.string (str ((stT y ts 0).2).n1.2.1)],bv (((stT y ts 0).2).n1.2.2.1),[.int .i64 (((stT y ts 0).2).n1.2.2.2)],bv (((stT y ts 0).2).n2.1),[.string (str ((stT y ts 0).2).n2.2.1)],bv (((stT y ts 0).2).n2.2.2.1),[.int .i64 (((stT y ts 0).2).n2.2.2.2)],bv (((stT y ts 0).2).n3.1),[.string (str ((stT y ts 0).2).n3.2.1)],bv (((stT y ts 0).2).n3.2.2.1),[.int .i64 (((stT y ts 0).2).n3.2.2.2)]]) hM rfl
  refine c_loop (fun (i : Nat) a w' => i ≤ ts.length ∧ Env a 173 [(1,vt),(2,.pointer (some ⟨b2,0,none⟩)),(4,.bool false),(5,.pointer (some ⟨b5,0,none⟩)),(6,.pointer (some ⟨b6,0,none⟩)),(7,.int .i64 ((i : Nat) : Int)),(23,.bool false)] ∧ Mem w [] w' [blk b6 [bv (((stT y ts i).2).n0.1),[.string (str ((stT y ts i).2).n0.2.1)],bv (((stT y ts i).2).n0.2.2.1),[.int .i64 (((stT y ts i).2).n0.2.2.2)],bv (((stT y ts i).2).n1.1),[.string (str ((stT y ts i).2).n1.2.1)],bv (((stT y ts i).2).n1.2.2.1),[.int .i64 (((stT y ts i).2).n1.2.2.2)],bv (((stT y ts i).2).n2.1),[.string (str ((stT y ts i).2).n2.2.1)],bv (((stT y ts i).2).n2.2.2.1),[.int .i64 (((stT y ts i).2).n2.2.2.2)],bv (((stT y ts i).2).n3.1),[.string (str ((stT y ts i).2).n3.2.1)],bv (((stT y ts i).2).n3.2.2.1),[.int .i64 (((stT y ts i).2).n3.2.2.2)]] [32,1,16,1,32,1,16,1,32,1,16,1,32,1,16,1] 87,blk b5 [[.int .i64 (((stT y ts i).1).m)],[.int .i64 (((stT y ts i).1).r)],[.bool (((stT y ts i).1).v0.1)],[.int .u64 ((((stT y ts i).1).v0.2.1 : Nat) : Int)],bv (((stT y ts i).1).v0.2.2.1),bv (((stT y ts i).1).v0.2.2.2),[.bool (((stT y ts i).1).v1.1)],[.int .u64 ((((stT y ts i).1).v1.2.1 : Nat) : Int)],bv (((stT y ts i).1).v1.2.2.1),bv (((stT y ts i).1).v1.2.2.2),[.bool (((stT y ts i).1).s0.1)],[.int .i64 (((stT y ts i).1).s0.2.1)],bv (((stT y ts i).1).s0.2.2.1),bv (((stT y ts i).1).s0.2.2.2.1),bv (((stT y ts i).1).s0.2.2.2.2),[.bool (((stT y ts i).1).s1.1)],[.int .i64 (((stT y ts i).1).s1.2.1)],bv (((stT y ts i).1).s1.2.2.1),bv (((stT y ts i).1).s1.2.2.2.1),bv (((stT y ts i).1).s1.2.2.2.2),[.bool (((stT y ts i).1).s2.1)],[.int .i64 (((stT y ts i).1).s2.2.1)],bv (((stT y ts i).1).s2.2.2.1),bv (((stT y ts i).1).s2.2.2.2.1),bv (((stT y ts i).1).s2.2.2.2.2),[.bool (((stT y ts i).1).s3.1)],[.int .i64 (((stT y ts i).1).s3.2.1)],bv (((stT y ts i).1).s3.2.2.1),bv (((stT y ts i).1).s3.2.2.2.1),bv (((stT y ts i).1).s3.2.2.2.2)] [1,1,1,1,32,32,1,1,32,32,1,1,16,32,32,1,1,16,32,32,1,1,16,32,32,1,1,16,32,32] 62,blk b2 [bv y] [32] 23,rd vt 52 ts.length ct (ts.flatMap tnC),glb 1,tabP]) (fun i => ts.length - i) 0 ⟨Nat.zero_le _,hE.sel [1,2,4,5,6,7,23] rfl,hM⟩ ?_
  rintro i a w6 ⟨hi,hE,hM⟩
  refine ww1 fun _ K8=>ww1 fun _ K9=>wpp (sm hE rfl fun a hE=>sm hE rfl fun a hE=>s_len hE rfl Tryd.underlying86 (rd_slice (hM.get 3 rfl)) rfl fun a hE=>sb hE rfl rfl bin_lss fun a hE=>qa (K9 ?_))
  refine hE.split 29 rfl (fun hb29 hE=>?_) (fun hb29 hE=>?_)
  ·replace hb29 := of_decide_eq_true hb29
   replace hb29 : i < ts.length := by omega
   replace hb29 : i < ts.length := by omega
   refine wct hE rfl (wp_skip (K8 (ww1 fun _ K10=>wp_block (ww1 fun _ K11=>wpp (sm hE rfl fun a hE=>sm hE rfl fun a hE=>qu (j := i) hE rfl (hM.get 3 rfl) rfl slt86 (by first | rfl | omega) (by omega) rfl fun a p34 hE hc34 hp34=>?_)))))
   have hlj34 : i < ts.length := (by omega)
   have hok34 := ho_ts _ (getD_mem (d := zTn) hlj34)
   rw [flat_elem (d := zTn) (fun x hx => tnC_len (ho_ts x hx)) hlj34] at hc34
   have hxt : OkT (ts.getD i zTn) := getT_ok ho_ts i
   have hxz : In64 (ts.getD i zTn).2.1.2.2.2 := hxt.1.2.2
   have hxo : In64 (ts.getD i zTn).2.2 := hxt.2
   have hxz1 := hxz.1
   have hxz2 := hxz.2
   refine s_fieldAtN (m := 50) hE rfl hc34 fo89_1 rfl fun a p35 hE hc35 hp35=>?_
   rw [tnC_new hxt] at hc35
   refine s_loadAtN hE rfl hc35 (by rw [new_len hxt];exact row84) (by intro X h;cases h) rfl fun a hE=>?_
   refine qo [32,1,16,1] hE hM zeroL84 rfl rfl fun a b8 w7 hE hM=>?_
   have hsl138_0 : ((ts.getD i zTn).2.1.1).length = 32 := hxt.1.1
   have hsl138_2 : ((ts.getD i zTn).2.1.2.2.1).length = 16 := hxt.1.2.1
   refine qq 0 4 (vss := [bv ((ts.getD i zTn).2.1.1),[.string (str (ts.getD i zTn).2.1.2.1)],bv ((ts.getD i zTn).2.1.2.2.1),[.int .i64 ((ts.getD i zTn).2.1.2.2.2)]]) hE rfl rfl hM rfl sz84 (by simp only [List.take_succ_cons,List.take_zero,List.drop_zero,List.drop_succ_cons];simp only [List.map_cons,List.map_nil,vh,List.length_cons,List.length_nil,List.length_replicate,hsl138_0,hsl138_2]) (by decide) rfl (one_fl ⟨vc _,one1 rfl,vc _,one1 rfl,trivial⟩) rfl (by intro X h;cases h) fun w8 hM=>?_
   try simp only [List.take_zero,List.take_succ_cons,List.drop_zero,List.drop_succ_cons,List.take_nil,List.drop_nil,List.nil_append,List.append_nil,List.cons_append] at hM
   refine qa (K11 (ww1 fun _ K12=>ww1 fun _ K13=>wpp (ql hE rfl (hM.get 2 rfl) row62 rfl (by intro X h;cases h) rfl fun a hE=>?_)))
   replace hE := hE.cast 37 rfl (show _ = Value.agg ([[.int .i64 (((stT y ts i).1).m)],[.int .i64 (((stT y ts i).1).r)],[.bool (((stT y ts i).1).v0.1)],[.int .u64 ((((stT y ts i).1).v0.2.1 : Nat) : Int)],bv (((stT y ts i).1).v0.2.2.1),bv (((stT y ts i).1).v0.2.2.2),[.bool (((stT y ts i).1).v1.1)],[.int .u64 ((((stT y ts i).1).v1.2.1 : Nat) : Int)],bv (((stT y ts i).1).v1.2.2.1),bv (((stT y ts i).1).v1.2.2.2),[.bool (((stT y ts i).1).s0.1)],[.int .i64 (((stT y ts i).1).s0.2.1)],bv (((stT y ts i).1).s0.2.2.1),bv (((stT y ts i).1).s0.2.2.2.1),bv (((stT y ts i).1).s0.2.2.2.2),[.bool (((stT y ts i).1).s1.1)],[.int .i64 (((stT y ts i).1).s1.2.1)],bv (((stT y ts i).1).s1.2.2.1),bv (((stT y ts i).1).s1.2.2.2.1),bv (((stT y ts i).1).s1.2.2.2.2),[.bool (((stT y ts i).1).s2.1)],[.int .i64 (((stT y ts i).1).s2.2.1)],bv (((stT y ts i).1).s2.2.2.1),bv (((stT y ts i).1).s2.2.2.2.1),bv (((stT y ts i).1).s2.2.2.2.2),[.bool (((stT y ts i).1).s3.1)],[.int .i64 (((stT y ts i).1).s3.2.1)],bv (((stT y ts i).1).s3.2.2.1),bv (((stT y ts i).1).s3.2.2.2.1),bv (((stT y ts i).1).s3.2.2.2.2)] : List (List Value)).flatten.toArray from (by first | rfl | simp only [List.flatten_cons,List.flatten_nil,List.append_nil,List.append_assoc]))
   refine sf hE rfl fo84_1 fun a hE=>qm hE rfl (hM.get 0 rfl) rfl one9 (by intro X h;cases h) rfl fun a hE=>?_
   refine sf hE rfl fo84_3 fun a hE=>qm hE rfl (hM.get 0 rfl) rfl one3 (by intro X h;cases h) rfl fun a hE=>?_
   refine qn hE rfl Tryd.call27 (large25_c ((stT y ts i).1) ((ts.getD i zTn).2.1.2.1) ((ts.getD i zTn).2.1.2.2.2) _ ((stT_ok hl_y ho_ts i).1)) rfl ?_
   rintro e w9 ⟨rfl,hN⟩
   refine ⟨_,rfl,trivial,fun a hE=>?_⟩
   replace hM : Mem _ _ w9 [_,_,_,_,_,_,_] := hM.call0 hN trivial;clear hN
   refine qa (K13 ?_)
   refine hE.split 42 rfl (fun hb42 hE=>?_) (fun hb42 hE=>?_)
   ·refine wct hE rfl (ww1 fun _ K14=>wpp (qn hE rfl Tryd.call28 (awake25_c  _ (hM.get 5 rfl) (hM.get 6 rfl)) rfl ?_))
    rintro e w10 ⟨rfl,hN⟩
    refine ⟨_,rfl,trivial,fun a hE=>?_⟩
    replace hM : Mem _ _ w10 [_,_,_,_,_,_,_] := hM.call0 hN trivial;clear hN
    refine sas hE rfl fun a hE=>qa (K14 (wp_ret (qb (qf (qb (qb (qf (qb ?_))))))))
    exact qi hE rfl rfl ⟨(by first | rfl | (simp;done)),hM.pick [] rfl⟩
   ·refine wcf hE rfl (wp_skip (K12 (ww1 fun _ K14=>ww1 fun _ K15=>wpp (sm hE rfl fun a hE=>sm hE rfl fun a hE=>qu (j := i) hE rfl (hM.get 4 rfl) rfl slt86 (by first | rfl | omega) (by omega) rfl fun a p46 hE hc46 hp46=>?_))))
    have hlj46 : i < ts.length := (by omega)
    have hok46 := ho_ts _ (getD_mem (d := zTn) hlj46)
    rw [flat_elem (d := zTn) (fun x hx => tnC_len (ho_ts x hx)) hlj46] at hc46
    refine s_fieldAtN (m := 1) hE rfl hc46 fo89_0 rfl fun a p47 hE hc47 hp47=>?_
    rw [tnC_used _] at hc47
    refine qt hE rfl hc47 one4 (by intro X h;cases h) rfl fun a hE=>?_
    refine qa (K15 ?_)
    refine hE.split 48 rfl (fun hb48 hE=>?_) (fun hb48 hE=>?_)
    ·refine wct hE rfl (ww1 fun _ K16=>wpp (ql hE rfl (hM.get 2 rfl) row62 rfl (by intro X h;cases h) rfl fun a hE=>?_))
     replace hE := hE.cast 50 rfl (show _ = Value.agg ([[.int .i64 (((stT y ts i).1).m)],[.int .i64 (((stT y ts i).1).r)],[.bool (((stT y ts i).1).v0.1)],[.int .u64 ((((stT y ts i).1).v0.2.1 : Nat) : Int)],bv (((stT y ts i).1).v0.2.2.1),bv (((stT y ts i).1).v0.2.2.2),[.bool (((stT y ts i).1).v1.1)],[.int .u64 ((((stT y ts i).1).v1.2.1 : Nat) : Int)],bv (((stT y ts i).1).v1.2.2.1),bv (((stT y ts i).1).v1.2.2.2),[.bool (((stT y ts i).1).s0.1)],[.int .i64 (((stT y ts i).1).s0.2.1)],bv (((stT y ts i).1).s0.2.2.1),bv (((stT y ts i).1).s0.2.2.2.1),bv (((stT y ts i).1).s0.2.2.2.2),[.bool (((stT y ts i).1).s1.1)],[.int .i64 (((stT y ts i).1).s1.2.1)],bv (((stT y ts i).1).s1.2.2.1),bv (((stT y ts i).1).s1.2.2.2.1),bv (((stT y ts i).1).s1.2.2.2.2),[.bool (((stT y ts i).1).s2.1)],[.int .i64 (((stT y ts i).1).s2.2.1)],bv (((stT y ts i).1).s2.2.2.1),bv (((stT y ts i).1).s2.2.2.2.1),bv (((stT y ts i).1).s2.2.2.2.2),[.bool (((stT y ts i).1).s3.1)],[.int .i64 (((stT y ts i).1).s3.2.1)],bv (((stT y ts i).1).s3.2.2.1),bv (((stT y ts i).1).s3.2.2.2.1),bv (((stT y ts i).1).s3.2.2.2.2)] : List (List Value)).flatten.toArray from (by first | rfl | simp only [List.flatten_cons,List.flatten_nil,List.append_nil,List.append_assoc]))
     refine ql hE rfl (hM.get 3 rfl) row23 rfl (by intro X h;cases h) rfl fun a hE=>?_
     refine sf hE rfl fo84_1 fun a hE=>qm hE rfl (hM.get 0 rfl) rfl one9 (by intro X h;cases h) rfl fun a hE=>?_
     refine sf hE rfl fo84_2 fun a hE=>ql hE rfl (hM.get 0 rfl) row57 rfl (by intro X h;cases h) rfl fun a hE=>?_
     refine sf hE rfl fo84_3 fun a hE=>qm hE rfl (hM.get 0 rfl) rfl one3 (by intro X h;cases h) rfl fun a hE=>?_
     refine qn hE rfl Tryd.call37 (add_c ((stT y ts i).1) y ((ts.getD i zTn).2.1.2.1) ((ts.getD i zTn).2.1.2.2.1) ((ts.getD i zTn).2.1.2.2.2) _ (hM.get 5 rfl) (hM.get 6 rfl) ((stT_ok hl_y ho_ts i).1) hl_y hxt.1.2.1 (by have hl_1 : y.length = 32 := hl_y;have hl_2 : ((ts.getD i zTn).2.1.2.1).length = (ts.getD i zTn).2.1.2.1.length := (by first | (simp;done) | (simp [*];done) | (simp;omega));have hl_3 : ((ts.getD i zTn).2.1.2.2.1).length = 16 := hxt.1.2.1;first | omega | assumption | (simp;done) | (simp;omega) | decide)) rfl ?_
     rintro e w10 ⟨rfl,hN⟩
     refine ⟨_,rfl,trivial,fun a hE=>?_⟩
     replace hM : Mem _ _ w10 [_,_,_,_,_,_,_] := hM.call0 hN trivial;clear hN
     refine sm hE rfl fun a hE=>sx hE rfl fun a hE=>sx hE rfl fun a hE=>sx hE rfl fun a hE=>qo [1,1,1,1,32,32,1,1,32,32,1,1,16,32,32,1,1,16,32,32,1,1,16,32,32,1,1,16,32,32] hE hM zeroL62 rfl rfl fun a b9 w11 hE hM=>?_
     have hsl226_4 : (((addS ((stT y ts i).1) y ((ts.getD i zTn).2.1.2.1) ((ts.getD i zTn).2.1.2.2.1) ((ts.getD i zTn).2.1.2.2.2)).1).v0.2.2.1).length = 32 := (addS_ok (h := ((stT y ts i).1)) (x := y) (p := ((ts.getD i zTn).2.1.2.1)) (b := ((ts.getD i zTn).2.1.2.2.1)) (z := ((ts.getD i zTn).2.1.2.2.2)) ((stT_ok hl_y ho_ts i).1) (by first | assumption | decide | (unfold In64;omega)) (by have hl_ab : ((ts.getD i zTn).2.1.2.2.1).length = 16 := hxt.1.2.1;first | assumption | (simp;done)) (by have hl_ax : y.length = 32 := hl_y;first | assumption | (simp;done))).v0.2.1
     have hsl226_5 : (((addS ((stT y ts i).1) y ((ts.getD i zTn).2.1.2.1) ((ts.getD i zTn).2.1.2.2.1) ((ts.getD i zTn).2.1.2.2.2)).1).v0.2.2.2).length = 32 := (addS_ok (h := ((stT y ts i).1)) (x := y) (p := ((ts.getD i zTn).2.1.2.1)) (b := ((ts.getD i zTn).2.1.2.2.1)) (z := ((ts.getD i zTn).2.1.2.2.2)) ((stT_ok hl_y ho_ts i).1) (by first | assumption | decide | (unfold In64;omega)) (by have hl_ab : ((ts.getD i zTn).2.1.2.2.1).length = 16 := hxt.1.2.1;first | assumption | (simp;done)) (by have hl_ax : y.length = 32 := hl_y;first | assumption | (simp;done))).v0.2.2
     have hsl226_8 : (((addS ((stT y ts i).1) y ((ts.getD i zTn).2.1.2.1) ((ts.getD i zTn).2.1.2.2.1) ((ts.getD i zTn).2.1.2.2.2)).1).v1.2.2.1).length = 32 := (addS_ok (h := ((stT y ts i).1)) (x := y) (p := ((ts.getD i zTn).2.1.2.1)) (b := ((ts.getD i zTn).2.1.2.2.1)) (z := ((ts.getD i zTn).2.1.2.2.2)) ((stT_ok hl_y ho_ts i).1) (by first | assumption | decide | (unfold In64;omega)) (by have hl_ab : ((ts.getD i zTn).2.1.2.2.1).length = 16 := hxt.1.2.1;first | assumption | (simp;done)) (by have hl_ax : y.length = 32 := hl_y;first | assumption | (simp;done))).v1.2.1
     have hsl226_9 : (((addS ((stT y ts i).1) y ((ts.getD i zTn).2.1.2.1) ((ts.getD i zTn).2.1.2.2.1) ((ts.getD i zTn).2.1.2.2.2)).1).v1.2.2.2).length = 32 := (addS_ok (h := ((stT y ts i).1)) (x := y) (p := ((ts.getD i zTn).2.1.2.1)) (b := ((ts.getD i zTn).2.1.2.2.1)) (z := ((ts.getD i zTn).2.1.2.2.2)) ((stT_ok hl_y ho_ts i).1) (by first | assumption | decide | (unfold In64;omega)) (by have hl_ab : ((ts.getD i zTn).2.1.2.2.1).length = 16 := hxt.1.2.1;first | assumption | (simp;done)) (by have hl_ax : y.length = 32 := hl_y;first | assumption | (simp;done))).v1.2.2
     have hsl226_12 : (((addS ((stT y ts i).1) y ((ts.getD i zTn).2.1.2.1) ((ts.getD i zTn).2.1.2.2.1) ((ts.getD i zTn).2.1.2.2.2)).1).s0.2.2.1).length = 16 := (addS_ok (h := ((stT y ts i).1)) (x := y) (p := ((ts.getD i zTn).2.1.2.1)) (b := ((ts.getD i zTn).2.1.2.2.1)) (z := ((ts.getD i zTn).2.1.2.2.2)) ((stT_ok hl_y ho_ts i).1) (by first | assumption | decide | (unfold In64;omega)) (by have hl_ab : ((ts.getD i zTn).2.1.2.2.1).length = 16 := hxt.1.2.1;first | assumption | (simp;done)) (by have hl_ax : y.length = 32 := hl_y;first | assumption | (simp;done))).s0.2.1
     have hsl226_13 : (((addS ((stT y ts i).1) y ((ts.getD i zTn).2.1.2.1) ((ts.getD i zTn).2.1.2.2.1) ((ts.getD i zTn).2.1.2.2.2)).1).s0.2.2.2.1).length = 32 := (addS_ok (h := ((stT y ts i).1)) (x := y) (p := ((ts.getD i zTn).2.1.2.1)) (b := ((ts.getD i zTn).2.1.2.2.1)) (z := ((ts.getD i zTn).2.1.2.2.2)) ((stT_ok hl_y ho_ts i).1) (by first | assumption | decide | (unfold In64;omega)) (by have hl_ab : ((ts.getD i zTn).2.1.2.2.1).length = 16 := hxt.1.2.1;first | assumption | (simp;done)) (by have hl_ax : y.length = 32 := hl_y;first | assumption | (simp;done))).s0.2.2.1
     have hsl226_14 : (((addS ((stT y ts i).1) y ((ts.getD i zTn).2.1.2.1) ((ts.getD i zTn).2.1.2.2.1) ((ts.getD i zTn).2.1.2.2.2)).1).s0.2.2.2.2).length = 32 := (addS_ok (h := ((stT y ts i).1)) (x := y) (p := ((ts.getD i zTn).2.1.2.1)) (b := ((ts.getD i zTn).2.1.2.2.1)) (z := ((ts.getD i zTn).2.1.2.2.2)) ((stT_ok hl_y ho_ts i).1) (by first | assumption | decide | (unfold In64;omega)) (by have hl_ab : ((ts.getD i zTn).2.1.2.2.1).length = 16 := hxt.1.2.1;first | assumption | (simp;done)) (by have hl_ax : y.length = 32 := hl_y;first | assumption | (simp;done))).s0.2.2.2
     have hsl226_17 : (((addS ((stT y ts i).1) y ((ts.getD i zTn).2.1.2.1) ((ts.getD i zTn).2.1.2.2.1) ((ts.getD i zTn).2.1.2.2.2)).1).s1.2.2.1).length = 16 := (addS_ok (h := ((stT y ts i).1)) (x := y) (p := ((ts.getD i zTn).2.1.2.1)) (b := ((ts.getD i zTn).2.1.2.2.1)) (z := ((ts.getD i zTn).2.1.2.2.2)) ((stT_ok hl_y ho_ts i).1) (by first | assumption | decide | (unfold In64;omega)) (by have hl_ab : ((ts.getD i zTn).2.1.2.2.1).length = 16 := hxt.1.2.1;first | assumption | (simp;done)) (by have hl_ax : y.length = 32 := hl_y;first | assumption | (simp;done))).s1.2.1
     have hsl226_18 : (((addS ((stT y ts i).1) y ((ts.getD i zTn).2.1.2.1) ((ts.getD i zTn).2.1.2.2.1) ((ts.getD i zTn).2.1.2.2.2)).1).s1.2.2.2.1).length = 32 := (addS_ok (h := ((stT y ts i).1)) (x := y) (p := ((ts.getD i zTn).2.1.2.1)) (b := ((ts.getD i zTn).2.1.2.2.1)) (z := ((ts.getD i zTn).2.1.2.2.2)) ((stT_ok hl_y ho_ts i).1) (by first | assumption | decide | (unfold In64;omega)) (by have hl_ab : ((ts.getD i zTn).2.1.2.2.1).length = 16 := hxt.1.2.1;first | assumption | (simp;done)) (by have hl_ax : y.length = 32 := hl_y;first | assumption | (simp;done))).s1.2.2.1
     have hsl226_19 : (((addS ((stT y ts i).1) y ((ts.getD i zTn).2.1.2.1) ((ts.getD i zTn).2.1.2.2.1) ((ts.getD i zTn).2.1.2.2.2)).1).s1.2.2.2.2).length = 32 := (addS_ok (h := ((stT y ts i).1)) (x := y) (p := ((ts.getD i zTn).2.1.2.1)) (b := ((ts.getD i zTn).2.1.2.2.1)) (z := ((ts.getD i zTn).2.1.2.2.2)) ((stT_ok hl_y ho_ts i).1) (by first | assumption | decide | (unfold In64;omega)) (by have hl_ab : ((ts.getD i zTn).2.1.2.2.1).length = 16 := hxt.1.2.1;first | assumption | (simp;done)) (by have hl_ax : y.length = 32 := hl_y;first | assumption | (simp;done))).s1.2.2.2
     have hsl226_22 : (((addS ((stT y ts i).1) y ((ts.getD i zTn).2.1.2.1) ((ts.getD i zTn).2.1.2.2.1) ((ts.getD i zTn).2.1.2.2.2)).1).s2.2.2.1).length = 16 := (addS_ok (h := ((stT y ts i).1)) (x := y) (p := ((ts.getD i zTn).2.1.2.1)) (b := ((ts.getD i zTn).2.1.2.2.1)) (z := ((ts.getD i zTn).2.1.2.2.2)) ((stT_ok hl_y ho_ts i).1) (by first | assumption | decide | (unfold In64;omega)) (by have hl_ab : ((ts.getD i zTn).2.1.2.2.1).length = 16 := hxt.1.2.1;first | assumption | (simp;done)) (by have hl_ax : y.length = 32 := hl_y;first | assumption | (simp;done))).s2.2.1
     have hsl226_23 : (((addS ((stT y ts i).1) y ((ts.getD i zTn).2.1.2.1) ((ts.getD i zTn).2.1.2.2.1) ((ts.getD i zTn).2.1.2.2.2)).1).s2.2.2.2.1).length = 32 := (addS_ok (h := ((stT y ts i).1)) (x := y) (p := ((ts.getD i zTn).2.1.2.1)) (b := ((ts.getD i zTn).2.1.2.2.1)) (z := ((ts.getD i zTn).2.1.2.2.2)) ((stT_ok hl_y ho_ts i).1) (by first | assumption | decide | (unfold In64;omega)) (by have hl_ab : ((ts.getD i zTn).2.1.2.2.1).length = 16 := hxt.1.2.1;first | assumption | (simp;done)) (by have hl_ax : y.length = 32 := hl_y;first | assumption | (simp;done))).s2.2.2.1
     have hsl226_24 : (((addS ((stT y ts i).1) y ((ts.getD i zTn).2.1.2.1) ((ts.getD i zTn).2.1.2.2.1) ((ts.getD i zTn).2.1.2.2.2)).1).s2.2.2.2.2).length = 32 := (addS_ok (h := ((stT y ts i).1)) (x := y) (p := ((ts.getD i zTn).2.1.2.1)) (b := ((ts.getD i zTn).2.1.2.2.1)) (z := ((ts.getD i zTn).2.1.2.2.2)) ((stT_ok hl_y ho_ts i).1) (by first | assumption | decide | (unfold In64;omega)) (by have hl_ab : ((ts.getD i zTn).2.1.2.2.1).length = 16 := hxt.1.2.1;first | assumption | (simp;done)) (by have hl_ax : y.length = 32 := hl_y;first | assumption | (simp;done))).s2.2.2.2
     have hsl226_27 : (((addS ((stT y ts i).1) y ((ts.getD i zTn).2.1.2.1) ((ts.getD i zTn).2.1.2.2.1) ((ts.getD i zTn).2.1.2.2.2)).1).s3.2.2.1).length = 16 := (addS_ok (h := ((stT y ts i).1)) (x := y) (p := ((ts.getD i zTn).2.1.2.1)) (b := ((ts.getD i zTn).2.1.2.2.1)) (z := ((ts.getD i zTn).2.1.2.2.2)) ((stT_ok hl_y ho_ts i).1) (by first | assumption | decide | (unfold In64;omega)) (by have hl_ab : ((ts.getD i zTn).2.1.2.2.1).length = 16 := hxt.1.2.1;first | assumption | (simp;done)) (by have hl_ax : y.length = 32 := hl_y;first | assumption | (simp;done))).s3.2.1
     have hsl226_28 : (((addS ((stT y ts i).1) y ((ts.getD i zTn).2.1.2.1) ((ts.getD i zTn).2.1.2.2.1) ((ts.getD i zTn).2.1.2.2.2)).1).s3.2.2.2.1).length = 32 := (addS_ok (h := ((stT y ts i).1)) (x := y) (p := ((ts.getD i zTn).2.1.2.1)) (b := ((ts.getD i zTn).2.1.2.2.1)) (z := ((ts.getD i zTn).2.1.2.2.2)) ((stT_ok hl_y ho_ts i).1) (by first | assumption | decide | (unfold In64;omega)) (by have hl_ab : ((ts.getD i zTn).2.1.2.2.1).length = 16 := hxt.1.2.1;first | assumption | (simp;done)) (by have hl_ax : y.length = 32 := hl_y;first | assumption | (simp;done))).s3.2.2.1
     have hsl226_29 : (((addS ((stT y ts i).1) y ((ts.getD i zTn).2.1.2.1) ((ts.getD i zTn).2.1.2.2.1) ((ts.getD i zTn).2.1.2.2.2)).1).s3.2.2.2.2).length = 32 := (addS_ok (h := ((stT y ts i).1)) (x := y) (p := ((ts.getD i zTn).2.1.2.1)) (b := ((ts.getD i zTn).2.1.2.2.1)) (z := ((ts.getD i zTn).2.1.2.2.2)) ((stT_ok hl_y ho_ts i).1) (by first | assumption | decide | (unfold In64;omega)) (by have hl_ab : ((ts.getD i zTn).2.1.2.2.1).length = 16 := hxt.1.2.1;first | assumption | (simp;done)) (by have hl_ax : y.length = 32 := hl_y;first | assumption | (simp;done))).s3.2.2.2
     refine qq 0 30 (vss := [[.int .i64 (((addS ((stT y ts i).1) y ((ts.getD i zTn).2.1.2.1) ((ts.getD i zTn).2.1.2.2.1) ((ts.getD i zTn).2.1.2.2.2)).1).m)],[.int .i64 (((addS ((stT y ts i).1) y ((ts.getD i zTn).2.1.2.1) ((ts.getD i zTn).2.1.2.2.1) ((ts.getD i zTn).2.1.2.2.2)).1).r)],[.bool (((addS ((stT y ts i).1) y ((ts.getD i zTn).2.1.2.1) ((ts.getD i zTn).2.1.2.2.1) ((ts.getD i zTn).2.1.2.2.2)).1).v0.1)],[.int .u64 ((((addS ((stT y ts i).1) y ((ts.getD i zTn).2.1.2.1) ((ts.getD i zTn).2.1.2.2.1) ((ts.getD i zTn).2.1.2.2.2)).1).v0.2.1 : Nat) : Int)],bv (((addS ((stT y ts i).1) y ((ts.getD i zTn).2.1.2.1) ((ts.getD i zTn).2.1.2.2.1) ((ts.getD i zTn).2.1.2.2.2)).1).v0.2.2.1),bv (((addS ((stT y ts i).1) y ((ts.getD i zTn).2.1.2.1) ((ts.getD i zTn).2.1.2.2.1) ((ts.getD i zTn).2.1.2.2.2)).1).v0.2.2.2),[.bool (((addS ((stT y ts i).1) y ((ts.getD i zTn).2.1.2.1) ((ts.getD i zTn).2.1.2.2.1) ((ts.getD i zTn).2.1.2.2.2)).1).v1.1)],[.int .u64 ((((addS ((stT y ts i).1) y ((ts.getD i zTn).2.1.2.1) ((ts.getD i zTn).2.1.2.2.1) ((ts.getD i zTn).2.1.2.2.2)).1).v1.2.1 : Nat) : Int)],bv (((addS ((stT y ts i).1) y ((ts.getD i zTn).2.1.2.1) ((ts.getD i zTn).2.1.2.2.1) ((ts.getD i zTn).2.1.2.2.2)).1).v1.2.2.1),bv (((addS ((stT y ts i).1) y ((ts.getD i zTn).2.1.2.1) ((ts.getD i zTn).2.1.2.2.1) ((ts.getD i zTn).2.1.2.2.2)).1).v1.2.2.2),[.bool (((addS ((stT y ts i).1) y ((ts.getD i zTn).2.1.2.1) ((ts.getD i zTn).2.1.2.2.1) ((ts.getD i zTn).2.1.2.2.2)).1).s0.1)],[.int .i64 (((addS ((stT y ts i).1) y ((ts.getD i zTn).2.1.2.1) ((ts.getD i zTn).2.1.2.2.1) ((ts.getD i zTn).2.1.2.2.2)).1).s0.2.1)],bv (((addS ((stT y ts i).1) y ((ts.getD i zTn).2.1.2.1) ((ts.getD i zTn).2.1.2.2.1) ((ts.getD i zTn).2.1.2.2.2)).1).s0.2.2.1),bv (((addS ((stT y ts i).1) y ((ts.getD i zTn).2.1.2.1) ((ts.getD i zTn).2.1.2.2.1) ((ts.getD i zTn).2.1.2.2.2)).1).s0.2.2.2.1),bv (((addS ((stT y ts i).1) y ((ts.getD i zTn).2.1.2.1) ((ts.getD i zTn).2.1.2.2.1) ((ts.getD i zTn).2.1.2.2.2)).1).s0.2.2.2.2),[.bool (((addS ((stT y ts i).1) y ((ts.getD i zTn).2.1.2.1) ((ts.getD i zTn).2.1.2.2.1) ((ts.getD i zTn).2.1.2.2.2)).1).s1.1)],[.int .i64 (((addS ((stT y ts i).1) y ((ts.getD i zTn).2.1.2.1) ((ts.getD i zTn).2.1.2.2.1) ((ts.getD i zTn).2.1.2.2.2)).1).s1.2.1)],bv (((addS ((stT y ts i).1) y ((ts.getD i zTn).2.1.2.1) ((ts.getD i zTn).2.1.2.2.1) ((ts.getD i zTn).2.1.2.2.2)).1).s1.2.2.1),bv (((addS ((stT y ts i).1) y ((ts.getD i zTn).2.1.2.1) ((ts.getD i zTn).2.1.2.2.1) ((ts.getD i zTn).2.1.2.2.2)).1).s1.2.2.2.1),bv (((addS ((stT y ts i).1) y ((ts.getD i zTn).2.1.2.1) ((ts.getD i zTn).2.1.2.2.1) ((ts.getD i zTn).2.1.2.2.2)).1).s1.2.2.2.2),[.bool (((addS ((stT y ts i).1) y ((ts.getD i zTn).2.1.2.1) ((ts.getD i zTn).2.1.2.2.1) ((ts.getD i zTn).2.1.2.2.2)).1).s2.1)],[.int .i64 (((addS ((stT y ts i).1) y ((ts.getD i zTn).2.1.2.1) ((ts.getD i zTn).2.1.2.2.1) ((ts.getD i zTn).2.1.2.2.2)).1).s2.2.1)],bv (((addS ((stT y ts i).1) y ((ts.getD i zTn).2.1.2.1) ((ts.getD i zTn).2.1.2.2.1) ((ts.getD i zTn).2.1.2.2.2)).1).s2.2.2.1),bv (((addS ((stT y ts i).1) y ((ts.getD i zTn).2.1.2.1) ((ts.getD i zTn).2.1.2.2.1) ((ts.getD i zTn).2.1.2.2.2)).1).s2.2.2.2.1),bv (((addS ((stT y ts i).1) y ((ts.getD i zTn).2.1.2.1) ((ts.getD i zTn).2.1.2.2.1) ((ts.getD i zTn).2.1.2.2.2)).1).s2.2.2.2.2),[.bool (((addS ((stT y ts i).1) y ((ts.getD i zTn).2.1.2.1) ((ts.getD i zTn).2.1.2.2.1) ((ts.getD i zTn).2.1.2.2.2)).1).s3.1)],[.int .i64 (((addS ((stT y ts i).1) y ((ts.getD i zTn).2.1.2.1) ((ts.getD i zTn).2.1.2.2.1) ((ts.getD i zTn).2.1.2.2.2)).1).s3.2.1)],bv (((addS ((stT y ts i).1) y ((ts.getD i zTn).2.1.2.1) ((ts.getD i zTn).2.1.2.2.1) ((ts.getD i zTn).2.1.2.2.2)).1).s3.2.2.1),bv (((addS ((stT y ts i).1) y ((ts.getD i zTn).2.1.2.1) ((ts.getD i zTn).2.1.2.2.1) ((ts.getD i zTn).2.1.2.2.2)).1).s3.2.2.2.1),bv (((addS ((stT y ts i).1) y ((ts.getD i zTn).2.1.2.1) ((ts.getD i zTn).2.1.2.2.1) ((ts.getD i zTn).2.1.2.2.2)).1).s3.2.2.2.2)]) hE rfl rfl hM rfl sz62 (by simp only [List.take_succ_cons,List.take_zero,List.drop_zero,List.drop_succ_cons];simp only [List.map_cons,List.map_nil,vh,List.length_cons,List.length_nil,List.length_replicate,hsl226_4,hsl226_5,hsl226_8,hsl226_9,hsl226_12,hsl226_13,hsl226_14,hsl226_17,hsl226_18,hsl226_19,hsl226_22,hsl226_23,hsl226_24,hsl226_27,hsl226_28,hsl226_29]) (by decide) rfl (one_fl ⟨one1 rfl,one1 rfl,one1 rfl,one1 rfl,vc _,vc _,one1 rfl,one1 rfl,vc _,vc _,one1 rfl,one1 rfl,vc _,vc _,vc _,one1 rfl,one1 rfl,vc _,vc _,vc _,one1 rfl,one1 rfl,vc _,vc _,vc _,one1 rfl,one1 rfl,vc _,vc _,vc _,trivial⟩) rfl (by intro X h;cases h) fun w12 hM=>?_
     try simp only [List.take_zero,List.take_succ_cons,List.drop_zero,List.drop_succ_cons,List.take_nil,List.drop_nil,List.nil_append,List.append_nil,List.cons_append] at hM
     refine sas hE rfl fun a hE=>sas hE rfl fun a hE=>qa (K16 (ww1 fun _ K17=>ww1 fun _ K18=>wpp (sm hE rfl fun a hE=>sb hE rfl rfl bin_eql fun a hE=>qa ?_)))
     refine K18 ?_
     refine hE.split 63 rfl (fun hb63 hE=>?_) (fun hb63 hE=>?_)
     ·replace hb63 := of_decide_eq_true hb63
      replace hb63 : ((addS ((stT y ts i).1) y ((ts.getD i zTn).2.1.2.1) ((ts.getD i zTn).2.1.2.2.1) ((ts.getD i zTn).2.1.2.2.2)).2.2) = 0 := by omega
      obtain ⟨j,hj4,hadd,_,_,_,_⟩ := add_good (show (addS (stT y ts i).1 y (ts.getD i zTn).2.1.2.1 (ts.getD i zTn).2.1.2.2.1 (ts.getD i zTn).2.1.2.2.2).2.2 = 0 by omega)
      refine wct hE rfl (ww1 fun _ K19=>wpp (ql hE rfl (hM.get 0 rfl) row62 rfl (by intro X h;cases h) rfl fun a hE=>?_))
      replace hE := hE.cast 64 rfl (show _ = Value.agg ([[.int .i64 (((addS ((stT y ts i).1) y ((ts.getD i zTn).2.1.2.1) ((ts.getD i zTn).2.1.2.2.1) ((ts.getD i zTn).2.1.2.2.2)).1).m)],[.int .i64 (((addS ((stT y ts i).1) y ((ts.getD i zTn).2.1.2.1) ((ts.getD i zTn).2.1.2.2.1) ((ts.getD i zTn).2.1.2.2.2)).1).r)],[.bool (((addS ((stT y ts i).1) y ((ts.getD i zTn).2.1.2.1) ((ts.getD i zTn).2.1.2.2.1) ((ts.getD i zTn).2.1.2.2.2)).1).v0.1)],[.int .u64 ((((addS ((stT y ts i).1) y ((ts.getD i zTn).2.1.2.1) ((ts.getD i zTn).2.1.2.2.1) ((ts.getD i zTn).2.1.2.2.2)).1).v0.2.1 : Nat) : Int)],bv (((addS ((stT y ts i).1) y ((ts.getD i zTn).2.1.2.1) ((ts.getD i zTn).2.1.2.2.1) ((ts.getD i zTn).2.1.2.2.2)).1).v0.2.2.1),bv (((addS ((stT y ts i).1) y ((ts.getD i zTn).2.1.2.1) ((ts.getD i zTn).2.1.2.2.1) ((ts.getD i zTn).2.1.2.2.2)).1).v0.2.2.2),[.bool (((addS ((stT y ts i).1) y ((ts.getD i zTn).2.1.2.1) ((ts.getD i zTn).2.1.2.2.1) ((ts.getD i zTn).2.1.2.2.2)).1).v1.1)],[.int .u64 ((((addS ((stT y ts i).1) y ((ts.getD i zTn).2.1.2.1) ((ts.getD i zTn).2.1.2.2.1) ((ts.getD i zTn).2.1.2.2.2)).1).v1.2.1 : Nat) : Int)],bv (((addS ((stT y ts i).1) y ((ts.getD i zTn).2.1.2.1) ((ts.getD i zTn).2.1.2.2.1) ((ts.getD i zTn).2.1.2.2.2)).1).v1.2.2.1),bv (((addS ((stT y ts i).1) y ((ts.getD i zTn).2.1.2.1) ((ts.getD i zTn).2.1.2.2.1) ((ts.getD i zTn).2.1.2.2.2)).1).v1.2.2.2),[.bool (((addS ((stT y ts i).1) y ((ts.getD i zTn).2.1.2.1) ((ts.getD i zTn).2.1.2.2.1) ((ts.getD i zTn).2.1.2.2.2)).1).s0.1)],[.int .i64 (((addS ((stT y ts i).1) y ((ts.getD i zTn).2.1.2.1) ((ts.getD i zTn).2.1.2.2.1) ((ts.getD i zTn).2.1.2.2.2)).1).s0.2.1)],bv (((addS ((stT y ts i).1) y ((ts.getD i zTn).2.1.2.1) ((ts.getD i zTn).2.1.2.2.1) ((ts.getD i zTn).2.1.2.2.2)).1).s0.2.2.1),bv (((addS ((stT y ts i).1) y ((ts.getD i zTn).2.1.2.1) ((ts.getD i zTn).2.1.2.2.1) ((ts.getD i zTn).2.1.2.2.2)).1).s0.2.2.2.1),bv (((addS ((stT y ts i).1) y ((ts.getD i zTn).2.1.2.1) ((ts.getD i zTn).2.1.2.2.1) ((ts.getD i zTn).2.1.2.2.2)).1).s0.2.2.2.2),[.bool (((addS ((stT y ts i).1) y ((ts.getD i zTn).2.1.2.1) ((ts.getD i zTn).2.1.2.2.1) ((ts.getD i zTn).2.1.2.2.2)).1).s1.1)],[.int .i64 (((addS ((stT y ts i).1) y ((ts.getD i zTn).2.1.2.1) ((ts.getD i zTn).2.1.2.2.1) ((ts.getD i zTn).2.1.2.2.2)).1).s1.2.1)],bv (((addS ((stT y ts i).1) y ((ts.getD i zTn).2.1.2.1) ((ts.getD i zTn).2.1.2.2.1) ((ts.getD i zTn).2.1.2.2.2)).1).s1.2.2.1),bv (((addS ((stT y ts i).1) y ((ts.getD i zTn).2.1.2.1) ((ts.getD i zTn).2.1.2.2.1) ((ts.getD i zTn).2.1.2.2.2)).1).s1.2.2.2.1),bv (((addS ((stT y ts i).1) y ((ts.getD i zTn).2.1.2.1) ((ts.getD i zTn).2.1.2.2.1) ((ts.getD i zTn).2.1.2.2.2)).1).s1.2.2.2.2),[.bool (((addS ((stT y ts i).1) y ((ts.getD i zTn).2.1.2.1) ((ts.getD i zTn).2.1.2.2.1) ((ts.getD i zTn).2.1.2.2.2)).1).s2.1)],[.int .i64 (((addS ((stT y ts i).1) y ((ts.getD i zTn).2.1.2.1) ((ts.getD i zTn).2.1.2.2.1) ((ts.getD i zTn).2.1.2.2.2)).1).s2.2.1)],bv (((addS ((stT y ts i).1) y ((ts.getD i zTn).2.1.2.1) ((ts.getD i zTn).2.1.2.2.1) ((ts.getD i zTn).2.1.2.2.2)).1).s2.2.2.1),bv (((addS ((stT y ts i).1) y ((ts.getD i zTn).2.1.2.1) ((ts.getD i zTn).2.1.2.2.1) ((ts.getD i zTn).2.1.2.2.2)).1).s2.2.2.2.1),bv (((addS ((stT y ts i).1) y ((ts.getD i zTn).2.1.2.1) ((ts.getD i zTn).2.1.2.2.1) ((ts.getD i zTn).2.1.2.2.2)).1).s2.2.2.2.2),[.bool (((addS ((stT y ts i).1) y ((ts.getD i zTn).2.1.2.1) ((ts.getD i zTn).2.1.2.2.1) ((ts.getD i zTn).2.1.2.2.2)).1).s3.1)],[.int .i64 (((addS ((stT y ts i).1) y ((ts.getD i zTn).2.1.2.1) ((ts.getD i zTn).2.1.2.2.1) ((ts.getD i zTn).2.1.2.2.2)).1).s3.2.1)],bv (((addS ((stT y ts i).1) y ((ts.getD i zTn).2.1.2.1) ((ts.getD i zTn).2.1.2.2.1) ((ts.getD i zTn).2.1.2.2.2)).1).s3.2.2.1),bv (((addS ((stT y ts i).1) y ((ts.getD i zTn).2.1.2.1) ((ts.getD i zTn).2.1.2.2.1) ((ts.getD i zTn).2.1.2.2.2)).1).s3.2.2.2.1),bv (((addS ((stT y ts i).1) y ((ts.getD i zTn).2.1.2.1) ((ts.getD i zTn).2.1.2.2.1) ((ts.getD i zTn).2.1.2.2.2)).1).s3.2.2.2.2)] : List (List Value)).flatten.toArray from (by first | rfl | simp only [List.flatten_cons,List.flatten_nil,List.append_nil,List.append_assoc]))
      have hsl267_4 : (((addS ((stT y ts i).1) y ((ts.getD i zTn).2.1.2.1) ((ts.getD i zTn).2.1.2.2.1) ((ts.getD i zTn).2.1.2.2.2)).1).v0.2.2.1).length = 32 := (addS_ok (h := ((stT y ts i).1)) (x := y) (p := ((ts.getD i zTn).2.1.2.1)) (b := ((ts.getD i zTn).2.1.2.2.1)) (z := ((ts.getD i zTn).2.1.2.2.2)) ((stT_ok hl_y ho_ts i).1) (by first | assumption | decide | (unfold In64;omega)) (by have hl_ab : ((ts.getD i zTn).2.1.2.2.1).length = 16 := hxt.1.2.1;first | assumption | (simp;done)) (by have hl_ax : y.length = 32 := hl_y;first | assumption | (simp;done))).v0.2.1
      have hsl267_5 : (((addS ((stT y ts i).1) y ((ts.getD i zTn).2.1.2.1) ((ts.getD i zTn).2.1.2.2.1) ((ts.getD i zTn).2.1.2.2.2)).1).v0.2.2.2).length = 32 := (addS_ok (h := ((stT y ts i).1)) (x := y) (p := ((ts.getD i zTn).2.1.2.1)) (b := ((ts.getD i zTn).2.1.2.2.1)) (z := ((ts.getD i zTn).2.1.2.2.2)) ((stT_ok hl_y ho_ts i).1) (by first | assumption | decide | (unfold In64;omega)) (by have hl_ab : ((ts.getD i zTn).2.1.2.2.1).length = 16 := hxt.1.2.1;first | assumption | (simp;done)) (by have hl_ax : y.length = 32 := hl_y;first | assumption | (simp;done))).v0.2.2
      have hsl267_8 : (((addS ((stT y ts i).1) y ((ts.getD i zTn).2.1.2.1) ((ts.getD i zTn).2.1.2.2.1) ((ts.getD i zTn).2.1.2.2.2)).1).v1.2.2.1).length = 32 := (addS_ok (h := ((stT y ts i).1)) (x := y) (p := ((ts.getD i zTn).2.1.2.1)) (b := ((ts.getD i zTn).2.1.2.2.1)) (z := ((ts.getD i zTn).2.1.2.2.2)) ((stT_ok hl_y ho_ts i).1) (by first | assumption | decide | (unfold In64;omega)) (by have hl_ab : ((ts.getD i zTn).2.1.2.2.1).length = 16 := hxt.1.2.1;first | assumption | (simp;done)) (by have hl_ax : y.length = 32 := hl_y;first | assumption | (simp;done))).v1.2.1
      have hsl267_9 : (((addS ((stT y ts i).1) y ((ts.getD i zTn).2.1.2.1) ((ts.getD i zTn).2.1.2.2.1) ((ts.getD i zTn).2.1.2.2.2)).1).v1.2.2.2).length = 32 := (addS_ok (h := ((stT y ts i).1)) (x := y) (p := ((ts.getD i zTn).2.1.2.1)) (b := ((ts.getD i zTn).2.1.2.2.1)) (z := ((ts.getD i zTn).2.1.2.2.2)) ((stT_ok hl_y ho_ts i).1) (by first | assumption | decide | (unfold In64;omega)) (by have hl_ab : ((ts.getD i zTn).2.1.2.2.1).length = 16 := hxt.1.2.1;first | assumption | (simp;done)) (by have hl_ax : y.length = 32 := hl_y;first | assumption | (simp;done))).v1.2.2
      have hsl267_12 : (((addS ((stT y ts i).1) y ((ts.getD i zTn).2.1.2.1) ((ts.getD i zTn).2.1.2.2.1) ((ts.getD i zTn).2.1.2.2.2)).1).s0.2.2.1).length = 16 := (addS_ok (h := ((stT y ts i).1)) (x := y) (p := ((ts.getD i zTn).2.1.2.1)) (b := ((ts.getD i zTn).2.1.2.2.1)) (z := ((ts.getD i zTn).2.1.2.2.2)) ((stT_ok hl_y ho_ts i).1) (by first | assumption | decide | (unfold In64;omega)) (by have hl_ab : ((ts.getD i zTn).2.1.2.2.1).length = 16 := hxt.1.2.1;first | assumption | (simp;done)) (by have hl_ax : y.length = 32 := hl_y;first | assumption | (simp;done))).s0.2.1
      have hsl267_13 : (((addS ((stT y ts i).1) y ((ts.getD i zTn).2.1.2.1) ((ts.getD i zTn).2.1.2.2.1) ((ts.getD i zTn).2.1.2.2.2)).1).s0.2.2.2.1).length = 32 := (addS_ok (h := ((stT y ts i).1)) (x := y) (p := ((ts.getD i zTn).2.1.2.1)) (b := ((ts.getD i zTn).2.1.2.2.1)) (z := ((ts.getD i zTn).2.1.2.2.2)) ((stT_ok hl_y ho_ts i).1) (by first | assumption | decide | (unfold In64;omega)) (by have hl_ab : ((ts.getD i zTn).2.1.2.2.1).length = 16 := hxt.1.2.1;first | assumption | (simp;done)) (by have hl_ax : y.length = 32 := hl_y;first | assumption | (simp;done))).s0.2.2.1
      have hsl267_14 : (((addS ((stT y ts i).1) y ((ts.getD i zTn).2.1.2.1) ((ts.getD i zTn).2.1.2.2.1) ((ts.getD i zTn).2.1.2.2.2)).1).s0.2.2.2.2).length = 32 := (addS_ok (h := ((stT y ts i).1)) (x := y) (p := ((ts.getD i zTn).2.1.2.1)) (b := ((ts.getD i zTn).2.1.2.2.1)) (z := ((ts.getD i zTn).2.1.2.2.2)) ((stT_ok hl_y ho_ts i).1) (by first | assumption | decide | (unfold In64;omega)) (by have hl_ab : ((ts.getD i zTn).2.1.2.2.1).length = 16 := hxt.1.2.1;first | assumption | (simp;done)) (by have hl_ax : y.length = 32 := hl_y;first | assumption | (simp;done))).s0.2.2.2
      have hsl267_17 : (((addS ((stT y ts i).1) y ((ts.getD i zTn).2.1.2.1) ((ts.getD i zTn).2.1.2.2.1) ((ts.getD i zTn).2.1.2.2.2)).1).s1.2.2.1).length = 16 := (addS_ok (h := ((stT y ts i).1)) (x := y) (p := ((ts.getD i zTn).2.1.2.1)) (b := ((ts.getD i zTn).2.1.2.2.1)) (z := ((ts.getD i zTn).2.1.2.2.2)) ((stT_ok hl_y ho_ts i).1) (by first | assumption | decide | (unfold In64;omega)) (by have hl_ab : ((ts.getD i zTn).2.1.2.2.1).length = 16 := hxt.1.2.1;first | assumption | (simp;done)) (by have hl_ax : y.length = 32 := hl_y;first | assumption | (simp;done))).s1.2.1
      have hsl267_18 : (((addS ((stT y ts i).1) y ((ts.getD i zTn).2.1.2.1) ((ts.getD i zTn).2.1.2.2.1) ((ts.getD i zTn).2.1.2.2.2)).1).s1.2.2.2.1).length = 32 := (addS_ok (h := ((stT y ts i).1)) (x := y) (p := ((ts.getD i zTn).2.1.2.1)) (b := ((ts.getD i zTn).2.1.2.2.1)) (z := ((ts.getD i zTn).2.1.2.2.2)) ((stT_ok hl_y ho_ts i).1) (by first | assumption | decide | (unfold In64;omega)) (by have hl_ab : ((ts.getD i zTn).2.1.2.2.1).length = 16 := hxt.1.2.1;first | assumption | (simp;done)) (by have hl_ax : y.length = 32 := hl_y;first | assumption | (simp;done))).s1.2.2.1
      have hsl267_19 : (((addS ((stT y ts i).1) y ((ts.getD i zTn).2.1.2.1) ((ts.getD i zTn).2.1.2.2.1) ((ts.getD i zTn).2.1.2.2.2)).1).s1.2.2.2.2).length = 32 := (addS_ok (h := ((stT y ts i).1)) (x := y) (p := ((ts.getD i zTn).2.1.2.1)) (b := ((ts.getD i zTn).2.1.2.2.1)) (z := ((ts.getD i zTn).2.1.2.2.2)) ((stT_ok hl_y ho_ts i).1) (by first | assumption | decide | (unfold In64;omega)) (by have hl_ab : ((ts.getD i zTn).2.1.2.2.1).length = 16 := hxt.1.2.1;first | assumption | (simp;done)) (by have hl_ax : y.length = 32 := hl_y;first | assumption | (simp;done))).s1.2.2.2
      have hsl267_22 : (((addS ((stT y ts i).1) y ((ts.getD i zTn).2.1.2.1) ((ts.getD i zTn).2.1.2.2.1) ((ts.getD i zTn).2.1.2.2.2)).1).s2.2.2.1).length = 16 := (addS_ok (h := ((stT y ts i).1)) (x := y) (p := ((ts.getD i zTn).2.1.2.1)) (b := ((ts.getD i zTn).2.1.2.2.1)) (z := ((ts.getD i zTn).2.1.2.2.2)) ((stT_ok hl_y ho_ts i).1) (by first | assumption | decide | (unfold In64;omega)) (by have hl_ab : ((ts.getD i zTn).2.1.2.2.1).length = 16 := hxt.1.2.1;first | assumption | (simp;done)) (by have hl_ax : y.length = 32 := hl_y;first | assumption | (simp;done))).s2.2.1
      have hsl267_23 : (((addS ((stT y ts i).1) y ((ts.getD i zTn).2.1.2.1) ((ts.getD i zTn).2.1.2.2.1) ((ts.getD i zTn).2.1.2.2.2)).1).s2.2.2.2.1).length = 32 := (addS_ok (h := ((stT y ts i).1)) (x := y) (p := ((ts.getD i zTn).2.1.2.1)) (b := ((ts.getD i zTn).2.1.2.2.1)) (z := ((ts.getD i zTn).2.1.2.2.2)) ((stT_ok hl_y ho_ts i).1) (by first | assumption | decide | (unfold In64;omega)) (by have hl_ab : ((ts.getD i zTn).2.1.2.2.1).length = 16 := hxt.1.2.1;first | assumption | (simp;done)) (by have hl_ax : y.length = 32 := hl_y;first | assumption | (simp;done))).s2.2.2.1
      have hsl267_24 : (((addS ((stT y ts i).1) y ((ts.getD i zTn).2.1.2.1) ((ts.getD i zTn).2.1.2.2.1) ((ts.getD i zTn).2.1.2.2.2)).1).s2.2.2.2.2).length = 32 := (addS_ok (h := ((stT y ts i).1)) (x := y) (p := ((ts.getD i zTn).2.1.2.1)) (b := ((ts.getD i zTn).2.1.2.2.1)) (z := ((ts.getD i zTn).2.1.2.2.2)) ((stT_ok hl_y ho_ts i).1) (by first | assumption | decide | (unfold In64;omega)) (by have hl_ab : ((ts.getD i zTn).2.1.2.2.1).length = 16 := hxt.1.2.1;first | assumption | (simp;done)) (by have hl_ax : y.length = 32 := hl_y;first | assumption | (simp;done))).s2.2.2.2
      have hsl267_27 : (((addS ((stT y ts i).1) y ((ts.getD i zTn).2.1.2.1) ((ts.getD i zTn).2.1.2.2.1) ((ts.getD i zTn).2.1.2.2.2)).1).s3.2.2.1).length = 16 := (addS_ok (h := ((stT y ts i).1)) (x := y) (p := ((ts.getD i zTn).2.1.2.1)) (b := ((ts.getD i zTn).2.1.2.2.1)) (z := ((ts.getD i zTn).2.1.2.2.2)) ((stT_ok hl_y ho_ts i).1) (by first | assumption | decide | (unfold In64;omega)) (by have hl_ab : ((ts.getD i zTn).2.1.2.2.1).length = 16 := hxt.1.2.1;first | assumption | (simp;done)) (by have hl_ax : y.length = 32 := hl_y;first | assumption | (simp;done))).s3.2.1
      have hsl267_28 : (((addS ((stT y ts i).1) y ((ts.getD i zTn).2.1.2.1) ((ts.getD i zTn).2.1.2.2.1) ((ts.getD i zTn).2.1.2.2.2)).1).s3.2.2.2.1).length = 32 := (addS_ok (h := ((stT y ts i).1)) (x := y) (p := ((ts.getD i zTn).2.1.2.1)) (b := ((ts.getD i zTn).2.1.2.2.1)) (z := ((ts.getD i zTn).2.1.2.2.2)) ((stT_ok hl_y ho_ts i).1) (by first | assumption | decide | (unfold In64;omega)) (by have hl_ab : ((ts.getD i zTn).2.1.2.2.1).length = 16 := hxt.1.2.1;first | assumption | (simp;done)) (by have hl_ax : y.length = 32 := hl_y;first | assumption | (simp;done))).s3.2.2.1
      have hsl267_29 : (((addS ((stT y ts i).1) y ((ts.getD i zTn).2.1.2.1) ((ts.getD i zTn).2.1.2.2.1) ((ts.getD i zTn).2.1.2.2.2)).1).s3.2.2.2.2).length = 32 := (addS_ok (h := ((stT y ts i).1)) (x := y) (p := ((ts.getD i zTn).2.1.2.1)) (b := ((ts.getD i zTn).2.1.2.2.1)) (z := ((ts.getD i zTn).2.1.2.2.2)) ((stT_ok hl_y ho_ts i).1) (by first | assumption | decide | (unfold In64;omega)) (by have hl_ab : ((ts.getD i zTn).2.1.2.2.1).length = 16 := hxt.1.2.1;first | assumption | (simp;done)) (by have hl_ax : y.length = 32 := hl_y;first | assumption | (simp;done))).s3.2.2.2
      replace hM : Mem _ _ w12 [_,_,_,_,_,_,_,_] := hM.pick [3,0,1,2,4,5,6,7] rfl
      refine qq 0 30 (vss := [[.int .i64 (((addS ((stT y ts i).1) y ((ts.getD i zTn).2.1.2.1) ((ts.getD i zTn).2.1.2.2.1) ((ts.getD i zTn).2.1.2.2.2)).1).m)],[.int .i64 (((addS ((stT y ts i).1) y ((ts.getD i zTn).2.1.2.1) ((ts.getD i zTn).2.1.2.2.1) ((ts.getD i zTn).2.1.2.2.2)).1).r)],[.bool (((addS ((stT y ts i).1) y ((ts.getD i zTn).2.1.2.1) ((ts.getD i zTn).2.1.2.2.1) ((ts.getD i zTn).2.1.2.2.2)).1).v0.1)],[.int .u64 ((((addS ((stT y ts i).1) y ((ts.getD i zTn).2.1.2.1) ((ts.getD i zTn).2.1.2.2.1) ((ts.getD i zTn).2.1.2.2.2)).1).v0.2.1 : Nat) : Int)],bv (((addS ((stT y ts i).1) y ((ts.getD i zTn).2.1.2.1) ((ts.getD i zTn).2.1.2.2.1) ((ts.getD i zTn).2.1.2.2.2)).1).v0.2.2.1),bv (((addS ((stT y ts i).1) y ((ts.getD i zTn).2.1.2.1) ((ts.getD i zTn).2.1.2.2.1) ((ts.getD i zTn).2.1.2.2.2)).1).v0.2.2.2),[.bool (((addS ((stT y ts i).1) y ((ts.getD i zTn).2.1.2.1) ((ts.getD i zTn).2.1.2.2.1) ((ts.getD i zTn).2.1.2.2.2)).1).v1.1)],[.int .u64 ((((addS ((stT y ts i).1) y ((ts.getD i zTn).2.1.2.1) ((ts.getD i zTn).2.1.2.2.1) ((ts.getD i zTn).2.1.2.2.2)).1).v1.2.1 : Nat) : Int)],bv (((addS ((stT y ts i).1) y ((ts.getD i zTn).2.1.2.1) ((ts.getD i zTn).2.1.2.2.1) ((ts.getD i zTn).2.1.2.2.2)).1).v1.2.2.1),bv (((addS ((stT y ts i).1) y ((ts.getD i zTn).2.1.2.1) ((ts.getD i zTn).2.1.2.2.1) ((ts.getD i zTn).2.1.2.2.2)).1).v1.2.2.2),[.bool (((addS ((stT y ts i).1) y ((ts.getD i zTn).2.1.2.1) ((ts.getD i zTn).2.1.2.2.1) ((ts.getD i zTn).2.1.2.2.2)).1).s0.1)],[.int .i64 (((addS ((stT y ts i).1) y ((ts.getD i zTn).2.1.2.1) ((ts.getD i zTn).2.1.2.2.1) ((ts.getD i zTn).2.1.2.2.2)).1).s0.2.1)],bv (((addS ((stT y ts i).1) y ((ts.getD i zTn).2.1.2.1) ((ts.getD i zTn).2.1.2.2.1) ((ts.getD i zTn).2.1.2.2.2)).1).s0.2.2.1),bv (((addS ((stT y ts i).1) y ((ts.getD i zTn).2.1.2.1) ((ts.getD i zTn).2.1.2.2.1) ((ts.getD i zTn).2.1.2.2.2)).1).s0.2.2.2.1),bv (((addS ((stT y ts i).1) y ((ts.getD i zTn).2.1.2.1) ((ts.getD i zTn).2.1.2.2.1) ((ts.getD i zTn).2.1.2.2.2)).1).s0.2.2.2.2),[.bool (((addS ((stT y ts i).1) y ((ts.getD i zTn).2.1.2.1) ((ts.getD i zTn).2.1.2.2.1) ((ts.getD i zTn).2.1.2.2.2)).1).s1.1)],[.int .i64 (((addS ((stT y ts i).1) y ((ts.getD i zTn).2.1.2.1) ((ts.getD i zTn).2.1.2.2.1) ((ts.getD i zTn).2.1.2.2.2)).1).s1.2.1)],bv (((addS ((stT y ts i).1) y ((ts.getD i zTn).2.1.2.1) ((ts.getD i zTn).2.1.2.2.1) ((ts.getD i zTn).2.1.2.2.2)).1).s1.2.2.1),bv (((addS ((stT y ts i).1) y ((ts.getD i zTn).2.1.2.1) ((ts.getD i zTn).2.1.2.2.1) ((ts.getD i zTn).2.1.2.2.2)).1).s1.2.2.2.1),bv (((addS ((stT y ts i).1) y ((ts.getD i zTn).2.1.2.1) ((ts.getD i zTn).2.1.2.2.1) ((ts.getD i zTn).2.1.2.2.2)).1).s1.2.2.2.2),[.bool (((addS ((stT y ts i).1) y ((ts.getD i zTn).2.1.2.1) ((ts.getD i zTn).2.1.2.2.1) ((ts.getD i zTn).2.1.2.2.2)).1).s2.1)],[.int .i64 (((addS ((stT y ts i).1) y ((ts.getD i zTn).2.1.2.1) ((ts.getD i zTn).2.1.2.2.1) ((ts.getD i zTn).2.1.2.2.2)).1).s2.2.1)],bv (((addS ((stT y ts i).1) y ((ts.getD i zTn).2.1.2.1) ((ts.getD i zTn).2.1.2.2.1) ((ts.getD i zTn).2.1.2.2.2)).1).s2.2.2.1),bv (((addS ((stT y ts i).1) y ((ts.getD i zTn).2.1.2.1) ((ts.getD i zTn).2.1.2.2.1) ((ts.getD i zTn).2.1.2.2.2)).1).s2.2.2.2.1),bv (((addS ((stT y ts i).1) y ((ts.getD i zTn).2.1.2.1) ((ts.getD i zTn).2.1.2.2.1) ((ts.getD i zTn).2.1.2.2.2)).1).s2.2.2.2.2),[.bool (((addS ((stT y ts i).1) y ((ts.getD i zTn).2.1.2.1) ((ts.getD i zTn).2.1.2.2.1) ((ts.getD i zTn).2.1.2.2.2)).1).s3.1)],[.int .i64 (((addS ((stT y ts i).1) y ((ts.getD i zTn).2.1.2.1) ((ts.getD i zTn).2.1.2.2.1) ((ts.getD i zTn).2.1.2.2.2)).1).s3.2.1)],bv (((addS ((stT y ts i).1) y ((ts.getD i zTn).2.1.2.1) ((ts.getD i zTn).2.1.2.2.1) ((ts.getD i zTn).2.1.2.2.2)).1).s3.2.2.1),bv (((addS ((stT y ts i).1) y ((ts.getD i zTn).2.1.2.1) ((ts.getD i zTn).2.1.2.2.1) ((ts.getD i zTn).2.1.2.2.2)).1).s3.2.2.2.1),bv (((addS ((stT y ts i).1) y ((ts.getD i zTn).2.1.2.1) ((ts.getD i zTn).2.1.2.2.1) ((ts.getD i zTn).2.1.2.2.2)).1).s3.2.2.2.2)]) hE rfl rfl hM rfl sz62 (by simp only [List.take_succ_cons,List.take_zero,List.drop_zero,List.drop_succ_cons];simp only [List.map_cons,List.map_nil,vh,List.length_cons,List.length_nil,List.length_replicate,hsl267_4,hsl267_5,hsl267_8,hsl267_9,hsl267_12,hsl267_13,hsl267_14,hsl267_17,hsl267_18,hsl267_19,hsl267_22,hsl267_23,hsl267_24,hsl267_27,hsl267_28,hsl267_29]) (by decide) rfl (one_fl ⟨one1 rfl,one1 rfl,one1 rfl,one1 rfl,vc _,vc _,one1 rfl,one1 rfl,vc _,vc _,one1 rfl,one1 rfl,vc _,vc _,vc _,one1 rfl,one1 rfl,vc _,vc _,vc _,one1 rfl,one1 rfl,vc _,vc _,vc _,one1 rfl,one1 rfl,vc _,vc _,vc _,trivial⟩) rfl (by intro X h;cases h) fun w13 hM=>?_
      try simp only [List.take_zero,List.take_succ_cons,List.drop_zero,List.drop_succ_cons,List.take_nil,List.drop_nil,List.nil_append,List.append_nil,List.cons_append] at hM
      refine qa (K19 (wpp (sm hE rfl fun a hE=>?_)))
      rcases four_cases hj4 with rfl | rfl | rfl | rfl
      ·have hat : (addS (stT y ts i).1 y (ts.getD i zTn).2.1.2.1 (ts.getD i zTn).2.1.2.2.1 (ts.getD i zTn).2.1.2.2.2).2.1 = 0 := by rw [hadd];rfl
       have hst : stT y ts (i + 1) = ((addS (stT y ts i).1 y (ts.getD i zTn).2.1.2.1 (ts.getD i zTn).2.1.2.2.1 (ts.getD i zTn).2.1.2.2.2).1,setI (stT y ts i).2 0 (ts.getD i zTn).2.1) := (stepT_add (j := 0) hb48 hadd).trans (by rw [hadd])
       replace hE := hE.cast 10 rfl (show _ = Value.int .i64 0 from congrArg (Value.int .i64) hat)
       replace hE := hE.cast 65 rfl (show _ = Value.int .i64 0 from congrArg (Value.int .i64) hat)
       refine ql hE rfl (hM.get 2 rfl) row84 rfl (by intro X h;cases h) rfl fun a hE=>?_
       replace hE := hE.cast 66 rfl (show _ = Value.agg ([bv ((ts.getD i zTn).2.1.1),[.string (str (ts.getD i zTn).2.1.2.1)],bv ((ts.getD i zTn).2.1.2.2.1),[.int .i64 ((ts.getD i zTn).2.1.2.2.2)]] : List (List Value)).flatten.toArray from (by first | rfl | simp only [List.flatten_cons,List.flatten_nil,List.append_nil,List.append_assoc]))
       refine qp (j := 0) hE rfl rfl arr87 rfl (by decide) rfl fun a hE=>?_
       have hsl299_0 : ((ts.getD i zTn).2.1.1).length = 32 := hxt.1.1
       have hsl299_2 : ((ts.getD i zTn).2.1.2.2.1).length = 16 := hxt.1.2.1
       replace hM : Mem _ _ w13 [_,_,_,_,_,_,_,_] := hM.pick [3,0,1,2,4,5,6,7] rfl
       refine qq 0 4 (vss := [bv ((ts.getD i zTn).2.1.1),[.string (str (ts.getD i zTn).2.1.2.1)],bv ((ts.getD i zTn).2.1.2.2.1),[.int .i64 ((ts.getD i zTn).2.1.2.2.2)]]) hE rfl rfl hM rfl sz84 (by simp only [List.take_succ_cons,List.take_zero,List.drop_zero,List.drop_succ_cons];simp only [List.map_cons,List.map_nil,vh,List.length_cons,List.length_nil,List.length_replicate,hsl299_0,hsl299_2]) (by decide) rfl (one_fl ⟨vc _,one1 rfl,vc _,one1 rfl,trivial⟩) rfl (by intro X h;cases h) fun w14 hM=>?_
       try simp only [List.take_zero,List.take_succ_cons,List.drop_zero,List.drop_succ_cons,List.take_nil,List.drop_nil,List.nil_append,List.append_nil,List.cons_append] at hM
       refine qa (K17 (wp_exit (qc (qg (K10 (wpp (sm hE rfl fun a hE=>sb hE rfl rfl (show Bin _ _ _ _ _ (.int .i64 ((i + 1 : Nat) : Int)) from bin_add (by rw [wrap_i64 (by omega) (by omega)];omega)) fun a hE=>?_)))))))
       refine sas hE rfl fun a hE=>qa ?_
       replace hE := hE.cast 7 rfl (show _ = Value.int .i64 (((i + 1) : Nat) : Int) from (congrArg _ (by omega)))
       replace hM : Mem _ _ w14 [_,_,_,_,_,_,_,_] := hM.pick [1,0,2,3,4,5,6,7] rfl
       replace hM := Mem.blkEq (ss := [[.int .i64 (((addS ((stT y ts i).1) y ((ts.getD i zTn).2.1.2.1) ((ts.getD i zTn).2.1.2.2.1) ((ts.getD i zTn).2.1.2.2.2)).1).m)],[.int .i64 (((addS ((stT y ts i).1) y ((ts.getD i zTn).2.1.2.1) ((ts.getD i zTn).2.1.2.2.1) ((ts.getD i zTn).2.1.2.2.2)).1).r)],[.bool (((addS ((stT y ts i).1) y ((ts.getD i zTn).2.1.2.1) ((ts.getD i zTn).2.1.2.2.1) ((ts.getD i zTn).2.1.2.2.2)).1).v0.1)],[.int .u64 ((((addS ((stT y ts i).1) y ((ts.getD i zTn).2.1.2.1) ((ts.getD i zTn).2.1.2.2.1) ((ts.getD i zTn).2.1.2.2.2)).1).v0.2.1 : Nat) : Int)],bv (((addS ((stT y ts i).1) y ((ts.getD i zTn).2.1.2.1) ((ts.getD i zTn).2.1.2.2.1) ((ts.getD i zTn).2.1.2.2.2)).1).v0.2.2.1),bv (((addS ((stT y ts i).1) y ((ts.getD i zTn).2.1.2.1) ((ts.getD i zTn).2.1.2.2.1) ((ts.getD i zTn).2.1.2.2.2)).1).v0.2.2.2),[.bool (((addS ((stT y ts i).1) y ((ts.getD i zTn).2.1.2.1) ((ts.getD i zTn).2.1.2.2.1) ((ts.getD i zTn).2.1.2.2.2)).1).v1.1)],[.int .u64 ((((addS ((stT y ts i).1) y ((ts.getD i zTn).2.1.2.1) ((ts.getD i zTn).2.1.2.2.1) ((ts.getD i zTn).2.1.2.2.2)).1).v1.2.1 : Nat) : Int)],bv (((addS ((stT y ts i).1) y ((ts.getD i zTn).2.1.2.1) ((ts.getD i zTn).2.1.2.2.1) ((ts.getD i zTn).2.1.2.2.2)).1).v1.2.2.1),bv (((addS ((stT y ts i).1) y ((ts.getD i zTn).2.1.2.1) ((ts.getD i zTn).2.1.2.2.1) ((ts.getD i zTn).2.1.2.2.2)).1).v1.2.2.2),[.bool (((addS ((stT y ts i).1) y ((ts.getD i zTn).2.1.2.1) ((ts.getD i zTn).2.1.2.2.1) ((ts.getD i zTn).2.1.2.2.2)).1).s0.1)],[.int .i64 (((addS ((stT y ts i).1) y ((ts.getD i zTn).2.1.2.1) ((ts.getD i zTn).2.1.2.2.1) ((ts.getD i zTn).2.1.2.2.2)).1).s0.2.1)],bv (((addS ((stT y ts i).1) y ((ts.getD i zTn).2.1.2.1) ((ts.getD i zTn).2.1.2.2.1) ((ts.getD i zTn).2.1.2.2.2)).1).s0.2.2.1),bv (((addS ((stT y ts i).1) y ((ts.getD i zTn).2.1.2.1) ((ts.getD i zTn).2.1.2.2.1) ((ts.getD i zTn).2.1.2.2.2)).1).s0.2.2.2.1),bv (((addS ((stT y ts i).1) y ((ts.getD i zTn).2.1.2.1) ((ts.getD i zTn).2.1.2.2.1) ((ts.getD i zTn).2.1.2.2.2)).1).s0.2.2.2.2),[.bool (((addS ((stT y ts i).1) y ((ts.getD i zTn).2.1.2.1) ((ts.getD i zTn).2.1.2.2.1) ((ts.getD i zTn).2.1.2.2.2)).1).s1.1)],[.int .i64 (((addS ((stT y ts i).1) y ((ts.getD i zTn).2.1.2.1) ((ts.getD i zTn).2.1.2.2.1) ((ts.getD i zTn).2.1.2.2.2)).1).s1.2.1)],bv (((addS ((stT y ts i).1) y ((ts.getD i zTn).2.1.2.1) ((ts.getD i zTn).2.1.2.2.1) ((ts.getD i zTn).2.1.2.2.2)).1).s1.2.2.1),bv (((addS ((stT y ts i).1) y ((ts.getD i zTn).2.1.2.1) ((ts.getD i zTn).2.1.2.2.1) ((ts.getD i zTn).2.1.2.2.2)).1).s1.2.2.2.1),bv (((addS ((stT y ts i).1) y ((ts.getD i zTn).2.1.2.1) ((ts.getD i zTn).2.1.2.2.1) ((ts.getD i zTn).2.1.2.2.2)).1).s1.2.2.2.2),[.bool (((addS ((stT y ts i).1) y ((ts.getD i zTn).2.1.2.1) ((ts.getD i zTn).2.1.2.2.1) ((ts.getD i zTn).2.1.2.2.2)).1).s2.1)],[.int .i64 (((addS ((stT y ts i).1) y ((ts.getD i zTn).2.1.2.1) ((ts.getD i zTn).2.1.2.2.1) ((ts.getD i zTn).2.1.2.2.2)).1).s2.2.1)],bv (((addS ((stT y ts i).1) y ((ts.getD i zTn).2.1.2.1) ((ts.getD i zTn).2.1.2.2.1) ((ts.getD i zTn).2.1.2.2.2)).1).s2.2.2.1),bv (((addS ((stT y ts i).1) y ((ts.getD i zTn).2.1.2.1) ((ts.getD i zTn).2.1.2.2.1) ((ts.getD i zTn).2.1.2.2.2)).1).s2.2.2.2.1),bv (((addS ((stT y ts i).1) y ((ts.getD i zTn).2.1.2.1) ((ts.getD i zTn).2.1.2.2.1) ((ts.getD i zTn).2.1.2.2.2)).1).s2.2.2.2.2),[.bool (((addS ((stT y ts i).1) y ((ts.getD i zTn).2.1.2.1) ((ts.getD i zTn).2.1.2.2.1) ((ts.getD i zTn).2.1.2.2.2)).1).s3.1)],[.int .i64 (((addS ((stT y ts i).1) y ((ts.getD i zTn).2.1.2.1) ((ts.getD i zTn).2.1.2.2.1) ((ts.getD i zTn).2.1.2.2.2)).1).s3.2.1)],bv (((addS ((stT y ts i).1) y ((ts.getD i zTn).2.1.2.1) ((ts.getD i zTn).2.1.2.2.1) ((ts.getD i zTn).2.1.2.2.2)).1).s3.2.2.1),bv (((addS ((stT y ts i).1) y ((ts.getD i zTn).2.1.2.1) ((ts.getD i zTn).2.1.2.2.1) ((ts.getD i zTn).2.1.2.2.2)).1).s3.2.2.2.1),bv (((addS ((stT y ts i).1) y ((ts.getD i zTn).2.1.2.1) ((ts.getD i zTn).2.1.2.2.1) ((ts.getD i zTn).2.1.2.2.2)).1).s3.2.2.2.2)]) (ss' := [[.int .i64 (((stT y ts (i + 1)).1).m)],[.int .i64 (((stT y ts (i + 1)).1).r)],[.bool (((stT y ts (i + 1)).1).v0.1)],[.int .u64 ((((stT y ts (i + 1)).1).v0.2.1 : Nat) : Int)],bv (((stT y ts (i + 1)).1).v0.2.2.1),bv (((stT y ts (i + 1)).1).v0.2.2.2),[.bool (((stT y ts (i + 1)).1).v1.1)],[.int .u64 ((((stT y ts (i + 1)).1).v1.2.1 : Nat) : Int)],bv (((stT y ts (i + 1)).1).v1.2.2.1),bv (((stT y ts (i + 1)).1).v1.2.2.2),[.bool (((stT y ts (i + 1)).1).s0.1)],[.int .i64 (((stT y ts (i + 1)).1).s0.2.1)],bv (((stT y ts (i + 1)).1).s0.2.2.1),bv (((stT y ts (i + 1)).1).s0.2.2.2.1),bv (((stT y ts (i + 1)).1).s0.2.2.2.2),[.bool (((stT y ts (i + 1)).1).s1.1)],[.int .i64 (((stT y ts (i + 1)).1).s1.2.1)],bv (((stT y ts (i + 1)).1).s1.2.2.1),bv (((stT y ts (i + 1)).1).s1.2.2.2.1),bv (((stT y ts (i + 1)).1).s1.2.2.2.2),[.bool (((stT y ts (i + 1)).1).s2.1)],[.int .i64 (((stT y ts (i + 1)).1).s2.2.1)],bv (((stT y ts (i + 1)).1).s2.2.2.1),bv (((stT y ts (i + 1)).1).s2.2.2.2.1),bv (((stT y ts (i + 1)).1).s2.2.2.2.2),[.bool (((stT y ts (i + 1)).1).s3.1)],[.int .i64 (((stT y ts (i + 1)).1).s3.2.1)],bv (((stT y ts (i + 1)).1).s3.2.2.1),bv (((stT y ts (i + 1)).1).s3.2.2.2.1),bv (((stT y ts (i + 1)).1).s3.2.2.2.2)]) hM (by first | (simp only [hst];done) | (simp only [hst];rfl))
       replace hM : Mem _ _ w14 [_,_,_,_,_,_,_,_] := hM.pick [1,0,2,3,4,5,6,7] rfl
       replace hM := Mem.blkEq (ss := [bv ((ts.getD i zTn).2.1.1),[.string (str (ts.getD i zTn).2.1.2.1)],bv ((ts.getD i zTn).2.1.2.2.1),[.int .i64 ((ts.getD i zTn).2.1.2.2.2)],bv (((stT y ts i).2).n1.1),[.string (str ((stT y ts i).2).n1.2.1)],bv (((stT y ts i).2).n1.2.2.1),[.int .i64 (((stT y ts i).2).n1.2.2.2)],bv (((stT y ts i).2).n2.1),[.string (str ((stT y ts i).2).n2.2.1)],bv (((stT y ts i).2).n2.2.2.1),[.int .i64 (((stT y ts i).2).n2.2.2.2)],bv (((stT y ts i).2).n3.1),[.string (str ((stT y ts i).2).n3.2.1)],bv (((stT y ts i).2).n3.2.2.1),[.int .i64 (((stT y ts i).2).n3.2.2.2)]]) (ss' := [bv (((stT y ts (i + 1)).2).n0.1),[.string (str ((stT y ts (i + 1)).2).n0.2.1)],bv (((stT y ts (i + 1)).2).n0.2.2.1),[.int .i64 (((stT y ts (i + 1)).2).n0.2.2.2)],bv (((stT y ts (i + 1)).2).n1.1),[.string (str ((stT y ts (i + 1)).2).n1.2.1)],bv (((stT y ts (i + 1)).2).n1.2.2.1),[.int .i64 (((stT y ts (i + 1)).2).n1.2.2.2)],bv (((stT y ts (i + 1)).2).n2.1),[.string (str ((stT y ts (i + 1)).2).n2.2.1)],bv (((stT y ts (i + 1)).2).n2.2.2.1),[.int .i64 (((stT y ts (i + 1)).2).n2.2.2.2)],bv (((stT y ts (i + 1)).2).n3.1),[.string (str ((stT y ts (i + 1)).2).n3.2.1)],bv (((stT y ts (i + 1)).2).n3.2.2.1),[.int .i64 (((stT y ts (i + 1)).2).n3.2.2.2)]]) hM (by first | (simp only [hst];done) | (simp only [hst];rfl))
       replace hM : Mem _ _ w14 [_,_,_,_,_,_] := hM.pick [0,1,4,5,6,7] rfl
       exact ⟨i + 1,⟨by omega,hE.sel [1,2,4,5,6,7,23] rfl,hM⟩,by omega⟩
      ·have hat : (addS (stT y ts i).1 y (ts.getD i zTn).2.1.2.1 (ts.getD i zTn).2.1.2.2.1 (ts.getD i zTn).2.1.2.2.2).2.1 = 1 := by rw [hadd];rfl
       have hst : stT y ts (i + 1) = ((addS (stT y ts i).1 y (ts.getD i zTn).2.1.2.1 (ts.getD i zTn).2.1.2.2.1 (ts.getD i zTn).2.1.2.2.2).1,setI (stT y ts i).2 1 (ts.getD i zTn).2.1) := (stepT_add (j := 1) hb48 hadd).trans (by rw [hadd])
       replace hE := hE.cast 10 rfl (show _ = Value.int .i64 1 from congrArg (Value.int .i64) hat)
       replace hE := hE.cast 65 rfl (show _ = Value.int .i64 1 from congrArg (Value.int .i64) hat)
       refine ql hE rfl (hM.get 2 rfl) row84 rfl (by intro X h;cases h) rfl fun a hE=>?_
       replace hE := hE.cast 66 rfl (show _ = Value.agg ([bv ((ts.getD i zTn).2.1.1),[.string (str (ts.getD i zTn).2.1.2.1)],bv ((ts.getD i zTn).2.1.2.2.1),[.int .i64 ((ts.getD i zTn).2.1.2.2.2)]] : List (List Value)).flatten.toArray from (by first | rfl | simp only [List.flatten_cons,List.flatten_nil,List.append_nil,List.append_assoc]))
       refine qp (j := 1) hE rfl rfl arr87 rfl (by decide) rfl fun a hE=>?_
       have hsl331_0 : ((ts.getD i zTn).2.1.1).length = 32 := hxt.1.1
       have hsl331_2 : ((ts.getD i zTn).2.1.2.2.1).length = 16 := hxt.1.2.1
       replace hM : Mem _ _ w13 [_,_,_,_,_,_,_,_] := hM.pick [3,0,1,2,4,5,6,7] rfl
       refine qq 4 4 (vss := [bv ((ts.getD i zTn).2.1.1),[.string (str (ts.getD i zTn).2.1.2.1)],bv ((ts.getD i zTn).2.1.2.2.1),[.int .i64 ((ts.getD i zTn).2.1.2.2.2)]]) hE rfl rfl hM rfl sz84 (by simp only [List.take_succ_cons,List.take_zero,List.drop_zero,List.drop_succ_cons];simp only [List.map_cons,List.map_nil,vh,List.length_cons,List.length_nil,List.length_replicate,hsl331_0,hsl331_2]) (by decide) rfl (one_fl ⟨vc _,one1 rfl,vc _,one1 rfl,trivial⟩) rfl (by intro X h;cases h) fun w14 hM=>?_
       try simp only [List.take_zero,List.take_succ_cons,List.drop_zero,List.drop_succ_cons,List.take_nil,List.drop_nil,List.nil_append,List.append_nil,List.cons_append] at hM
       refine qa (K17 (wp_exit (qc (qg (K10 (wpp (sm hE rfl fun a hE=>sb hE rfl rfl (show Bin _ _ _ _ _ (.int .i64 ((i + 1 : Nat) : Int)) from bin_add (by rw [wrap_i64 (by omega) (by omega)];omega)) fun a hE=>?_)))))))
       refine sas hE rfl fun a hE=>qa ?_
       replace hE := hE.cast 7 rfl (show _ = Value.int .i64 (((i + 1) : Nat) : Int) from (congrArg _ (by omega)))
       replace hM : Mem _ _ w14 [_,_,_,_,_,_,_,_] := hM.pick [1,0,2,3,4,5,6,7] rfl
       replace hM := Mem.blkEq (ss := [[.int .i64 (((addS ((stT y ts i).1) y ((ts.getD i zTn).2.1.2.1) ((ts.getD i zTn).2.1.2.2.1) ((ts.getD i zTn).2.1.2.2.2)).1).m)],[.int .i64 (((addS ((stT y ts i).1) y ((ts.getD i zTn).2.1.2.1) ((ts.getD i zTn).2.1.2.2.1) ((ts.getD i zTn).2.1.2.2.2)).1).r)],[.bool (((addS ((stT y ts i).1) y ((ts.getD i zTn).2.1.2.1) ((ts.getD i zTn).2.1.2.2.1) ((ts.getD i zTn).2.1.2.2.2)).1).v0.1)],[.int .u64 ((((addS ((stT y ts i).1) y ((ts.getD i zTn).2.1.2.1) ((ts.getD i zTn).2.1.2.2.1) ((ts.getD i zTn).2.1.2.2.2)).1).v0.2.1 : Nat) : Int)],bv (((addS ((stT y ts i).1) y ((ts.getD i zTn).2.1.2.1) ((ts.getD i zTn).2.1.2.2.1) ((ts.getD i zTn).2.1.2.2.2)).1).v0.2.2.1),bv (((addS ((stT y ts i).1) y ((ts.getD i zTn).2.1.2.1) ((ts.getD i zTn).2.1.2.2.1) ((ts.getD i zTn).2.1.2.2.2)).1).v0.2.2.2),[.bool (((addS ((stT y ts i).1) y ((ts.getD i zTn).2.1.2.1) ((ts.getD i zTn).2.1.2.2.1) ((ts.getD i zTn).2.1.2.2.2)).1).v1.1)],[.int .u64 ((((addS ((stT y ts i).1) y ((ts.getD i zTn).2.1.2.1) ((ts.getD i zTn).2.1.2.2.1) ((ts.getD i zTn).2.1.2.2.2)).1).v1.2.1 : Nat) : Int)],bv (((addS ((stT y ts i).1) y ((ts.getD i zTn).2.1.2.1) ((ts.getD i zTn).2.1.2.2.1) ((ts.getD i zTn).2.1.2.2.2)).1).v1.2.2.1),bv (((addS ((stT y ts i).1) y ((ts.getD i zTn).2.1.2.1) ((ts.getD i zTn).2.1.2.2.1) ((ts.getD i zTn).2.1.2.2.2)).1).v1.2.2.2),[.bool (((addS ((stT y ts i).1) y ((ts.getD i zTn).2.1.2.1) ((ts.getD i zTn).2.1.2.2.1) ((ts.getD i zTn).2.1.2.2.2)).1).s0.1)],[.int .i64 (((addS ((stT y ts i).1) y ((ts.getD i zTn).2.1.2.1) ((ts.getD i zTn).2.1.2.2.1) ((ts.getD i zTn).2.1.2.2.2)).1).s0.2.1)],bv (((addS ((stT y ts i).1) y ((ts.getD i zTn).2.1.2.1) ((ts.getD i zTn).2.1.2.2.1) ((ts.getD i zTn).2.1.2.2.2)).1).s0.2.2.1),bv (((addS ((stT y ts i).1) y ((ts.getD i zTn).2.1.2.1) ((ts.getD i zTn).2.1.2.2.1) ((ts.getD i zTn).2.1.2.2.2)).1).s0.2.2.2.1),bv (((addS ((stT y ts i).1) y ((ts.getD i zTn).2.1.2.1) ((ts.getD i zTn).2.1.2.2.1) ((ts.getD i zTn).2.1.2.2.2)).1).s0.2.2.2.2),[.bool (((addS ((stT y ts i).1) y ((ts.getD i zTn).2.1.2.1) ((ts.getD i zTn).2.1.2.2.1) ((ts.getD i zTn).2.1.2.2.2)).1).s1.1)],[.int .i64 (((addS ((stT y ts i).1) y ((ts.getD i zTn).2.1.2.1) ((ts.getD i zTn).2.1.2.2.1) ((ts.getD i zTn).2.1.2.2.2)).1).s1.2.1)],bv (((addS ((stT y ts i).1) y ((ts.getD i zTn).2.1.2.1) ((ts.getD i zTn).2.1.2.2.1) ((ts.getD i zTn).2.1.2.2.2)).1).s1.2.2.1),bv (((addS ((stT y ts i).1) y ((ts.getD i zTn).2.1.2.1) ((ts.getD i zTn).2.1.2.2.1) ((ts.getD i zTn).2.1.2.2.2)).1).s1.2.2.2.1),bv (((addS ((stT y ts i).1) y ((ts.getD i zTn).2.1.2.1) ((ts.getD i zTn).2.1.2.2.1) ((ts.getD i zTn).2.1.2.2.2)).1).s1.2.2.2.2),[.bool (((addS ((stT y ts i).1) y ((ts.getD i zTn).2.1.2.1) ((ts.getD i zTn).2.1.2.2.1) ((ts.getD i zTn).2.1.2.2.2)).1).s2.1)],[.int .i64 (((addS ((stT y ts i).1) y ((ts.getD i zTn).2.1.2.1) ((ts.getD i zTn).2.1.2.2.1) ((ts.getD i zTn).2.1.2.2.2)).1).s2.2.1)],bv (((addS ((stT y ts i).1) y ((ts.getD i zTn).2.1.2.1) ((ts.getD i zTn).2.1.2.2.1) ((ts.getD i zTn).2.1.2.2.2)).1).s2.2.2.1),bv (((addS ((stT y ts i).1) y ((ts.getD i zTn).2.1.2.1) ((ts.getD i zTn).2.1.2.2.1) ((ts.getD i zTn).2.1.2.2.2)).1).s2.2.2.2.1),bv (((addS ((stT y ts i).1) y ((ts.getD i zTn).2.1.2.1) ((ts.getD i zTn).2.1.2.2.1) ((ts.getD i zTn).2.1.2.2.2)).1).s2.2.2.2.2),[.bool (((addS ((stT y ts i).1) y ((ts.getD i zTn).2.1.2.1) ((ts.getD i zTn).2.1.2.2.1) ((ts.getD i zTn).2.1.2.2.2)).1).s3.1)],[.int .i64 (((addS ((stT y ts i).1) y ((ts.getD i zTn).2.1.2.1) ((ts.getD i zTn).2.1.2.2.1) ((ts.getD i zTn).2.1.2.2.2)).1).s3.2.1)],bv (((addS ((stT y ts i).1) y ((ts.getD i zTn).2.1.2.1) ((ts.getD i zTn).2.1.2.2.1) ((ts.getD i zTn).2.1.2.2.2)).1).s3.2.2.1),bv (((addS ((stT y ts i).1) y ((ts.getD i zTn).2.1.2.1) ((ts.getD i zTn).2.1.2.2.1) ((ts.getD i zTn).2.1.2.2.2)).1).s3.2.2.2.1),bv (((addS ((stT y ts i).1) y ((ts.getD i zTn).2.1.2.1) ((ts.getD i zTn).2.1.2.2.1) ((ts.getD i zTn).2.1.2.2.2)).1).s3.2.2.2.2)]) (ss' := [[.int .i64 (((stT y ts (i + 1)).1).m)],[.int .i64 (((stT y ts (i + 1)).1).r)],[.bool (((stT y ts (i + 1)).1).v0.1)],[.int .u64 ((((stT y ts (i + 1)).1).v0.2.1 : Nat) : Int)],bv (((stT y ts (i + 1)).1).v0.2.2.1),bv (((stT y ts (i + 1)).1).v0.2.2.2),[.bool (((stT y ts (i + 1)).1).v1.1)],[.int .u64 ((((stT y ts (i + 1)).1).v1.2.1 : Nat) : Int)],bv (((stT y ts (i + 1)).1).v1.2.2.1),bv (((stT y ts (i + 1)).1).v1.2.2.2),[.bool (((stT y ts (i + 1)).1).s0.1)],[.int .i64 (((stT y ts (i + 1)).1).s0.2.1)],bv (((stT y ts (i + 1)).1).s0.2.2.1),bv (((stT y ts (i + 1)).1).s0.2.2.2.1),bv (((stT y ts (i + 1)).1).s0.2.2.2.2),[.bool (((stT y ts (i + 1)).1).s1.1)],[.int .i64 (((stT y ts (i + 1)).1).s1.2.1)],bv (((stT y ts (i + 1)).1).s1.2.2.1),bv (((stT y ts (i + 1)).1).s1.2.2.2.1),bv (((stT y ts (i + 1)).1).s1.2.2.2.2),[.bool (((stT y ts (i + 1)).1).s2.1)],[.int .i64 (((stT y ts (i + 1)).1).s2.2.1)],bv (((stT y ts (i + 1)).1).s2.2.2.1),bv (((stT y ts (i + 1)).1).s2.2.2.2.1),bv (((stT y ts (i + 1)).1).s2.2.2.2.2),[.bool (((stT y ts (i + 1)).1).s3.1)],[.int .i64 (((stT y ts (i + 1)).1).s3.2.1)],bv (((stT y ts (i + 1)).1).s3.2.2.1),bv (((stT y ts (i + 1)).1).s3.2.2.2.1),bv (((stT y ts (i + 1)).1).s3.2.2.2.2)]) hM (by first | (simp only [hst];done) | (simp only [hst];rfl))
       replace hM : Mem _ _ w14 [_,_,_,_,_,_,_,_] := hM.pick [1,0,2,3,4,5,6,7] rfl
       replace hM := Mem.blkEq (ss := [bv (((stT y ts i).2).n0.1),[.string (str ((stT y ts i).2).n0.2.1)],bv (((stT y ts i).2).n0.2.2.1),[.int .i64 (((stT y ts i).2).n0.2.2.2)],bv ((ts.getD i zTn).2.1.1),[.string (str (ts.getD i zTn).2.1.2.1)],bv ((ts.getD i zTn).2.1.2.2.1),[.int .i64 ((ts.getD i zTn).2.1.2.2.2)],bv (((stT y ts i).2).n2.1),[.string (str ((stT y ts i).2).n2.2.1)],bv (((stT y ts i).2).n2.2.2.1),[.int .i64 (((stT y ts i).2).n2.2.2.2)],bv (((stT y ts i).2).n3.1),[.string (str ((stT y ts i).2).n3.2.1)],bv (((stT y ts i).2).n3.2.2.1),[.int .i64 (((stT y ts i).2).n3.2.2.2)]]) (ss' := [bv (((stT y ts (i + 1)).2).n0.1),[.string (str ((stT y ts (i + 1)).2).n0.2.1)],bv (((stT y ts (i + 1)).2).n0.2.2.1),[.int .i64 (((stT y ts (i + 1)).2).n0.2.2.2)],bv (((stT y ts (i + 1)).2).n1.1),[.string (str ((stT y ts (i + 1)).2).n1.2.1)],bv (((stT y ts (i + 1)).2).n1.2.2.1),[.int .i64 (((stT y ts (i + 1)).2).n1.2.2.2)],bv (((stT y ts (i + 1)).2).n2.1),[.string (str ((stT y ts (i + 1)).2).n2.2.1)],bv (((stT y ts (i + 1)).2).n2.2.2.1),[.int .i64 (((stT y ts (i + 1)).2).n2.2.2.2)],bv (((stT y ts (i + 1)).2).n3.1),[.string (str ((stT y ts (i + 1)).2).n3.2.1)],bv (((stT y ts (i + 1)).2).n3.2.2.1),[.int .i64 (((stT y ts (i + 1)).2).n3.2.2.2)]]) hM (by first | (simp only [hst];done) | (simp only [hst];rfl))
       replace hM : Mem _ _ w14 [_,_,_,_,_,_] := hM.pick [0,1,4,5,6,7] rfl
       exact ⟨i + 1,⟨by omega,hE.sel [1,2,4,5,6,7,23] rfl,hM⟩,by omega⟩
      ·have hat : (addS (stT y ts i).1 y (ts.getD i zTn).2.1.2.1 (ts.getD i zTn).2.1.2.2.1 (ts.getD i zTn).2.1.2.2.2).2.1 = 2 := by rw [hadd];rfl
       have hst : stT y ts (i + 1) = ((addS (stT y ts i).1 y (ts.getD i zTn).2.1.2.1 (ts.getD i zTn).2.1.2.2.1 (ts.getD i zTn).2.1.2.2.2).1,setI (stT y ts i).2 2 (ts.getD i zTn).2.1) := (stepT_add (j := 2) hb48 hadd).trans (by rw [hadd])
       replace hE := hE.cast 10 rfl (show _ = Value.int .i64 2 from congrArg (Value.int .i64) hat)
       replace hE := hE.cast 65 rfl (show _ = Value.int .i64 2 from congrArg (Value.int .i64) hat)
       refine ql hE rfl (hM.get 2 rfl) row84 rfl (by intro X h;cases h) rfl fun a hE=>?_
       replace hE := hE.cast 66 rfl (show _ = Value.agg ([bv ((ts.getD i zTn).2.1.1),[.string (str (ts.getD i zTn).2.1.2.1)],bv ((ts.getD i zTn).2.1.2.2.1),[.int .i64 ((ts.getD i zTn).2.1.2.2.2)]] : List (List Value)).flatten.toArray from (by first | rfl | simp only [List.flatten_cons,List.flatten_nil,List.append_nil,List.append_assoc]))
       refine qp (j := 2) hE rfl rfl arr87 rfl (by decide) rfl fun a hE=>?_
       have hsl363_0 : ((ts.getD i zTn).2.1.1).length = 32 := hxt.1.1
       have hsl363_2 : ((ts.getD i zTn).2.1.2.2.1).length = 16 := hxt.1.2.1
       replace hM : Mem _ _ w13 [_,_,_,_,_,_,_,_] := hM.pick [3,0,1,2,4,5,6,7] rfl
       refine qq 8 4 (vss := [bv ((ts.getD i zTn).2.1.1),[.string (str (ts.getD i zTn).2.1.2.1)],bv ((ts.getD i zTn).2.1.2.2.1),[.int .i64 ((ts.getD i zTn).2.1.2.2.2)]]) hE rfl rfl hM rfl sz84 (by simp only [List.take_succ_cons,List.take_zero,List.drop_zero,List.drop_succ_cons];simp only [List.map_cons,List.map_nil,vh,List.length_cons,List.length_nil,List.length_replicate,hsl363_0,hsl363_2]) (by decide) rfl (one_fl ⟨vc _,one1 rfl,vc _,one1 rfl,trivial⟩) rfl (by intro X h;cases h) fun w14 hM=>?_
       try simp only [List.take_zero,List.take_succ_cons,List.drop_zero,List.drop_succ_cons,List.take_nil,List.drop_nil,List.nil_append,List.append_nil,List.cons_append] at hM
       refine qa (K17 (wp_exit (qc (qg (K10 (wpp (sm hE rfl fun a hE=>sb hE rfl rfl (show Bin _ _ _ _ _ (.int .i64 ((i + 1 : Nat) : Int)) from bin_add (by rw [wrap_i64 (by omega) (by omega)];omega)) fun a hE=>?_)))))))
       refine sas hE rfl fun a hE=>qa ?_
       replace hE := hE.cast 7 rfl (show _ = Value.int .i64 (((i + 1) : Nat) : Int) from (congrArg _ (by omega)))
       replace hM : Mem _ _ w14 [_,_,_,_,_,_,_,_] := hM.pick [1,0,2,3,4,5,6,7] rfl
       replace hM := Mem.blkEq (ss := [[.int .i64 (((addS ((stT y ts i).1) y ((ts.getD i zTn).2.1.2.1) ((ts.getD i zTn).2.1.2.2.1) ((ts.getD i zTn).2.1.2.2.2)).1).m)],[.int .i64 (((addS ((stT y ts i).1) y ((ts.getD i zTn).2.1.2.1) ((ts.getD i zTn).2.1.2.2.1) ((ts.getD i zTn).2.1.2.2.2)).1).r)],[.bool (((addS ((stT y ts i).1) y ((ts.getD i zTn).2.1.2.1) ((ts.getD i zTn).2.1.2.2.1) ((ts.getD i zTn).2.1.2.2.2)).1).v0.1)],[.int .u64 ((((addS ((stT y ts i).1) y ((ts.getD i zTn).2.1.2.1) ((ts.getD i zTn).2.1.2.2.1) ((ts.getD i zTn).2.1.2.2.2)).1).v0.2.1 : Nat) : Int)],bv (((addS ((stT y ts i).1) y ((ts.getD i zTn).2.1.2.1) ((ts.getD i zTn).2.1.2.2.1) ((ts.getD i zTn).2.1.2.2.2)).1).v0.2.2.1),bv (((addS ((stT y ts i).1) y ((ts.getD i zTn).2.1.2.1) ((ts.getD i zTn).2.1.2.2.1) ((ts.getD i zTn).2.1.2.2.2)).1).v0.2.2.2),[.bool (((addS ((stT y ts i).1) y ((ts.getD i zTn).2.1.2.1) ((ts.getD i zTn).2.1.2.2.1) ((ts.getD i zTn).2.1.2.2.2)).1).v1.1)],[.int .u64 ((((addS ((stT y ts i).1) y ((ts.getD i zTn).2.1.2.1) ((ts.getD i zTn).2.1.2.2.1) ((ts.getD i zTn).2.1.2.2.2)).1).v1.2.1 : Nat) : Int)],bv (((addS ((stT y ts i).1) y ((ts.getD i zTn).2.1.2.1) ((ts.getD i zTn).2.1.2.2.1) ((ts.getD i zTn).2.1.2.2.2)).1).v1.2.2.1),bv (((addS ((stT y ts i).1) y ((ts.getD i zTn).2.1.2.1) ((ts.getD i zTn).2.1.2.2.1) ((ts.getD i zTn).2.1.2.2.2)).1).v1.2.2.2),[.bool (((addS ((stT y ts i).1) y ((ts.getD i zTn).2.1.2.1) ((ts.getD i zTn).2.1.2.2.1) ((ts.getD i zTn).2.1.2.2.2)).1).s0.1)],[.int .i64 (((addS ((stT y ts i).1) y ((ts.getD i zTn).2.1.2.1) ((ts.getD i zTn).2.1.2.2.1) ((ts.getD i zTn).2.1.2.2.2)).1).s0.2.1)],bv (((addS ((stT y ts i).1) y ((ts.getD i zTn).2.1.2.1) ((ts.getD i zTn).2.1.2.2.1) ((ts.getD i zTn).2.1.2.2.2)).1).s0.2.2.1),bv (((addS ((stT y ts i).1) y ((ts.getD i zTn).2.1.2.1) ((ts.getD i zTn).2.1.2.2.1) ((ts.getD i zTn).2.1.2.2.2)).1).s0.2.2.2.1),bv (((addS ((stT y ts i).1) y ((ts.getD i zTn).2.1.2.1) ((ts.getD i zTn).2.1.2.2.1) ((ts.getD i zTn).2.1.2.2.2)).1).s0.2.2.2.2),[.bool (((addS ((stT y ts i).1) y ((ts.getD i zTn).2.1.2.1) ((ts.getD i zTn).2.1.2.2.1) ((ts.getD i zTn).2.1.2.2.2)).1).s1.1)],[.int .i64 (((addS ((stT y ts i).1) y ((ts.getD i zTn).2.1.2.1) ((ts.getD i zTn).2.1.2.2.1) ((ts.getD i zTn).2.1.2.2.2)).1).s1.2.1)],bv (((addS ((stT y ts i).1) y ((ts.getD i zTn).2.1.2.1) ((ts.getD i zTn).2.1.2.2.1) ((ts.getD i zTn).2.1.2.2.2)).1).s1.2.2.1),bv (((addS ((stT y ts i).1) y ((ts.getD i zTn).2.1.2.1) ((ts.getD i zTn).2.1.2.2.1) ((ts.getD i zTn).2.1.2.2.2)).1).s1.2.2.2.1),bv (((addS ((stT y ts i).1) y ((ts.getD i zTn).2.1.2.1) ((ts.getD i zTn).2.1.2.2.1) ((ts.getD i zTn).2.1.2.2.2)).1).s1.2.2.2.2),[.bool (((addS ((stT y ts i).1) y ((ts.getD i zTn).2.1.2.1) ((ts.getD i zTn).2.1.2.2.1) ((ts.getD i zTn).2.1.2.2.2)).1).s2.1)],[.int .i64 (((addS ((stT y ts i).1) y ((ts.getD i zTn).2.1.2.1) ((ts.getD i zTn).2.1.2.2.1) ((ts.getD i zTn).2.1.2.2.2)).1).s2.2.1)],bv (((addS ((stT y ts i).1) y ((ts.getD i zTn).2.1.2.1) ((ts.getD i zTn).2.1.2.2.1) ((ts.getD i zTn).2.1.2.2.2)).1).s2.2.2.1),bv (((addS ((stT y ts i).1) y ((ts.getD i zTn).2.1.2.1) ((ts.getD i zTn).2.1.2.2.1) ((ts.getD i zTn).2.1.2.2.2)).1).s2.2.2.2.1),bv (((addS ((stT y ts i).1) y ((ts.getD i zTn).2.1.2.1) ((ts.getD i zTn).2.1.2.2.1) ((ts.getD i zTn).2.1.2.2.2)).1).s2.2.2.2.2),[.bool (((addS ((stT y ts i).1) y ((ts.getD i zTn).2.1.2.1) ((ts.getD i zTn).2.1.2.2.1) ((ts.getD i zTn).2.1.2.2.2)).1).s3.1)],[.int .i64 (((addS ((stT y ts i).1) y ((ts.getD i zTn).2.1.2.1) ((ts.getD i zTn).2.1.2.2.1) ((ts.getD i zTn).2.1.2.2.2)).1).s3.2.1)],bv (((addS ((stT y ts i).1) y ((ts.getD i zTn).2.1.2.1) ((ts.getD i zTn).2.1.2.2.1) ((ts.getD i zTn).2.1.2.2.2)).1).s3.2.2.1),bv (((addS ((stT y ts i).1) y ((ts.getD i zTn).2.1.2.1) ((ts.getD i zTn).2.1.2.2.1) ((ts.getD i zTn).2.1.2.2.2)).1).s3.2.2.2.1),bv (((addS ((stT y ts i).1) y ((ts.getD i zTn).2.1.2.1) ((ts.getD i zTn).2.1.2.2.1) ((ts.getD i zTn).2.1.2.2.2)).1).s3.2.2.2.2)]) (ss' := [[.int .i64 (((stT y ts (i + 1)).1).m)],[.int .i64 (((stT y ts (i + 1)).1).r)],[.bool (((stT y ts (i + 1)).1).v0.1)],[.int .u64 ((((stT y ts (i + 1)).1).v0.2.1 : Nat) : Int)],bv (((stT y ts (i + 1)).1).v0.2.2.1),bv (((stT y ts (i + 1)).1).v0.2.2.2),[.bool (((stT y ts (i + 1)).1).v1.1)],[.int .u64 ((((stT y ts (i + 1)).1).v1.2.1 : Nat) : Int)],bv (((stT y ts (i + 1)).1).v1.2.2.1),bv (((stT y ts (i + 1)).1).v1.2.2.2),[.bool (((stT y ts (i + 1)).1).s0.1)],[.int .i64 (((stT y ts (i + 1)).1).s0.2.1)],bv (((stT y ts (i + 1)).1).s0.2.2.1),bv (((stT y ts (i + 1)).1).s0.2.2.2.1),bv (((stT y ts (i + 1)).1).s0.2.2.2.2),[.bool (((stT y ts (i + 1)).1).s1.1)],[.int .i64 (((stT y ts (i + 1)).1).s1.2.1)],bv (((stT y ts (i + 1)).1).s1.2.2.1),bv (((stT y ts (i + 1)).1).s1.2.2.2.1),bv (((stT y ts (i + 1)).1).s1.2.2.2.2),[.bool (((stT y ts (i + 1)).1).s2.1)],[.int .i64 (((stT y ts (i + 1)).1).s2.2.1)],bv (((stT y ts (i + 1)).1).s2.2.2.1),bv (((stT y ts (i + 1)).1).s2.2.2.2.1),bv (((stT y ts (i + 1)).1).s2.2.2.2.2),[.bool (((stT y ts (i + 1)).1).s3.1)],[.int .i64 (((stT y ts (i + 1)).1).s3.2.1)],bv (((stT y ts (i + 1)).1).s3.2.2.1),bv (((stT y ts (i + 1)).1).s3.2.2.2.1),bv (((stT y ts (i + 1)).1).s3.2.2.2.2)]) hM (by first | (simp only [hst];done) | (simp only [hst];rfl))
       replace hM : Mem _ _ w14 [_,_,_,_,_,_,_,_] := hM.pick [1,0,2,3,4,5,6,7] rfl
       replace hM := Mem.blkEq (ss := [bv (((stT y ts i).2).n0.1),[.string (str ((stT y ts i).2).n0.2.1)],bv (((stT y ts i).2).n0.2.2.1),[.int .i64 (((stT y ts i).2).n0.2.2.2)],bv (((stT y ts i).2).n1.1),[.string (str ((stT y ts i).2).n1.2.1)],bv (((stT y ts i).2).n1.2.2.1),[.int .i64 (((stT y ts i).2).n1.2.2.2)],bv ((ts.getD i zTn).2.1.1),[.string (str (ts.getD i zTn).2.1.2.1)],bv ((ts.getD i zTn).2.1.2.2.1),[.int .i64 ((ts.getD i zTn).2.1.2.2.2)],bv (((stT y ts i).2).n3.1),[.string (str ((stT y ts i).2).n3.2.1)],bv (((stT y ts i).2).n3.2.2.1),[.int .i64 (((stT y ts i).2).n3.2.2.2)]]) (ss' := [bv (((stT y ts (i + 1)).2).n0.1),[.string (str ((stT y ts (i + 1)).2).n0.2.1)],bv (((stT y ts (i + 1)).2).n0.2.2.1),[.int .i64 (((stT y ts (i + 1)).2).n0.2.2.2)],bv (((stT y ts (i + 1)).2).n1.1),[.string (str ((stT y ts (i + 1)).2).n1.2.1)],bv (((stT y ts (i + 1)).2).n1.2.2.1),[.int .i64 (((stT y ts (i + 1)).2).n1.2.2.2)],bv (((stT y ts (i + 1)).2).n2.1),[.string (str ((stT y ts (i + 1)).2).n2.2.1)],bv (((stT y ts (i + 1)).2).n2.2.2.1),[.int .i64 (((stT y ts (i + 1)).2).n2.2.2.2)],bv (((stT y ts (i + 1)).2).n3.1),[.string (str ((stT y ts (i + 1)).2).n3.2.1)],bv (((stT y ts (i + 1)).2).n3.2.2.1),[.int .i64 (((stT y ts (i + 1)).2).n3.2.2.2)]]) hM (by first | (simp only [hst];done) | (simp only [hst];rfl))
       replace hM : Mem _ _ w14 [_,_,_,_,_,_] := hM.pick [0,1,4,5,6,7] rfl
       exact ⟨i + 1,⟨by omega,hE.sel [1,2,4,5,6,7,23] rfl,hM⟩,by omega⟩
      ·have hat : (addS (stT y ts i).1 y (ts.getD i zTn).2.1.2.1 (ts.getD i zTn).2.1.2.2.1 (ts.getD i zTn).2.1.2.2.2).2.1 = 3 := by rw [hadd];rfl
       have hst : stT y ts (i + 1) = ((addS (stT y ts i).1 y (ts.getD i zTn).2.1.2.1 (ts.getD i zTn).2.1.2.2.1 (ts.getD i zTn).2.1.2.2.2).1,setI (stT y ts i).2 3 (ts.getD i zTn).2.1) := (stepT_add (j := 3) hb48 hadd).trans (by rw [hadd])
       replace hE := hE.cast 10 rfl (show _ = Value.int .i64 3 from congrArg (Value.int .i64) hat)
       replace hE := hE.cast 65 rfl (show _ = Value.int .i64 3 from congrArg (Value.int .i64) hat)
       refine ql hE rfl (hM.get 2 rfl) row84 rfl (by intro X h;cases h) rfl fun a hE=>?_
       replace hE := hE.cast 66 rfl (show _ = Value.agg ([bv ((ts.getD i zTn).2.1.1),[.string (str (ts.getD i zTn).2.1.2.1)],bv ((ts.getD i zTn).2.1.2.2.1),[.int .i64 ((ts.getD i zTn).2.1.2.2.2)]] : List (List Value)).flatten.toArray from (by first | rfl | simp only [List.flatten_cons,List.flatten_nil,List.append_nil,List.append_assoc]))
       refine qp (j := 3) hE rfl rfl arr87 rfl (by decide) rfl fun a hE=>?_
       have hsl395_0 : ((ts.getD i zTn).2.1.1).length = 32 := hxt.1.1
       have hsl395_2 : ((ts.getD i zTn).2.1.2.2.1).length = 16 := hxt.1.2.1
       replace hM : Mem _ _ w13 [_,_,_,_,_,_,_,_] := hM.pick [3,0,1,2,4,5,6,7] rfl
       refine qq 12 4 (vss := [bv ((ts.getD i zTn).2.1.1),[.string (str (ts.getD i zTn).2.1.2.1)],bv ((ts.getD i zTn).2.1.2.2.1),[.int .i64 ((ts.getD i zTn).2.1.2.2.2)]]) hE rfl rfl hM rfl sz84 (by simp only [List.take_succ_cons,List.take_zero,List.drop_zero,List.drop_succ_cons];simp only [List.map_cons,List.map_nil,vh,List.length_cons,List.length_nil,List.length_replicate,hsl395_0,hsl395_2]) (by decide) rfl (one_fl ⟨vc _,one1 rfl,vc _,one1 rfl,trivial⟩) rfl (by intro X h;cases h) fun w14 hM=>?_
       try simp only [List.take_zero,List.take_succ_cons,List.drop_zero,List.drop_succ_cons,List.take_nil,List.drop_nil,List.nil_append,List.append_nil,List.cons_append] at hM
       refine qa (K17 (wp_exit (qc (qg (K10 (wpp (sm hE rfl fun a hE=>sb hE rfl rfl (show Bin _ _ _ _ _ (.int .i64 ((i + 1 : Nat) : Int)) from bin_add (by rw [wrap_i64 (by omega) (by omega)];omega)) fun a hE=>?_)))))))
       refine sas hE rfl fun a hE=>qa ?_
       replace hE := hE.cast 7 rfl (show _ = Value.int .i64 (((i + 1) : Nat) : Int) from (congrArg _ (by omega)))
       replace hM : Mem _ _ w14 [_,_,_,_,_,_,_,_] := hM.pick [1,0,2,3,4,5,6,7] rfl
       replace hM := Mem.blkEq (ss := [[.int .i64 (((addS ((stT y ts i).1) y ((ts.getD i zTn).2.1.2.1) ((ts.getD i zTn).2.1.2.2.1) ((ts.getD i zTn).2.1.2.2.2)).1).m)],[.int .i64 (((addS ((stT y ts i).1) y ((ts.getD i zTn).2.1.2.1) ((ts.getD i zTn).2.1.2.2.1) ((ts.getD i zTn).2.1.2.2.2)).1).r)],[.bool (((addS ((stT y ts i).1) y ((ts.getD i zTn).2.1.2.1) ((ts.getD i zTn).2.1.2.2.1) ((ts.getD i zTn).2.1.2.2.2)).1).v0.1)],[.int .u64 ((((addS ((stT y ts i).1) y ((ts.getD i zTn).2.1.2.1) ((ts.getD i zTn).2.1.2.2.1) ((ts.getD i zTn).2.1.2.2.2)).1).v0.2.1 : Nat) : Int)],bv (((addS ((stT y ts i).1) y ((ts.getD i zTn).2.1.2.1) ((ts.getD i zTn).2.1.2.2.1) ((ts.getD i zTn).2.1.2.2.2)).1).v0.2.2.1),bv (((addS ((stT y ts i).1) y ((ts.getD i zTn).2.1.2.1) ((ts.getD i zTn).2.1.2.2.1) ((ts.getD i zTn).2.1.2.2.2)).1).v0.2.2.2),[.bool (((addS ((stT y ts i).1) y ((ts.getD i zTn).2.1.2.1) ((ts.getD i zTn).2.1.2.2.1) ((ts.getD i zTn).2.1.2.2.2)).1).v1.1)],[.int .u64 ((((addS ((stT y ts i).1) y ((ts.getD i zTn).2.1.2.1) ((ts.getD i zTn).2.1.2.2.1) ((ts.getD i zTn).2.1.2.2.2)).1).v1.2.1 : Nat) : Int)],bv (((addS ((stT y ts i).1) y ((ts.getD i zTn).2.1.2.1) ((ts.getD i zTn).2.1.2.2.1) ((ts.getD i zTn).2.1.2.2.2)).1).v1.2.2.1),bv (((addS ((stT y ts i).1) y ((ts.getD i zTn).2.1.2.1) ((ts.getD i zTn).2.1.2.2.1) ((ts.getD i zTn).2.1.2.2.2)).1).v1.2.2.2),[.bool (((addS ((stT y ts i).1) y ((ts.getD i zTn).2.1.2.1) ((ts.getD i zTn).2.1.2.2.1) ((ts.getD i zTn).2.1.2.2.2)).1).s0.1)],[.int .i64 (((addS ((stT y ts i).1) y ((ts.getD i zTn).2.1.2.1) ((ts.getD i zTn).2.1.2.2.1) ((ts.getD i zTn).2.1.2.2.2)).1).s0.2.1)],bv (((addS ((stT y ts i).1) y ((ts.getD i zTn).2.1.2.1) ((ts.getD i zTn).2.1.2.2.1) ((ts.getD i zTn).2.1.2.2.2)).1).s0.2.2.1),bv (((addS ((stT y ts i).1) y ((ts.getD i zTn).2.1.2.1) ((ts.getD i zTn).2.1.2.2.1) ((ts.getD i zTn).2.1.2.2.2)).1).s0.2.2.2.1),bv (((addS ((stT y ts i).1) y ((ts.getD i zTn).2.1.2.1) ((ts.getD i zTn).2.1.2.2.1) ((ts.getD i zTn).2.1.2.2.2)).1).s0.2.2.2.2),[.bool (((addS ((stT y ts i).1) y ((ts.getD i zTn).2.1.2.1) ((ts.getD i zTn).2.1.2.2.1) ((ts.getD i zTn).2.1.2.2.2)).1).s1.1)],[.int .i64 (((addS ((stT y ts i).1) y ((ts.getD i zTn).2.1.2.1) ((ts.getD i zTn).2.1.2.2.1) ((ts.getD i zTn).2.1.2.2.2)).1).s1.2.1)],bv (((addS ((stT y ts i).1) y ((ts.getD i zTn).2.1.2.1) ((ts.getD i zTn).2.1.2.2.1) ((ts.getD i zTn).2.1.2.2.2)).1).s1.2.2.1),bv (((addS ((stT y ts i).1) y ((ts.getD i zTn).2.1.2.1) ((ts.getD i zTn).2.1.2.2.1) ((ts.getD i zTn).2.1.2.2.2)).1).s1.2.2.2.1),bv (((addS ((stT y ts i).1) y ((ts.getD i zTn).2.1.2.1) ((ts.getD i zTn).2.1.2.2.1) ((ts.getD i zTn).2.1.2.2.2)).1).s1.2.2.2.2),[.bool (((addS ((stT y ts i).1) y ((ts.getD i zTn).2.1.2.1) ((ts.getD i zTn).2.1.2.2.1) ((ts.getD i zTn).2.1.2.2.2)).1).s2.1)],[.int .i64 (((addS ((stT y ts i).1) y ((ts.getD i zTn).2.1.2.1) ((ts.getD i zTn).2.1.2.2.1) ((ts.getD i zTn).2.1.2.2.2)).1).s2.2.1)],bv (((addS ((stT y ts i).1) y ((ts.getD i zTn).2.1.2.1) ((ts.getD i zTn).2.1.2.2.1) ((ts.getD i zTn).2.1.2.2.2)).1).s2.2.2.1),bv (((addS ((stT y ts i).1) y ((ts.getD i zTn).2.1.2.1) ((ts.getD i zTn).2.1.2.2.1) ((ts.getD i zTn).2.1.2.2.2)).1).s2.2.2.2.1),bv (((addS ((stT y ts i).1) y ((ts.getD i zTn).2.1.2.1) ((ts.getD i zTn).2.1.2.2.1) ((ts.getD i zTn).2.1.2.2.2)).1).s2.2.2.2.2),[.bool (((addS ((stT y ts i).1) y ((ts.getD i zTn).2.1.2.1) ((ts.getD i zTn).2.1.2.2.1) ((ts.getD i zTn).2.1.2.2.2)).1).s3.1)],[.int .i64 (((addS ((stT y ts i).1) y ((ts.getD i zTn).2.1.2.1) ((ts.getD i zTn).2.1.2.2.1) ((ts.getD i zTn).2.1.2.2.2)).1).s3.2.1)],bv (((addS ((stT y ts i).1) y ((ts.getD i zTn).2.1.2.1) ((ts.getD i zTn).2.1.2.2.1) ((ts.getD i zTn).2.1.2.2.2)).1).s3.2.2.1),bv (((addS ((stT y ts i).1) y ((ts.getD i zTn).2.1.2.1) ((ts.getD i zTn).2.1.2.2.1) ((ts.getD i zTn).2.1.2.2.2)).1).s3.2.2.2.1),bv (((addS ((stT y ts i).1) y ((ts.getD i zTn).2.1.2.1) ((ts.getD i zTn).2.1.2.2.1) ((ts.getD i zTn).2.1.2.2.2)).1).s3.2.2.2.2)]) (ss' := [[.int .i64 (((stT y ts (i + 1)).1).m)],[.int .i64 (((stT y ts (i + 1)).1).r)],[.bool (((stT y ts (i + 1)).1).v0.1)],[.int .u64 ((((stT y ts (i + 1)).1).v0.2.1 : Nat) : Int)],bv (((stT y ts (i + 1)).1).v0.2.2.1),bv (((stT y ts (i + 1)).1).v0.2.2.2),[.bool (((stT y ts (i + 1)).1).v1.1)],[.int .u64 ((((stT y ts (i + 1)).1).v1.2.1 : Nat) : Int)],bv (((stT y ts (i + 1)).1).v1.2.2.1),bv (((stT y ts (i + 1)).1).v1.2.2.2),[.bool (((stT y ts (i + 1)).1).s0.1)],[.int .i64 (((stT y ts (i + 1)).1).s0.2.1)],bv (((stT y ts (i + 1)).1).s0.2.2.1),bv (((stT y ts (i + 1)).1).s0.2.2.2.1),bv (((stT y ts (i + 1)).1).s0.2.2.2.2),[.bool (((stT y ts (i + 1)).1).s1.1)],[.int .i64 (((stT y ts (i + 1)).1).s1.2.1)],bv (((stT y ts (i + 1)).1).s1.2.2.1),bv (((stT y ts (i + 1)).1).s1.2.2.2.1),bv (((stT y ts (i + 1)).1).s1.2.2.2.2),[.bool (((stT y ts (i + 1)).1).s2.1)],[.int .i64 (((stT y ts (i + 1)).1).s2.2.1)],bv (((stT y ts (i + 1)).1).s2.2.2.1),bv (((stT y ts (i + 1)).1).s2.2.2.2.1),bv (((stT y ts (i + 1)).1).s2.2.2.2.2),[.bool (((stT y ts (i + 1)).1).s3.1)],[.int .i64 (((stT y ts (i + 1)).1).s3.2.1)],bv (((stT y ts (i + 1)).1).s3.2.2.1),bv (((stT y ts (i + 1)).1).s3.2.2.2.1),bv (((stT y ts (i + 1)).1).s3.2.2.2.2)]) hM (by first | (simp only [hst];done) | (simp only [hst];rfl))
       replace hM : Mem _ _ w14 [_,_,_,_,_,_,_,_] := hM.pick [1,0,2,3,4,5,6,7] rfl
       replace hM := Mem.blkEq (ss := [bv (((stT y ts i).2).n0.1),[.string (str ((stT y ts i).2).n0.2.1)],bv (((stT y ts i).2).n0.2.2.1),[.int .i64 (((stT y ts i).2).n0.2.2.2)],bv (((stT y ts i).2).n1.1),[.string (str ((stT y ts i).2).n1.2.1)],bv (((stT y ts i).2).n1.2.2.1),[.int .i64 (((stT y ts i).2).n1.2.2.2)],bv (((stT y ts i).2).n2.1),[.string (str ((stT y ts i).2).n2.2.1)],bv (((stT y ts i).2).n2.2.2.1),[.int .i64 (((stT y ts i).2).n2.2.2.2)],bv ((ts.getD i zTn).2.1.1),[.string (str (ts.getD i zTn).2.1.2.1)],bv ((ts.getD i zTn).2.1.2.2.1),[.int .i64 ((ts.getD i zTn).2.1.2.2.2)]]) (ss' := [bv (((stT y ts (i + 1)).2).n0.1),[.string (str ((stT y ts (i + 1)).2).n0.2.1)],bv (((stT y ts (i + 1)).2).n0.2.2.1),[.int .i64 (((stT y ts (i + 1)).2).n0.2.2.2)],bv (((stT y ts (i + 1)).2).n1.1),[.string (str ((stT y ts (i + 1)).2).n1.2.1)],bv (((stT y ts (i + 1)).2).n1.2.2.1),[.int .i64 (((stT y ts (i + 1)).2).n1.2.2.2)],bv (((stT y ts (i + 1)).2).n2.1),[.string (str ((stT y ts (i + 1)).2).n2.2.1)],bv (((stT y ts (i + 1)).2).n2.2.2.1),[.int .i64 (((stT y ts (i + 1)).2).n2.2.2.2)],bv (((stT y ts (i + 1)).2).n3.1),[.string (str ((stT y ts (i + 1)).2).n3.2.1)],bv (((stT y ts (i + 1)).2).n3.2.2.1),[.int .i64 (((stT y ts (i + 1)).2).n3.2.2.2)]]) hM (by first | (simp only [hst];done) | (simp only [hst];rfl))
       replace hM : Mem _ _ w14 [_,_,_,_,_,_] := hM.pick [0,1,4,5,6,7] rfl
       exact ⟨i + 1,⟨by omega,hE.sel [1,2,4,5,6,7,23] rfl,hM⟩,by omega⟩
     ·replace hb63 := of_decide_eq_false hb63
      replace hb63 : ¬ (((addS ((stT y ts i).1) y ((ts.getD i zTn).2.1.2.1) ((ts.getD i zTn).2.1.2.2.1) ((ts.getD i zTn).2.1.2.2.2)).2.2) = 0) := by omega
      have hst : stT y ts (i + 1) = stT y ts i := stepT_no hb48 (by omega)
      refine wcf hE rfl (wp_skip (K17 (wp_exit (qc (qg (K10 (wpp (sm hE rfl fun a hE=>sb hE rfl rfl (show Bin _ _ _ _ _ (.int .i64 ((i + 1 : Nat) : Int)) from bin_add (by rw [wrap_i64 (by omega) (by omega)];omega)) fun a hE=>?_))))))))
      refine sas hE rfl fun a hE=>qa ?_
      replace hE := hE.cast 7 rfl (show _ = Value.int .i64 (((i + 1) : Nat) : Int) from (congrArg _ (by omega)))
      replace hM : Mem _ _ w12 [_,_,_,_,_,_,_,_] := hM.pick [3,0,1,2,4,5,6,7] rfl
      replace hM := Mem.blkEq (ss := [[.int .i64 (((stT y ts i).1).m)],[.int .i64 (((stT y ts i).1).r)],[.bool (((stT y ts i).1).v0.1)],[.int .u64 ((((stT y ts i).1).v0.2.1 : Nat) : Int)],bv (((stT y ts i).1).v0.2.2.1),bv (((stT y ts i).1).v0.2.2.2),[.bool (((stT y ts i).1).v1.1)],[.int .u64 ((((stT y ts i).1).v1.2.1 : Nat) : Int)],bv (((stT y ts i).1).v1.2.2.1),bv (((stT y ts i).1).v1.2.2.2),[.bool (((stT y ts i).1).s0.1)],[.int .i64 (((stT y ts i).1).s0.2.1)],bv (((stT y ts i).1).s0.2.2.1),bv (((stT y ts i).1).s0.2.2.2.1),bv (((stT y ts i).1).s0.2.2.2.2),[.bool (((stT y ts i).1).s1.1)],[.int .i64 (((stT y ts i).1).s1.2.1)],bv (((stT y ts i).1).s1.2.2.1),bv (((stT y ts i).1).s1.2.2.2.1),bv (((stT y ts i).1).s1.2.2.2.2),[.bool (((stT y ts i).1).s2.1)],[.int .i64 (((stT y ts i).1).s2.2.1)],bv (((stT y ts i).1).s2.2.2.1),bv (((stT y ts i).1).s2.2.2.2.1),bv (((stT y ts i).1).s2.2.2.2.2),[.bool (((stT y ts i).1).s3.1)],[.int .i64 (((stT y ts i).1).s3.2.1)],bv (((stT y ts i).1).s3.2.2.1),bv (((stT y ts i).1).s3.2.2.2.1),bv (((stT y ts i).1).s3.2.2.2.2)]) (ss' := [[.int .i64 (((stT y ts (i + 1)).1).m)],[.int .i64 (((stT y ts (i + 1)).1).r)],[.bool (((stT y ts (i + 1)).1).v0.1)],[.int .u64 ((((stT y ts (i + 1)).1).v0.2.1 : Nat) : Int)],bv (((stT y ts (i + 1)).1).v0.2.2.1),bv (((stT y ts (i + 1)).1).v0.2.2.2),[.bool (((stT y ts (i + 1)).1).v1.1)],[.int .u64 ((((stT y ts (i + 1)).1).v1.2.1 : Nat) : Int)],bv (((stT y ts (i + 1)).1).v1.2.2.1),bv (((stT y ts (i + 1)).1).v1.2.2.2),[.bool (((stT y ts (i + 1)).1).s0.1)],[.int .i64 (((stT y ts (i + 1)).1).s0.2.1)],bv (((stT y ts (i + 1)).1).s0.2.2.1),bv (((stT y ts (i + 1)).1).s0.2.2.2.1),bv (((stT y ts (i + 1)).1).s0.2.2.2.2),[.bool (((stT y ts (i + 1)).1).s1.1)],[.int .i64 (((stT y ts (i + 1)).1).s1.2.1)],bv (((stT y ts (i + 1)).1).s1.2.2.1),bv (((stT y ts (i + 1)).1).s1.2.2.2.1),bv (((stT y ts (i + 1)).1).s1.2.2.2.2),[.bool (((stT y ts (i + 1)).1).s2.1)],[.int .i64 (((stT y ts (i + 1)).1).s2.2.1)],bv (((stT y ts (i + 1)).1).s2.2.2.1),bv (((stT y ts (i + 1)).1).s2.2.2.2.1),bv (((stT y ts (i + 1)).1).s2.2.2.2.2),[.bool (((stT y ts (i + 1)).1).s3.1)],[.int .i64 (((stT y ts (i + 1)).1).s3.2.1)],bv (((stT y ts (i + 1)).1).s3.2.2.1),bv (((stT y ts (i + 1)).1).s3.2.2.2.1),bv (((stT y ts (i + 1)).1).s3.2.2.2.2)]) hM (by first | (simp only [hst];done) | (simp only [hst];rfl))
      replace hM : Mem _ _ w12 [_,_,_,_,_,_,_,_] := hM.pick [3,0,1,2,4,5,6,7] rfl
      replace hM := Mem.blkEq (ss := [bv (((stT y ts i).2).n0.1),[.string (str ((stT y ts i).2).n0.2.1)],bv (((stT y ts i).2).n0.2.2.1),[.int .i64 (((stT y ts i).2).n0.2.2.2)],bv (((stT y ts i).2).n1.1),[.string (str ((stT y ts i).2).n1.2.1)],bv (((stT y ts i).2).n1.2.2.1),[.int .i64 (((stT y ts i).2).n1.2.2.2)],bv (((stT y ts i).2).n2.1),[.string (str ((stT y ts i).2).n2.2.1)],bv (((stT y ts i).2).n2.2.2.1),[.int .i64 (((stT y ts i).2).n2.2.2.2)],bv (((stT y ts i).2).n3.1),[.string (str ((stT y ts i).2).n3.2.1)],bv (((stT y ts i).2).n3.2.2.1),[.int .i64 (((stT y ts i).2).n3.2.2.2)]]) (ss' := [bv (((stT y ts (i + 1)).2).n0.1),[.string (str ((stT y ts (i + 1)).2).n0.2.1)],bv (((stT y ts (i + 1)).2).n0.2.2.1),[.int .i64 (((stT y ts (i + 1)).2).n0.2.2.2)],bv (((stT y ts (i + 1)).2).n1.1),[.string (str ((stT y ts (i + 1)).2).n1.2.1)],bv (((stT y ts (i + 1)).2).n1.2.2.1),[.int .i64 (((stT y ts (i + 1)).2).n1.2.2.2)],bv (((stT y ts (i + 1)).2).n2.1),[.string (str ((stT y ts (i + 1)).2).n2.2.1)],bv (((stT y ts (i + 1)).2).n2.2.2.1),[.int .i64 (((stT y ts (i + 1)).2).n2.2.2.2)],bv (((stT y ts (i + 1)).2).n3.1),[.string (str ((stT y ts (i + 1)).2).n3.2.1)],bv (((stT y ts (i + 1)).2).n3.2.2.1),[.int .i64 (((stT y ts (i + 1)).2).n3.2.2.2)]]) hM (by first | (simp only [hst];done) | (simp only [hst];rfl))
      replace hM : Mem _ _ w12 [_,_,_,_,_,_] := hM.pick [0,1,4,5,6,7] rfl
      exact ⟨i + 1,⟨by omega,hE.sel [1,2,4,5,6,7,23] rfl,hM⟩,by omega⟩
    ·refine wcf hE rfl (wp_skip (K14 ?_))
     refine wp_seq_j (fun a w' => ∃ (b12 : Nat),Env a 173 [(1,vt),(2,.pointer (some ⟨b2,0,none⟩)),(4,.bool false),(5,.pointer (some ⟨b5,0,none⟩)),(6,.pointer (some ⟨b6,0,none⟩)),(7,.int .i64 ((i : Nat) : Int)),(8,.pointer (some ⟨b8,0,none⟩)),(12,.pointer (some ⟨b12,0,none⟩)),(13,.int .i64 (((remS ((stT y ts i).1) ((ts.getD i zTn).2.2)).2 : Nat) : Int)),(23,.bool false),(29,.bool true),(42,.bool false),(48,.bool false)] ∧ Mem w [] w' [blk b12 [[.int .i64 (((remS ((stT y ts i).1) ((ts.getD i zTn).2.2)).1).m)],[.int .i64 (((remS ((stT y ts i).1) ((ts.getD i zTn).2.2)).1).r)],[.bool (((remS ((stT y ts i).1) ((ts.getD i zTn).2.2)).1).v0.1)],[.int .u64 ((((remS ((stT y ts i).1) ((ts.getD i zTn).2.2)).1).v0.2.1 : Nat) : Int)],bv (((remS ((stT y ts i).1) ((ts.getD i zTn).2.2)).1).v0.2.2.1),bv (((remS ((stT y ts i).1) ((ts.getD i zTn).2.2)).1).v0.2.2.2),[.bool (((remS ((stT y ts i).1) ((ts.getD i zTn).2.2)).1).v1.1)],[.int .u64 ((((remS ((stT y ts i).1) ((ts.getD i zTn).2.2)).1).v1.2.1 : Nat) : Int)],bv (((remS ((stT y ts i).1) ((ts.getD i zTn).2.2)).1).v1.2.2.1),bv (((remS ((stT y ts i).1) ((ts.getD i zTn).2.2)).1).v1.2.2.2),[.bool (((remS ((stT y ts i).1) ((ts.getD i zTn).2.2)).1).s0.1)],[.int .i64 (((remS ((stT y ts i).1) ((ts.getD i zTn).2.2)).1).s0.2.1)],bv (((remS ((stT y ts i).1) ((ts.getD i zTn).2.2)).1).s0.2.2.1),bv (((remS ((stT y ts i).1) ((ts.getD i zTn).2.2)).1).s0.2.2.2.1),bv (((remS ((stT y ts i).1) ((ts.getD i zTn).2.2)).1).s0.2.2.2.2),[.bool (((remS ((stT y ts i).1) ((ts.getD i zTn).2.2)).1).s1.1)],[.int .i64 (((remS ((stT y ts i).1) ((ts.getD i zTn).2.2)).1).s1.2.1)],bv (((remS ((stT y ts i).1) ((ts.getD i zTn).2.2)).1).s1.2.2.1),bv (((remS ((stT y ts i).1) ((ts.getD i zTn).2.2)).1).s1.2.2.2.1),bv (((remS ((stT y ts i).1) ((ts.getD i zTn).2.2)).1).s1.2.2.2.2),[.bool (((remS ((stT y ts i).1) ((ts.getD i zTn).2.2)).1).s2.1)],[.int .i64 (((remS ((stT y ts i).1) ((ts.getD i zTn).2.2)).1).s2.2.1)],bv (((remS ((stT y ts i).1) ((ts.getD i zTn).2.2)).1).s2.2.2.1),bv (((remS ((stT y ts i).1) ((ts.getD i zTn).2.2)).1).s2.2.2.2.1),bv (((remS ((stT y ts i).1) ((ts.getD i zTn).2.2)).1).s2.2.2.2.2),[.bool (((remS ((stT y ts i).1) ((ts.getD i zTn).2.2)).1).s3.1)],[.int .i64 (((remS ((stT y ts i).1) ((ts.getD i zTn).2.2)).1).s3.2.1)],bv (((remS ((stT y ts i).1) ((ts.getD i zTn).2.2)).1).s3.2.2.1),bv (((remS ((stT y ts i).1) ((ts.getD i zTn).2.2)).1).s3.2.2.2.1),bv (((remS ((stT y ts i).1) ((ts.getD i zTn).2.2)).1).s3.2.2.2.2)] [1,1,1,1,32,32,1,1,32,32,1,1,16,32,32,1,1,16,32,32,1,1,16,32,32,1,1,16,32,32] 62,blk b8 [bv ((ts.getD i zTn).2.1.1),[.string (str (ts.getD i zTn).2.1.2.1)],bv ((ts.getD i zTn).2.1.2.2.1),[.int .i64 ((ts.getD i zTn).2.1.2.2.2)]] [32,1,16,1] 84,blk b6 [bv (((stT y ts i).2).n0.1),[.string (str ((stT y ts i).2).n0.2.1)],bv (((stT y ts i).2).n0.2.2.1),[.int .i64 (((stT y ts i).2).n0.2.2.2)],bv (((stT y ts i).2).n1.1),[.string (str ((stT y ts i).2).n1.2.1)],bv (((stT y ts i).2).n1.2.2.1),[.int .i64 (((stT y ts i).2).n1.2.2.2)],bv (((stT y ts i).2).n2.1),[.string (str ((stT y ts i).2).n2.2.1)],bv (((stT y ts i).2).n2.2.2.1),[.int .i64 (((stT y ts i).2).n2.2.2.2)],bv (((stT y ts i).2).n3.1),[.string (str ((stT y ts i).2).n3.2.1)],bv (((stT y ts i).2).n3.2.2.1),[.int .i64 (((stT y ts i).2).n3.2.2.2)]] [32,1,16,1,32,1,16,1,32,1,16,1,32,1,16,1] 87,blk b5 [[.int .i64 (((stT y ts i).1).m)],[.int .i64 (((stT y ts i).1).r)],[.bool (((stT y ts i).1).v0.1)],[.int .u64 ((((stT y ts i).1).v0.2.1 : Nat) : Int)],bv (((stT y ts i).1).v0.2.2.1),bv (((stT y ts i).1).v0.2.2.2),[.bool (((stT y ts i).1).v1.1)],[.int .u64 ((((stT y ts i).1).v1.2.1 : Nat) : Int)],bv (((stT y ts i).1).v1.2.2.1),bv (((stT y ts i).1).v1.2.2.2),[.bool (((stT y ts i).1).s0.1)],[.int .i64 (((stT y ts i).1).s0.2.1)],bv (((stT y ts i).1).s0.2.2.1),bv (((stT y ts i).1).s0.2.2.2.1),bv (((stT y ts i).1).s0.2.2.2.2),[.bool (((stT y ts i).1).s1.1)],[.int .i64 (((stT y ts i).1).s1.2.1)],bv (((stT y ts i).1).s1.2.2.1),bv (((stT y ts i).1).s1.2.2.2.1),bv (((stT y ts i).1).s1.2.2.2.2),[.bool (((stT y ts i).1).s2.1)],[.int .i64 (((stT y ts i).1).s2.2.1)],bv (((stT y ts i).1).s2.2.2.1),bv (((stT y ts i).1).s2.2.2.2.1),bv (((stT y ts i).1).s2.2.2.2.2),[.bool (((stT y ts i).1).s3.1)],[.int .i64 (((stT y ts i).1).s3.2.1)],bv (((stT y ts i).1).s3.2.2.1),bv (((stT y ts i).1).s3.2.2.2.1),bv (((stT y ts i).1).s3.2.2.2.2)] [1,1,1,1,32,32,1,1,32,32,1,1,16,32,32,1,1,16,32,32,1,1,16,32,32,1,1,16,32,32] 62,blk b2 [bv y] [32] 23,rd vt 52 ts.length ct (ts.flatMap tnC),glb 1,tabP]) ?_ ?_
     ·refine qz hM (by kernel_rfl) (fun _ => True) (fun _ => True) (.re [(1,true),(2,true),(3,true),(4,true),(0,true),(5,true),(6,false),(7,true),(8,true),(9,true),(10,false),(11,false),(12,true)] (.fl 4 (.weak (.fl 2 (.or 6 (.re [(7,true),(8,true),(9,true),(10,false),(11,false),(12,true)] (.fl 3 (.fl 0 (.or 10 (.re [(11,false),(12,true)] (.fl 0 (.fl 0 (.or 11 (.cut (.re [(12,true)] (.weak (.leaf 1)))) (.stop))))) (.stop))))) (.or 10 (.cut (.re [(6,false),(7,true),(8,true),(9,true),(11,false),(12,true)] (.fl 0 (.fl 0 (.or 6 (.re [(7,true),(8,true),(9,true),(11,false),(12,true)] (.fl 3 (.fl 0 (.weak (.or 11 (.cut (.re [(12,true)] (.weak (.leaf 1)))) (.stop)))))) (.stop)))))) (.stop))))))) [(1,true),(2,true),(3,true),(4,true),(0,true),(5,true),(6,false),(7,true),(8,true),(9,true),(10,false),(11,false),(12,true)] [(0,[(6,0),(7,6),(8,7),(9,7),(11,0),(12,0)]),(3,[(4,3),(5,4),(6,5),(7,6),(8,7),(9,7),(11,3),(12,3)]),(4,[(5,4),(6,5),(7,6),(8,7),(9,7),(11,4),(12,4)]),(5,[(6,5),(7,6),(8,7),(9,7),(11,5),(12,5)]),(6,[(7,6),(8,7),(9,7),(11,6),(12,6)]),(8,[(11,8),(12,8)]),(9,[(12,9)]),(10,[(11,10),(12,10)]),(11,[(12,11)])] (by kernel_rfl) ?_
      intro w10 hM' hww10;replace hM := hM'
      refine o_re (o_fl rfl (sm hE rfl fun a hE=>sm hE rfl fun a hE=>qu (j := i) hE rfl (hM.get 4 rfl) rfl slt86 (by first | rfl | omega) (by omega) rfl fun a p72 hE hc72 hp72=>?_))
      have hlj72 : i < ts.length := (by omega)
      have hok72 := ho_ts _ (getD_mem (d := zTn) hlj72)
      rw [flat_elem (d := zTn) (fun x hx => tnC_len (ho_ts x hx)) hlj72] at hc72
      refine s_fieldAtN (m := 1) hE rfl hc72 fo89_2 rfl fun a p73 hE hc73 hp73=>?_
      rw [tnC_off hxt] at hc73
      refine qa (qh (vb (fun b => b ≠ b5 ∧ b ∉ rdB vt ct) (fun _ _ => trivial) (o_fl rfl ?_)))
      refine ql hE rfl (hM.get 2 rfl) row62 rfl (by intro X h;cases h;first | (simp;done) | (intro b hb hx;exact hx.2.2 (rdB_sub (hp100 _ hb)))) rfl fun a hE=>?_
      replace hE := hE.cast 69 rfl (show _ = Value.agg ([[.int .i64 (((stT y ts i).1).m)],[.int .i64 (((stT y ts i).1).r)],[.bool (((stT y ts i).1).v0.1)],[.int .u64 ((((stT y ts i).1).v0.2.1 : Nat) : Int)],bv (((stT y ts i).1).v0.2.2.1),bv (((stT y ts i).1).v0.2.2.2),[.bool (((stT y ts i).1).v1.1)],[.int .u64 ((((stT y ts i).1).v1.2.1 : Nat) : Int)],bv (((stT y ts i).1).v1.2.2.1),bv (((stT y ts i).1).v1.2.2.2),[.bool (((stT y ts i).1).s0.1)],[.int .i64 (((stT y ts i).1).s0.2.1)],bv (((stT y ts i).1).s0.2.2.1),bv (((stT y ts i).1).s0.2.2.2.1),bv (((stT y ts i).1).s0.2.2.2.2),[.bool (((stT y ts i).1).s1.1)],[.int .i64 (((stT y ts i).1).s1.2.1)],bv (((stT y ts i).1).s1.2.2.1),bv (((stT y ts i).1).s1.2.2.2.1),bv (((stT y ts i).1).s1.2.2.2.2),[.bool (((stT y ts i).1).s2.1)],[.int .i64 (((stT y ts i).1).s2.2.1)],bv (((stT y ts i).1).s2.2.2.1),bv (((stT y ts i).1).s2.2.2.2.1),bv (((stT y ts i).1).s2.2.2.2.2),[.bool (((stT y ts i).1).s3.1)],[.int .i64 (((stT y ts i).1).s3.2.1)],bv (((stT y ts i).1).s3.2.2.1),bv (((stT y ts i).1).s3.2.2.2.1),bv (((stT y ts i).1).s3.2.2.2.2)] : List (List Value)).flatten.toArray from (by first | rfl | simp only [List.flatten_cons,List.flatten_nil,List.append_nil,List.append_assoc]))
      refine qt hE rfl hc73 one3 (by intro X h;cases h;intro b hb;first | (simp;done) | exact fun hx => hx (hp72 _ (hp73 _ hb)) | exact fun hx => hx.2 (hp72 _ (hp73 _ hb))) rfl fun a hE=>?_
      refine qa (qh ?_)
      refine o_or rfl ?_ ?_
      ·refine qn hE rfl Tryd.call32 (rem_c ((stT y ts i).1) ((ts.getD i zTn).2.2) _ ((stT_ok hl_y ho_ts i).1)) rfl ?_
       rintro e w11 ⟨rfl,hN⟩
       refine ⟨_,rfl,hN.sta0 _,fun a hE=>?_⟩
       replace hM : Mem _ _ w11 [_,_,_,_,_,_,_] := hM.call0 hN trivial;clear hN
       refine qa (qh (o_re (o_fl rfl (sm hE rfl fun a hE=>sx hE rfl fun a hE=>sx hE rfl fun a hE=>qa (qh (o_fl rfl (qa (qh ?_))))))))
       refine o_or rfl ?_ ?_
       ·refine qo [1,1,1,1,32,32,1,1,32,32,1,1,16,32,32,1,1,16,32,32,1,1,16,32,32,1,1,16,32,32] hE hM zeroL62 rfl rfl fun a b12 w12 hE hM=>qa (qh (o_re (o_fl rfl (qa (qh (o_fl rfl (qa (qh ?_))))))))
        refine o_or rfl ?_ ?_
        ·have hsl492_4 : (((remS ((stT y ts i).1) ((ts.getD i zTn).2.2)).1).v0.2.2.1).length = 32 := (remS_ok ((stT_ok hl_y ho_ts i).1) (i := ((ts.getD i zTn).2.2))).v0.2.1
         have hsl492_5 : (((remS ((stT y ts i).1) ((ts.getD i zTn).2.2)).1).v0.2.2.2).length = 32 := (remS_ok ((stT_ok hl_y ho_ts i).1) (i := ((ts.getD i zTn).2.2))).v0.2.2
         have hsl492_8 : (((remS ((stT y ts i).1) ((ts.getD i zTn).2.2)).1).v1.2.2.1).length = 32 := (remS_ok ((stT_ok hl_y ho_ts i).1) (i := ((ts.getD i zTn).2.2))).v1.2.1
         have hsl492_9 : (((remS ((stT y ts i).1) ((ts.getD i zTn).2.2)).1).v1.2.2.2).length = 32 := (remS_ok ((stT_ok hl_y ho_ts i).1) (i := ((ts.getD i zTn).2.2))).v1.2.2
         have hsl492_12 : (((remS ((stT y ts i).1) ((ts.getD i zTn).2.2)).1).s0.2.2.1).length = 16 := (remS_ok ((stT_ok hl_y ho_ts i).1) (i := ((ts.getD i zTn).2.2))).s0.2.1
         have hsl492_13 : (((remS ((stT y ts i).1) ((ts.getD i zTn).2.2)).1).s0.2.2.2.1).length = 32 := (remS_ok ((stT_ok hl_y ho_ts i).1) (i := ((ts.getD i zTn).2.2))).s0.2.2.1
         have hsl492_14 : (((remS ((stT y ts i).1) ((ts.getD i zTn).2.2)).1).s0.2.2.2.2).length = 32 := (remS_ok ((stT_ok hl_y ho_ts i).1) (i := ((ts.getD i zTn).2.2))).s0.2.2.2
         have hsl492_17 : (((remS ((stT y ts i).1) ((ts.getD i zTn).2.2)).1).s1.2.2.1).length = 16 := (remS_ok ((stT_ok hl_y ho_ts i).1) (i := ((ts.getD i zTn).2.2))).s1.2.1
         have hsl492_18 : (((remS ((stT y ts i).1) ((ts.getD i zTn).2.2)).1).s1.2.2.2.1).length = 32 := (remS_ok ((stT_ok hl_y ho_ts i).1) (i := ((ts.getD i zTn).2.2))).s1.2.2.1
         have hsl492_19 : (((remS ((stT y ts i).1) ((ts.getD i zTn).2.2)).1).s1.2.2.2.2).length = 32 := (remS_ok ((stT_ok hl_y ho_ts i).1) (i := ((ts.getD i zTn).2.2))).s1.2.2.2
         have hsl492_22 : (((remS ((stT y ts i).1) ((ts.getD i zTn).2.2)).1).s2.2.2.1).length = 16 := (remS_ok ((stT_ok hl_y ho_ts i).1) (i := ((ts.getD i zTn).2.2))).s2.2.1
         have hsl492_23 : (((remS ((stT y ts i).1) ((ts.getD i zTn).2.2)).1).s2.2.2.2.1).length = 32 := (remS_ok ((stT_ok hl_y ho_ts i).1) (i := ((ts.getD i zTn).2.2))).s2.2.2.1
         have hsl492_24 : (((remS ((stT y ts i).1) ((ts.getD i zTn).2.2)).1).s2.2.2.2.2).length = 32 := (remS_ok ((stT_ok hl_y ho_ts i).1) (i := ((ts.getD i zTn).2.2))).s2.2.2.2
         have hsl492_27 : (((remS ((stT y ts i).1) ((ts.getD i zTn).2.2)).1).s3.2.2.1).length = 16 := (remS_ok ((stT_ok hl_y ho_ts i).1) (i := ((ts.getD i zTn).2.2))).s3.2.1
         have hsl492_28 : (((remS ((stT y ts i).1) ((ts.getD i zTn).2.2)).1).s3.2.2.2.1).length = 32 := (remS_ok ((stT_ok hl_y ho_ts i).1) (i := ((ts.getD i zTn).2.2))).s3.2.2.1
         have hsl492_29 : (((remS ((stT y ts i).1) ((ts.getD i zTn).2.2)).1).s3.2.2.2.2).length = 32 := (remS_ok ((stT_ok hl_y ho_ts i).1) (i := ((ts.getD i zTn).2.2))).s3.2.2.2
         refine qq 0 30 (vss := [[.int .i64 (((remS ((stT y ts i).1) ((ts.getD i zTn).2.2)).1).m)],[.int .i64 (((remS ((stT y ts i).1) ((ts.getD i zTn).2.2)).1).r)],[.bool (((remS ((stT y ts i).1) ((ts.getD i zTn).2.2)).1).v0.1)],[.int .u64 ((((remS ((stT y ts i).1) ((ts.getD i zTn).2.2)).1).v0.2.1 : Nat) : Int)],bv (((remS ((stT y ts i).1) ((ts.getD i zTn).2.2)).1).v0.2.2.1),bv (((remS ((stT y ts i).1) ((ts.getD i zTn).2.2)).1).v0.2.2.2),[.bool (((remS ((stT y ts i).1) ((ts.getD i zTn).2.2)).1).v1.1)],[.int .u64 ((((remS ((stT y ts i).1) ((ts.getD i zTn).2.2)).1).v1.2.1 : Nat) : Int)],bv (((remS ((stT y ts i).1) ((ts.getD i zTn).2.2)).1).v1.2.2.1),bv (((remS ((stT y ts i).1) ((ts.getD i zTn).2.2)).1).v1.2.2.2),[.bool (((remS ((stT y ts i).1) ((ts.getD i zTn).2.2)).1).s0.1)],[.int .i64 (((remS ((stT y ts i).1) ((ts.getD i zTn).2.2)).1).s0.2.1)],bv (((remS ((stT y ts i).1) ((ts.getD i zTn).2.2)).1).s0.2.2.1),bv (((remS ((stT y ts i).1) ((ts.getD i zTn).2.2)).1).s0.2.2.2.1),bv (((remS ((stT y ts i).1) ((ts.getD i zTn).2.2)).1).s0.2.2.2.2),[.bool (((remS ((stT y ts i).1) ((ts.getD i zTn).2.2)).1).s1.1)],[.int .i64 (((remS ((stT y ts i).1) ((ts.getD i zTn).2.2)).1).s1.2.1)],bv (((remS ((stT y ts i).1) ((ts.getD i zTn).2.2)).1).s1.2.2.1),bv (((remS ((stT y ts i).1) ((ts.getD i zTn).2.2)).1).s1.2.2.2.1),bv (((remS ((stT y ts i).1) ((ts.getD i zTn).2.2)).1).s1.2.2.2.2),[.bool (((remS ((stT y ts i).1) ((ts.getD i zTn).2.2)).1).s2.1)],[.int .i64 (((remS ((stT y ts i).1) ((ts.getD i zTn).2.2)).1).s2.2.1)],bv (((remS ((stT y ts i).1) ((ts.getD i zTn).2.2)).1).s2.2.2.1),bv (((remS ((stT y ts i).1) ((ts.getD i zTn).2.2)).1).s2.2.2.2.1),bv (((remS ((stT y ts i).1) ((ts.getD i zTn).2.2)).1).s2.2.2.2.2),[.bool (((remS ((stT y ts i).1) ((ts.getD i zTn).2.2)).1).s3.1)],[.int .i64 (((remS ((stT y ts i).1) ((ts.getD i zTn).2.2)).1).s3.2.1)],bv (((remS ((stT y ts i).1) ((ts.getD i zTn).2.2)).1).s3.2.2.1),bv (((remS ((stT y ts i).1) ((ts.getD i zTn).2.2)).1).s3.2.2.2.1),bv (((remS ((stT y ts i).1) ((ts.getD i zTn).2.2)).1).s3.2.2.2.2)]) hE rfl rfl hM rfl sz62 (by simp only [List.take_succ_cons,List.take_zero,List.drop_zero,List.drop_succ_cons];simp only [List.map_cons,List.map_nil,vh,List.length_cons,List.length_nil,List.length_replicate,hsl492_4,hsl492_5,hsl492_8,hsl492_9,hsl492_12,hsl492_13,hsl492_14,hsl492_17,hsl492_18,hsl492_19,hsl492_22,hsl492_23,hsl492_24,hsl492_27,hsl492_28,hsl492_29]) (by decide) rfl (one_fl ⟨one1 rfl,one1 rfl,one1 rfl,one1 rfl,vc _,vc _,one1 rfl,one1 rfl,vc _,vc _,one1 rfl,one1 rfl,vc _,vc _,vc _,one1 rfl,one1 rfl,vc _,vc _,vc _,one1 rfl,one1 rfl,vc _,vc _,vc _,one1 rfl,one1 rfl,vc _,vc _,vc _,trivial⟩) rfl (by intro X h;cases h;exact ⟨fun e => ((apart_of_get hM.apart (i := 0) (j := 3) rfl rfl (by decide)).1 _ (.head _)).1 (by rw [e];exact .head _),fun hv => ((apart_of_get hM.apart (i := 0) (j := 5) rfl rfl (by decide)).1 _ (.head _)).2 hv⟩) ?_;intro w13 hM
         try simp only [List.take_zero,List.take_succ_cons,List.drop_zero,List.drop_succ_cons,List.take_nil,List.drop_nil,List.nil_append,List.append_nil,List.cons_append] at hM
         refine qa (qh (o_cut (fun _ => True) (o_re (vb (fun _ => False) (fun _ _ => trivial) (va rfl rfl (sas hE rfl fun a hE=>qa (q_ph (qa ?_))))))))
         replace hM : Mem _ _ w13 [_,_,_,_,_,_,_,_] := hM.pick [0,1,2,3,4,5,6,7] rfl
         refine qd ⟨_,hE.sel [1,2,4,5,6,7,8,12,13,23,29,42,48] rfl,hM⟩
        trivial
       trivial
      refine o_or rfl ?_ ?_
      ·refine qo [1,1,1,1,32,32,1,1,32,32,1,1,16,32,32,1,1,16,32,32,1,1,16,32,32,1,1,16,32,32] hE hM zeroL62 rfl rfl fun a b12 w11 hE hM=>qa (qh (o_cut (fun _ => True) (o_re (o_fl rfl (qa (qh (o_fl rfl (qa (qh ?_)))))))))
       refine o_or rfl ?_ ?_
       ·refine qn hE rfl Tryd.call32 (rem_c ((stT y ts i).1) ((ts.getD i zTn).2.2) _ ((stT_ok hl_y ho_ts i).1)) rfl ?_
        rintro e w12 ⟨rfl,hN⟩
        refine ⟨_,rfl,hN.sta0 _,fun a hE=>?_⟩
        replace hM : Mem _ _ w12 [_,_,_,_,_,_,_,_] := hM.call0 hN trivial;clear hN
        refine qa (qh (o_re (o_fl rfl (sm hE rfl fun a hE=>sx hE rfl fun a hE=>sx hE rfl fun a hE=>qa (qh (o_fl rfl (qa (qh (vb (fun b => b = b12) (fun _ _ => trivial) ?_)))))))))
        refine o_or rfl ?_ ?_
        ·have hsl548_4 : (((remS ((stT y ts i).1) ((ts.getD i zTn).2.2)).1).v0.2.2.1).length = 32 := (remS_ok ((stT_ok hl_y ho_ts i).1) (i := ((ts.getD i zTn).2.2))).v0.2.1
         have hsl548_5 : (((remS ((stT y ts i).1) ((ts.getD i zTn).2.2)).1).v0.2.2.2).length = 32 := (remS_ok ((stT_ok hl_y ho_ts i).1) (i := ((ts.getD i zTn).2.2))).v0.2.2
         have hsl548_8 : (((remS ((stT y ts i).1) ((ts.getD i zTn).2.2)).1).v1.2.2.1).length = 32 := (remS_ok ((stT_ok hl_y ho_ts i).1) (i := ((ts.getD i zTn).2.2))).v1.2.1
         have hsl548_9 : (((remS ((stT y ts i).1) ((ts.getD i zTn).2.2)).1).v1.2.2.2).length = 32 := (remS_ok ((stT_ok hl_y ho_ts i).1) (i := ((ts.getD i zTn).2.2))).v1.2.2
         have hsl548_12 : (((remS ((stT y ts i).1) ((ts.getD i zTn).2.2)).1).s0.2.2.1).length = 16 := (remS_ok ((stT_ok hl_y ho_ts i).1) (i := ((ts.getD i zTn).2.2))).s0.2.1
         have hsl548_13 : (((remS ((stT y ts i).1) ((ts.getD i zTn).2.2)).1).s0.2.2.2.1).length = 32 := (remS_ok ((stT_ok hl_y ho_ts i).1) (i := ((ts.getD i zTn).2.2))).s0.2.2.1
         have hsl548_14 : (((remS ((stT y ts i).1) ((ts.getD i zTn).2.2)).1).s0.2.2.2.2).length = 32 := (remS_ok ((stT_ok hl_y ho_ts i).1) (i := ((ts.getD i zTn).2.2))).s0.2.2.2
         have hsl548_17 : (((remS ((stT y ts i).1) ((ts.getD i zTn).2.2)).1).s1.2.2.1).length = 16 := (remS_ok ((stT_ok hl_y ho_ts i).1) (i := ((ts.getD i zTn).2.2))).s1.2.1
         have hsl548_18 : (((remS ((stT y ts i).1) ((ts.getD i zTn).2.2)).1).s1.2.2.2.1).length = 32 := (remS_ok ((stT_ok hl_y ho_ts i).1) (i := ((ts.getD i zTn).2.2))).s1.2.2.1
         have hsl548_19 : (((remS ((stT y ts i).1) ((ts.getD i zTn).2.2)).1).s1.2.2.2.2).length = 32 := (remS_ok ((stT_ok hl_y ho_ts i).1) (i := ((ts.getD i zTn).2.2))).s1.2.2.2
         have hsl548_22 : (((remS ((stT y ts i).1) ((ts.getD i zTn).2.2)).1).s2.2.2.1).length = 16 := (remS_ok ((stT_ok hl_y ho_ts i).1) (i := ((ts.getD i zTn).2.2))).s2.2.1
         have hsl548_23 : (((remS ((stT y ts i).1) ((ts.getD i zTn).2.2)).1).s2.2.2.2.1).length = 32 := (remS_ok ((stT_ok hl_y ho_ts i).1) (i := ((ts.getD i zTn).2.2))).s2.2.2.1
         have hsl548_24 : (((remS ((stT y ts i).1) ((ts.getD i zTn).2.2)).1).s2.2.2.2.2).length = 32 := (remS_ok ((stT_ok hl_y ho_ts i).1) (i := ((ts.getD i zTn).2.2))).s2.2.2.2
         have hsl548_27 : (((remS ((stT y ts i).1) ((ts.getD i zTn).2.2)).1).s3.2.2.1).length = 16 := (remS_ok ((stT_ok hl_y ho_ts i).1) (i := ((ts.getD i zTn).2.2))).s3.2.1
         have hsl548_28 : (((remS ((stT y ts i).1) ((ts.getD i zTn).2.2)).1).s3.2.2.2.1).length = 32 := (remS_ok ((stT_ok hl_y ho_ts i).1) (i := ((ts.getD i zTn).2.2))).s3.2.2.1
         have hsl548_29 : (((remS ((stT y ts i).1) ((ts.getD i zTn).2.2)).1).s3.2.2.2.2).length = 32 := (remS_ok ((stT_ok hl_y ho_ts i).1) (i := ((ts.getD i zTn).2.2))).s3.2.2.2
         refine qq 0 30 (vss := [[.int .i64 (((remS ((stT y ts i).1) ((ts.getD i zTn).2.2)).1).m)],[.int .i64 (((remS ((stT y ts i).1) ((ts.getD i zTn).2.2)).1).r)],[.bool (((remS ((stT y ts i).1) ((ts.getD i zTn).2.2)).1).v0.1)],[.int .u64 ((((remS ((stT y ts i).1) ((ts.getD i zTn).2.2)).1).v0.2.1 : Nat) : Int)],bv (((remS ((stT y ts i).1) ((ts.getD i zTn).2.2)).1).v0.2.2.1),bv (((remS ((stT y ts i).1) ((ts.getD i zTn).2.2)).1).v0.2.2.2),[.bool (((remS ((stT y ts i).1) ((ts.getD i zTn).2.2)).1).v1.1)],[.int .u64 ((((remS ((stT y ts i).1) ((ts.getD i zTn).2.2)).1).v1.2.1 : Nat) : Int)],bv (((remS ((stT y ts i).1) ((ts.getD i zTn).2.2)).1).v1.2.2.1),bv (((remS ((stT y ts i).1) ((ts.getD i zTn).2.2)).1).v1.2.2.2),[.bool (((remS ((stT y ts i).1) ((ts.getD i zTn).2.2)).1).s0.1)],[.int .i64 (((remS ((stT y ts i).1) ((ts.getD i zTn).2.2)).1).s0.2.1)],bv (((remS ((stT y ts i).1) ((ts.getD i zTn).2.2)).1).s0.2.2.1),bv (((remS ((stT y ts i).1) ((ts.getD i zTn).2.2)).1).s0.2.2.2.1),bv (((remS ((stT y ts i).1) ((ts.getD i zTn).2.2)).1).s0.2.2.2.2),[.bool (((remS ((stT y ts i).1) ((ts.getD i zTn).2.2)).1).s1.1)],[.int .i64 (((remS ((stT y ts i).1) ((ts.getD i zTn).2.2)).1).s1.2.1)],bv (((remS ((stT y ts i).1) ((ts.getD i zTn).2.2)).1).s1.2.2.1),bv (((remS ((stT y ts i).1) ((ts.getD i zTn).2.2)).1).s1.2.2.2.1),bv (((remS ((stT y ts i).1) ((ts.getD i zTn).2.2)).1).s1.2.2.2.2),[.bool (((remS ((stT y ts i).1) ((ts.getD i zTn).2.2)).1).s2.1)],[.int .i64 (((remS ((stT y ts i).1) ((ts.getD i zTn).2.2)).1).s2.2.1)],bv (((remS ((stT y ts i).1) ((ts.getD i zTn).2.2)).1).s2.2.2.1),bv (((remS ((stT y ts i).1) ((ts.getD i zTn).2.2)).1).s2.2.2.2.1),bv (((remS ((stT y ts i).1) ((ts.getD i zTn).2.2)).1).s2.2.2.2.2),[.bool (((remS ((stT y ts i).1) ((ts.getD i zTn).2.2)).1).s3.1)],[.int .i64 (((remS ((stT y ts i).1) ((ts.getD i zTn).2.2)).1).s3.2.1)],bv (((remS ((stT y ts i).1) ((ts.getD i zTn).2.2)).1).s3.2.2.1),bv (((remS ((stT y ts i).1) ((ts.getD i zTn).2.2)).1).s3.2.2.2.1),bv (((remS ((stT y ts i).1) ((ts.getD i zTn).2.2)).1).s3.2.2.2.2)]) hE rfl rfl hM rfl sz62 (by simp only [List.take_succ_cons,List.take_zero,List.drop_zero,List.drop_succ_cons];simp only [List.map_cons,List.map_nil,vh,List.length_cons,List.length_nil,List.length_replicate,hsl548_4,hsl548_5,hsl548_8,hsl548_9,hsl548_12,hsl548_13,hsl548_14,hsl548_17,hsl548_18,hsl548_19,hsl548_22,hsl548_23,hsl548_24,hsl548_27,hsl548_28,hsl548_29]) (by decide) rfl (one_fl ⟨one1 rfl,one1 rfl,one1 rfl,one1 rfl,vc _,vc _,one1 rfl,one1 rfl,vc _,vc _,one1 rfl,one1 rfl,vc _,vc _,vc _,one1 rfl,one1 rfl,vc _,vc _,vc _,one1 rfl,one1 rfl,vc _,vc _,vc _,one1 rfl,one1 rfl,vc _,vc _,vc _,trivial⟩) rfl (by intro X h;cases h;rfl) fun w13 hM=>?_
         try simp only [List.take_zero,List.take_succ_cons,List.drop_zero,List.drop_succ_cons,List.take_nil,List.drop_nil,List.nil_append,List.append_nil,List.cons_append] at hM
         refine qa (qh (o_cut (fun _ => True) (o_re (vb (fun _ => False) (fun _ _ => trivial) (va rfl rfl (sas hE rfl fun a hE=>qa (q_ph (qa ?_))))))))
         replace hM : Mem _ _ w13 [_,_,_,_,_,_,_,_] := hM.pick [0,1,2,3,4,5,6,7] rfl
         refine qd ⟨_,hE.sel [1,2,4,5,6,7,8,12,13,23,29,42,48] rfl,hM⟩
        trivial
       trivial
      trivial
     rintro a w14 ⟨b12,hE,hM⟩
     refine ww1 fun _ K16=>wpp (sm hE rfl fun a hE=>sb hE rfl rfl bin_eql fun a hE=>qa (K16 ?_))
     refine hE.split 79 rfl (fun hb79 hE=>?_) (fun hb79 hE=>?_)
     ·replace hb79 := of_decide_eq_true hb79
      replace hb79 : ((remS ((stT y ts i).1) ((ts.getD i zTn).2.2)).2) = 0 := by omega
      have hst : stT y ts (i + 1) = ((remS (stT y ts i).1 (ts.getD i zTn).2.2).1,(stT y ts i).2) := stepT_rem hb48 (by omega)
      refine wct hE rfl (wpp (ql hE rfl (hM.get 0 rfl) row62 rfl (by intro X h;cases h) rfl fun a hE=>?_))
      replace hE := hE.cast 80 rfl (show _ = Value.agg ([[.int .i64 (((remS ((stT y ts i).1) ((ts.getD i zTn).2.2)).1).m)],[.int .i64 (((remS ((stT y ts i).1) ((ts.getD i zTn).2.2)).1).r)],[.bool (((remS ((stT y ts i).1) ((ts.getD i zTn).2.2)).1).v0.1)],[.int .u64 ((((remS ((stT y ts i).1) ((ts.getD i zTn).2.2)).1).v0.2.1 : Nat) : Int)],bv (((remS ((stT y ts i).1) ((ts.getD i zTn).2.2)).1).v0.2.2.1),bv (((remS ((stT y ts i).1) ((ts.getD i zTn).2.2)).1).v0.2.2.2),[.bool (((remS ((stT y ts i).1) ((ts.getD i zTn).2.2)).1).v1.1)],[.int .u64 ((((remS ((stT y ts i).1) ((ts.getD i zTn).2.2)).1).v1.2.1 : Nat) : Int)],bv (((remS ((stT y ts i).1) ((ts.getD i zTn).2.2)).1).v1.2.2.1),bv (((remS ((stT y ts i).1) ((ts.getD i zTn).2.2)).1).v1.2.2.2),[.bool (((remS ((stT y ts i).1) ((ts.getD i zTn).2.2)).1).s0.1)],[.int .i64 (((remS ((stT y ts i).1) ((ts.getD i zTn).2.2)).1).s0.2.1)],bv (((remS ((stT y ts i).1) ((ts.getD i zTn).2.2)).1).s0.2.2.1),bv (((remS ((stT y ts i).1) ((ts.getD i zTn).2.2)).1).s0.2.2.2.1),bv (((remS ((stT y ts i).1) ((ts.getD i zTn).2.2)).1).s0.2.2.2.2),[.bool (((remS ((stT y ts i).1) ((ts.getD i zTn).2.2)).1).s1.1)],[.int .i64 (((remS ((stT y ts i).1) ((ts.getD i zTn).2.2)).1).s1.2.1)],bv (((remS ((stT y ts i).1) ((ts.getD i zTn).2.2)).1).s1.2.2.1),bv (((remS ((stT y ts i).1) ((ts.getD i zTn).2.2)).1).s1.2.2.2.1),bv (((remS ((stT y ts i).1) ((ts.getD i zTn).2.2)).1).s1.2.2.2.2),[.bool (((remS ((stT y ts i).1) ((ts.getD i zTn).2.2)).1).s2.1)],[.int .i64 (((remS ((stT y ts i).1) ((ts.getD i zTn).2.2)).1).s2.2.1)],bv (((remS ((stT y ts i).1) ((ts.getD i zTn).2.2)).1).s2.2.2.1),bv (((remS ((stT y ts i).1) ((ts.getD i zTn).2.2)).1).s2.2.2.2.1),bv (((remS ((stT y ts i).1) ((ts.getD i zTn).2.2)).1).s2.2.2.2.2),[.bool (((remS ((stT y ts i).1) ((ts.getD i zTn).2.2)).1).s3.1)],[.int .i64 (((remS ((stT y ts i).1) ((ts.getD i zTn).2.2)).1).s3.2.1)],bv (((remS ((stT y ts i).1) ((ts.getD i zTn).2.2)).1).s3.2.2.1),bv (((remS ((stT y ts i).1) ((ts.getD i zTn).2.2)).1).s3.2.2.2.1),bv (((remS ((stT y ts i).1) ((ts.getD i zTn).2.2)).1).s3.2.2.2.2)] : List (List Value)).flatten.toArray from (by first | rfl | simp only [List.flatten_cons,List.flatten_nil,List.append_nil,List.append_assoc]))
      have hsl596_4 : (((remS ((stT y ts i).1) ((ts.getD i zTn).2.2)).1).v0.2.2.1).length = 32 := (remS_ok ((stT_ok hl_y ho_ts i).1) (i := ((ts.getD i zTn).2.2))).v0.2.1
      have hsl596_5 : (((remS ((stT y ts i).1) ((ts.getD i zTn).2.2)).1).v0.2.2.2).length = 32 := (remS_ok ((stT_ok hl_y ho_ts i).1) (i := ((ts.getD i zTn).2.2))).v0.2.2
      have hsl596_8 : (((remS ((stT y ts i).1) ((ts.getD i zTn).2.2)).1).v1.2.2.1).length = 32 := (remS_ok ((stT_ok hl_y ho_ts i).1) (i := ((ts.getD i zTn).2.2))).v1.2.1
      have hsl596_9 : (((remS ((stT y ts i).1) ((ts.getD i zTn).2.2)).1).v1.2.2.2).length = 32 := (remS_ok ((stT_ok hl_y ho_ts i).1) (i := ((ts.getD i zTn).2.2))).v1.2.2
      have hsl596_12 : (((remS ((stT y ts i).1) ((ts.getD i zTn).2.2)).1).s0.2.2.1).length = 16 := (remS_ok ((stT_ok hl_y ho_ts i).1) (i := ((ts.getD i zTn).2.2))).s0.2.1
      have hsl596_13 : (((remS ((stT y ts i).1) ((ts.getD i zTn).2.2)).1).s0.2.2.2.1).length = 32 := (remS_ok ((stT_ok hl_y ho_ts i).1) (i := ((ts.getD i zTn).2.2))).s0.2.2.1
      have hsl596_14 : (((remS ((stT y ts i).1) ((ts.getD i zTn).2.2)).1).s0.2.2.2.2).length = 32 := (remS_ok ((stT_ok hl_y ho_ts i).1) (i := ((ts.getD i zTn).2.2))).s0.2.2.2
      have hsl596_17 : (((remS ((stT y ts i).1) ((ts.getD i zTn).2.2)).1).s1.2.2.1).length = 16 := (remS_ok ((stT_ok hl_y ho_ts i).1) (i := ((ts.getD i zTn).2.2))).s1.2.1
      have hsl596_18 : (((remS ((stT y ts i).1) ((ts.getD i zTn).2.2)).1).s1.2.2.2.1).length = 32 := (remS_ok ((stT_ok hl_y ho_ts i).1) (i := ((ts.getD i zTn).2.2))).s1.2.2.1
      have hsl596_19 : (((remS ((stT y ts i).1) ((ts.getD i zTn).2.2)).1).s1.2.2.2.2).length = 32 := (remS_ok ((stT_ok hl_y ho_ts i).1) (i := ((ts.getD i zTn).2.2))).s1.2.2.2
      have hsl596_22 : (((remS ((stT y ts i).1) ((ts.getD i zTn).2.2)).1).s2.2.2.1).length = 16 := (remS_ok ((stT_ok hl_y ho_ts i).1) (i := ((ts.getD i zTn).2.2))).s2.2.1
      have hsl596_23 : (((remS ((stT y ts i).1) ((ts.getD i zTn).2.2)).1).s2.2.2.2.1).length = 32 := (remS_ok ((stT_ok hl_y ho_ts i).1) (i := ((ts.getD i zTn).2.2))).s2.2.2.1
      have hsl596_24 : (((remS ((stT y ts i).1) ((ts.getD i zTn).2.2)).1).s2.2.2.2.2).length = 32 := (remS_ok ((stT_ok hl_y ho_ts i).1) (i := ((ts.getD i zTn).2.2))).s2.2.2.2
      have hsl596_27 : (((remS ((stT y ts i).1) ((ts.getD i zTn).2.2)).1).s3.2.2.1).length = 16 := (remS_ok ((stT_ok hl_y ho_ts i).1) (i := ((ts.getD i zTn).2.2))).s3.2.1
      have hsl596_28 : (((remS ((stT y ts i).1) ((ts.getD i zTn).2.2)).1).s3.2.2.2.1).length = 32 := (remS_ok ((stT_ok hl_y ho_ts i).1) (i := ((ts.getD i zTn).2.2))).s3.2.2.1
      have hsl596_29 : (((remS ((stT y ts i).1) ((ts.getD i zTn).2.2)).1).s3.2.2.2.2).length = 32 := (remS_ok ((stT_ok hl_y ho_ts i).1) (i := ((ts.getD i zTn).2.2))).s3.2.2.2
      replace hM : Mem _ _ w14 [_,_,_,_,_,_,_,_] := hM.pick [3,0,1,2,4,5,6,7] rfl
      refine qq 0 30 (vss := [[.int .i64 (((remS ((stT y ts i).1) ((ts.getD i zTn).2.2)).1).m)],[.int .i64 (((remS ((stT y ts i).1) ((ts.getD i zTn).2.2)).1).r)],[.bool (((remS ((stT y ts i).1) ((ts.getD i zTn).2.2)).1).v0.1)],[.int .u64 ((((remS ((stT y ts i).1) ((ts.getD i zTn).2.2)).1).v0.2.1 : Nat) : Int)],bv (((remS ((stT y ts i).1) ((ts.getD i zTn).2.2)).1).v0.2.2.1),bv (((remS ((stT y ts i).1) ((ts.getD i zTn).2.2)).1).v0.2.2.2),[.bool (((remS ((stT y ts i).1) ((ts.getD i zTn).2.2)).1).v1.1)],[.int .u64 ((((remS ((stT y ts i).1) ((ts.getD i zTn).2.2)).1).v1.2.1 : Nat) : Int)],bv (((remS ((stT y ts i).1) ((ts.getD i zTn).2.2)).1).v1.2.2.1),bv (((remS ((stT y ts i).1) ((ts.getD i zTn).2.2)).1).v1.2.2.2),[.bool (((remS ((stT y ts i).1) ((ts.getD i zTn).2.2)).1).s0.1)],[.int .i64 (((remS ((stT y ts i).1) ((ts.getD i zTn).2.2)).1).s0.2.1)],bv (((remS ((stT y ts i).1) ((ts.getD i zTn).2.2)).1).s0.2.2.1),bv (((remS ((stT y ts i).1) ((ts.getD i zTn).2.2)).1).s0.2.2.2.1),bv (((remS ((stT y ts i).1) ((ts.getD i zTn).2.2)).1).s0.2.2.2.2),[.bool (((remS ((stT y ts i).1) ((ts.getD i zTn).2.2)).1).s1.1)],[.int .i64 (((remS ((stT y ts i).1) ((ts.getD i zTn).2.2)).1).s1.2.1)],bv (((remS ((stT y ts i).1) ((ts.getD i zTn).2.2)).1).s1.2.2.1),bv (((remS ((stT y ts i).1) ((ts.getD i zTn).2.2)).1).s1.2.2.2.1),bv (((remS ((stT y ts i).1) ((ts.getD i zTn).2.2)).1).s1.2.2.2.2),[.bool (((remS ((stT y ts i).1) ((ts.getD i zTn).2.2)).1).s2.1)],[.int .i64 (((remS ((stT y ts i).1) ((ts.getD i zTn).2.2)).1).s2.2.1)],bv (((remS ((stT y ts i).1) ((ts.getD i zTn).2.2)).1).s2.2.2.1),bv (((remS ((stT y ts i).1) ((ts.getD i zTn).2.2)).1).s2.2.2.2.1),bv (((remS ((stT y ts i).1) ((ts.getD i zTn).2.2)).1).s2.2.2.2.2),[.bool (((remS ((stT y ts i).1) ((ts.getD i zTn).2.2)).1).s3.1)],[.int .i64 (((remS ((stT y ts i).1) ((ts.getD i zTn).2.2)).1).s3.2.1)],bv (((remS ((stT y ts i).1) ((ts.getD i zTn).2.2)).1).s3.2.2.1),bv (((remS ((stT y ts i).1) ((ts.getD i zTn).2.2)).1).s3.2.2.2.1),bv (((remS ((stT y ts i).1) ((ts.getD i zTn).2.2)).1).s3.2.2.2.2)]) hE rfl rfl hM rfl sz62 (by simp only [List.take_succ_cons,List.take_zero,List.drop_zero,List.drop_succ_cons];simp only [List.map_cons,List.map_nil,vh,List.length_cons,List.length_nil,List.length_replicate,hsl596_4,hsl596_5,hsl596_8,hsl596_9,hsl596_12,hsl596_13,hsl596_14,hsl596_17,hsl596_18,hsl596_19,hsl596_22,hsl596_23,hsl596_24,hsl596_27,hsl596_28,hsl596_29]) (by decide) rfl (one_fl ⟨one1 rfl,one1 rfl,one1 rfl,one1 rfl,vc _,vc _,one1 rfl,one1 rfl,vc _,vc _,one1 rfl,one1 rfl,vc _,vc _,vc _,one1 rfl,one1 rfl,vc _,vc _,vc _,one1 rfl,one1 rfl,vc _,vc _,vc _,one1 rfl,one1 rfl,vc _,vc _,vc _,trivial⟩) rfl (by intro X h;cases h) fun w15 hM=>?_
      try simp only [List.take_zero,List.take_succ_cons,List.drop_zero,List.drop_succ_cons,List.take_nil,List.drop_nil,List.nil_append,List.append_nil,List.cons_append] at hM
      refine qa (qe (K10 (wpp (sm hE rfl fun a hE=>sb hE rfl rfl (show Bin _ _ _ _ _ (.int .i64 ((i + 1 : Nat) : Int)) from bin_add (by rw [wrap_i64 (by omega) (by omega)];omega)) fun a hE=>?_))))
      refine sas hE rfl fun a hE=>qa ?_
      replace hE := hE.cast 7 rfl (show _ = Value.int .i64 (((i + 1) : Nat) : Int) from (congrArg _ (by omega)))
      replace hM := Mem.blkEq (ss := [[.int .i64 (((remS ((stT y ts i).1) ((ts.getD i zTn).2.2)).1).m)],[.int .i64 (((remS ((stT y ts i).1) ((ts.getD i zTn).2.2)).1).r)],[.bool (((remS ((stT y ts i).1) ((ts.getD i zTn).2.2)).1).v0.1)],[.int .u64 ((((remS ((stT y ts i).1) ((ts.getD i zTn).2.2)).1).v0.2.1 : Nat) : Int)],bv (((remS ((stT y ts i).1) ((ts.getD i zTn).2.2)).1).v0.2.2.1),bv (((remS ((stT y ts i).1) ((ts.getD i zTn).2.2)).1).v0.2.2.2),[.bool (((remS ((stT y ts i).1) ((ts.getD i zTn).2.2)).1).v1.1)],[.int .u64 ((((remS ((stT y ts i).1) ((ts.getD i zTn).2.2)).1).v1.2.1 : Nat) : Int)],bv (((remS ((stT y ts i).1) ((ts.getD i zTn).2.2)).1).v1.2.2.1),bv (((remS ((stT y ts i).1) ((ts.getD i zTn).2.2)).1).v1.2.2.2),[.bool (((remS ((stT y ts i).1) ((ts.getD i zTn).2.2)).1).s0.1)],[.int .i64 (((remS ((stT y ts i).1) ((ts.getD i zTn).2.2)).1).s0.2.1)],bv (((remS ((stT y ts i).1) ((ts.getD i zTn).2.2)).1).s0.2.2.1),bv (((remS ((stT y ts i).1) ((ts.getD i zTn).2.2)).1).s0.2.2.2.1),bv (((remS ((stT y ts i).1) ((ts.getD i zTn).2.2)).1).s0.2.2.2.2),[.bool (((remS ((stT y ts i).1) ((ts.getD i zTn).2.2)).1).s1.1)],[.int .i64 (((remS ((stT y ts i).1) ((ts.getD i zTn).2.2)).1).s1.2.1)],bv (((remS ((stT y ts i).1) ((ts.getD i zTn).2.2)).1).s1.2.2.1),bv (((remS ((stT y ts i).1) ((ts.getD i zTn).2.2)).1).s1.2.2.2.1),bv (((remS ((stT y ts i).1) ((ts.getD i zTn).2.2)).1).s1.2.2.2.2),[.bool (((remS ((stT y ts i).1) ((ts.getD i zTn).2.2)).1).s2.1)],[.int .i64 (((remS ((stT y ts i).1) ((ts.getD i zTn).2.2)).1).s2.2.1)],bv (((remS ((stT y ts i).1) ((ts.getD i zTn).2.2)).1).s2.2.2.1),bv (((remS ((stT y ts i).1) ((ts.getD i zTn).2.2)).1).s2.2.2.2.1),bv (((remS ((stT y ts i).1) ((ts.getD i zTn).2.2)).1).s2.2.2.2.2),[.bool (((remS ((stT y ts i).1) ((ts.getD i zTn).2.2)).1).s3.1)],[.int .i64 (((remS ((stT y ts i).1) ((ts.getD i zTn).2.2)).1).s3.2.1)],bv (((remS ((stT y ts i).1) ((ts.getD i zTn).2.2)).1).s3.2.2.1),bv (((remS ((stT y ts i).1) ((ts.getD i zTn).2.2)).1).s3.2.2.2.1),bv (((remS ((stT y ts i).1) ((ts.getD i zTn).2.2)).1).s3.2.2.2.2)]) (ss' := [[.int .i64 (((stT y ts (i + 1)).1).m)],[.int .i64 (((stT y ts (i + 1)).1).r)],[.bool (((stT y ts (i + 1)).1).v0.1)],[.int .u64 ((((stT y ts (i + 1)).1).v0.2.1 : Nat) : Int)],bv (((stT y ts (i + 1)).1).v0.2.2.1),bv (((stT y ts (i + 1)).1).v0.2.2.2),[.bool (((stT y ts (i + 1)).1).v1.1)],[.int .u64 ((((stT y ts (i + 1)).1).v1.2.1 : Nat) : Int)],bv (((stT y ts (i + 1)).1).v1.2.2.1),bv (((stT y ts (i + 1)).1).v1.2.2.2),[.bool (((stT y ts (i + 1)).1).s0.1)],[.int .i64 (((stT y ts (i + 1)).1).s0.2.1)],bv (((stT y ts (i + 1)).1).s0.2.2.1),bv (((stT y ts (i + 1)).1).s0.2.2.2.1),bv (((stT y ts (i + 1)).1).s0.2.2.2.2),[.bool (((stT y ts (i + 1)).1).s1.1)],[.int .i64 (((stT y ts (i + 1)).1).s1.2.1)],bv (((stT y ts (i + 1)).1).s1.2.2.1),bv (((stT y ts (i + 1)).1).s1.2.2.2.1),bv (((stT y ts (i + 1)).1).s1.2.2.2.2),[.bool (((stT y ts (i + 1)).1).s2.1)],[.int .i64 (((stT y ts (i + 1)).1).s2.2.1)],bv (((stT y ts (i + 1)).1).s2.2.2.1),bv (((stT y ts (i + 1)).1).s2.2.2.2.1),bv (((stT y ts (i + 1)).1).s2.2.2.2.2),[.bool (((stT y ts (i + 1)).1).s3.1)],[.int .i64 (((stT y ts (i + 1)).1).s3.2.1)],bv (((stT y ts (i + 1)).1).s3.2.2.1),bv (((stT y ts (i + 1)).1).s3.2.2.2.1),bv (((stT y ts (i + 1)).1).s3.2.2.2.2)]) hM (by first | (simp only [hst];done) | (simp only [hst];rfl))
      replace hM : Mem _ _ w15 [_,_,_,_,_,_,_,_] := hM.pick [3,0,1,2,4,5,6,7] rfl
      replace hM := Mem.blkEq (ss := [bv (((stT y ts i).2).n0.1),[.string (str ((stT y ts i).2).n0.2.1)],bv (((stT y ts i).2).n0.2.2.1),[.int .i64 (((stT y ts i).2).n0.2.2.2)],bv (((stT y ts i).2).n1.1),[.string (str ((stT y ts i).2).n1.2.1)],bv (((stT y ts i).2).n1.2.2.1),[.int .i64 (((stT y ts i).2).n1.2.2.2)],bv (((stT y ts i).2).n2.1),[.string (str ((stT y ts i).2).n2.2.1)],bv (((stT y ts i).2).n2.2.2.1),[.int .i64 (((stT y ts i).2).n2.2.2.2)],bv (((stT y ts i).2).n3.1),[.string (str ((stT y ts i).2).n3.2.1)],bv (((stT y ts i).2).n3.2.2.1),[.int .i64 (((stT y ts i).2).n3.2.2.2)]]) (ss' := [bv (((stT y ts (i + 1)).2).n0.1),[.string (str ((stT y ts (i + 1)).2).n0.2.1)],bv (((stT y ts (i + 1)).2).n0.2.2.1),[.int .i64 (((stT y ts (i + 1)).2).n0.2.2.2)],bv (((stT y ts (i + 1)).2).n1.1),[.string (str ((stT y ts (i + 1)).2).n1.2.1)],bv (((stT y ts (i + 1)).2).n1.2.2.1),[.int .i64 (((stT y ts (i + 1)).2).n1.2.2.2)],bv (((stT y ts (i + 1)).2).n2.1),[.string (str ((stT y ts (i + 1)).2).n2.2.1)],bv (((stT y ts (i + 1)).2).n2.2.2.1),[.int .i64 (((stT y ts (i + 1)).2).n2.2.2.2)],bv (((stT y ts (i + 1)).2).n3.1),[.string (str ((stT y ts (i + 1)).2).n3.2.1)],bv (((stT y ts (i + 1)).2).n3.2.2.1),[.int .i64 (((stT y ts (i + 1)).2).n3.2.2.2)]]) hM (by first | (simp only [hst];done) | (simp only [hst];rfl))
      replace hM : Mem _ _ w15 [_,_,_,_,_,_] := hM.pick [0,1,4,5,6,7] rfl
      exact ⟨i + 1,⟨by omega,hE.sel [1,2,4,5,6,7,23] rfl,hM⟩,by omega⟩
     ·replace hb79 := of_decide_eq_false hb79
      replace hb79 : ¬ (((remS ((stT y ts i).1) ((ts.getD i zTn).2.2)).2) = 0) := by omega
      have hst : stT y ts (i + 1) = stT y ts i := stepT_nor hb48 (by omega)
      refine wcf hE rfl (wp_skip (qe (K10 (wpp (sm hE rfl fun a hE=>sb hE rfl rfl (show Bin _ _ _ _ _ (.int .i64 ((i + 1 : Nat) : Int)) from bin_add (by rw [wrap_i64 (by omega) (by omega)];omega)) fun a hE=>?_)))))
      refine sas hE rfl fun a hE=>qa ?_
      replace hE := hE.cast 7 rfl (show _ = Value.int .i64 (((i + 1) : Nat) : Int) from (congrArg _ (by omega)))
      replace hM : Mem _ _ w14 [_,_,_,_,_,_,_,_] := hM.pick [3,0,1,2,4,5,6,7] rfl
      replace hM := Mem.blkEq (ss := [[.int .i64 (((stT y ts i).1).m)],[.int .i64 (((stT y ts i).1).r)],[.bool (((stT y ts i).1).v0.1)],[.int .u64 ((((stT y ts i).1).v0.2.1 : Nat) : Int)],bv (((stT y ts i).1).v0.2.2.1),bv (((stT y ts i).1).v0.2.2.2),[.bool (((stT y ts i).1).v1.1)],[.int .u64 ((((stT y ts i).1).v1.2.1 : Nat) : Int)],bv (((stT y ts i).1).v1.2.2.1),bv (((stT y ts i).1).v1.2.2.2),[.bool (((stT y ts i).1).s0.1)],[.int .i64 (((stT y ts i).1).s0.2.1)],bv (((stT y ts i).1).s0.2.2.1),bv (((stT y ts i).1).s0.2.2.2.1),bv (((stT y ts i).1).s0.2.2.2.2),[.bool (((stT y ts i).1).s1.1)],[.int .i64 (((stT y ts i).1).s1.2.1)],bv (((stT y ts i).1).s1.2.2.1),bv (((stT y ts i).1).s1.2.2.2.1),bv (((stT y ts i).1).s1.2.2.2.2),[.bool (((stT y ts i).1).s2.1)],[.int .i64 (((stT y ts i).1).s2.2.1)],bv (((stT y ts i).1).s2.2.2.1),bv (((stT y ts i).1).s2.2.2.2.1),bv (((stT y ts i).1).s2.2.2.2.2),[.bool (((stT y ts i).1).s3.1)],[.int .i64 (((stT y ts i).1).s3.2.1)],bv (((stT y ts i).1).s3.2.2.1),bv (((stT y ts i).1).s3.2.2.2.1),bv (((stT y ts i).1).s3.2.2.2.2)]) (ss' := [[.int .i64 (((stT y ts (i + 1)).1).m)],[.int .i64 (((stT y ts (i + 1)).1).r)],[.bool (((stT y ts (i + 1)).1).v0.1)],[.int .u64 ((((stT y ts (i + 1)).1).v0.2.1 : Nat) : Int)],bv (((stT y ts (i + 1)).1).v0.2.2.1),bv (((stT y ts (i + 1)).1).v0.2.2.2),[.bool (((stT y ts (i + 1)).1).v1.1)],[.int .u64 ((((stT y ts (i + 1)).1).v1.2.1 : Nat) : Int)],bv (((stT y ts (i + 1)).1).v1.2.2.1),bv (((stT y ts (i + 1)).1).v1.2.2.2),[.bool (((stT y ts (i + 1)).1).s0.1)],[.int .i64 (((stT y ts (i + 1)).1).s0.2.1)],bv (((stT y ts (i + 1)).1).s0.2.2.1),bv (((stT y ts (i + 1)).1).s0.2.2.2.1),bv (((stT y ts (i + 1)).1).s0.2.2.2.2),[.bool (((stT y ts (i + 1)).1).s1.1)],[.int .i64 (((stT y ts (i + 1)).1).s1.2.1)],bv (((stT y ts (i + 1)).1).s1.2.2.1),bv (((stT y ts (i + 1)).1).s1.2.2.2.1),bv (((stT y ts (i + 1)).1).s1.2.2.2.2),[.bool (((stT y ts (i + 1)).1).s2.1)],[.int .i64 (((stT y ts (i + 1)).1).s2.2.1)],bv (((stT y ts (i + 1)).1).s2.2.2.1),bv (((stT y ts (i + 1)).1).s2.2.2.2.1),bv (((stT y ts (i + 1)).1).s2.2.2.2.2),[.bool (((stT y ts (i + 1)).1).s3.1)],[.int .i64 (((stT y ts (i + 1)).1).s3.2.1)],bv (((stT y ts (i + 1)).1).s3.2.2.1),bv (((stT y ts (i + 1)).1).s3.2.2.2.1),bv (((stT y ts (i + 1)).1).s3.2.2.2.2)]) hM (by first | (simp only [hst];done) | (simp only [hst];rfl))
      replace hM : Mem _ _ w14 [_,_,_,_,_,_,_,_] := hM.pick [3,0,1,2,4,5,6,7] rfl
      replace hM := Mem.blkEq (ss := [bv (((stT y ts i).2).n0.1),[.string (str ((stT y ts i).2).n0.2.1)],bv (((stT y ts i).2).n0.2.2.1),[.int .i64 (((stT y ts i).2).n0.2.2.2)],bv (((stT y ts i).2).n1.1),[.string (str ((stT y ts i).2).n1.2.1)],bv (((stT y ts i).2).n1.2.2.1),[.int .i64 (((stT y ts i).2).n1.2.2.2)],bv (((stT y ts i).2).n2.1),[.string (str ((stT y ts i).2).n2.2.1)],bv (((stT y ts i).2).n2.2.2.1),[.int .i64 (((stT y ts i).2).n2.2.2.2)],bv (((stT y ts i).2).n3.1),[.string (str ((stT y ts i).2).n3.2.1)],bv (((stT y ts i).2).n3.2.2.1),[.int .i64 (((stT y ts i).2).n3.2.2.2)]]) (ss' := [bv (((stT y ts (i + 1)).2).n0.1),[.string (str ((stT y ts (i + 1)).2).n0.2.1)],bv (((stT y ts (i + 1)).2).n0.2.2.1),[.int .i64 (((stT y ts (i + 1)).2).n0.2.2.2)],bv (((stT y ts (i + 1)).2).n1.1),[.string (str ((stT y ts (i + 1)).2).n1.2.1)],bv (((stT y ts (i + 1)).2).n1.2.2.1),[.int .i64 (((stT y ts (i + 1)).2).n1.2.2.2)],bv (((stT y ts (i + 1)).2).n2.1),[.string (str ((stT y ts (i + 1)).2).n2.2.1)],bv (((stT y ts (i + 1)).2).n2.2.2.1),[.int .i64 (((stT y ts (i + 1)).2).n2.2.2.2)],bv (((stT y ts (i + 1)).2).n3.1),[.string (str ((stT y ts (i + 1)).2).n3.2.1)],bv (((stT y ts (i + 1)).2).n3.2.2.1),[.int .i64 (((stT y ts (i + 1)).2).n3.2.2.2)]]) hM (by first | (simp only [hst];done) | (simp only [hst];rfl))
      replace hM : Mem _ _ w14 [_,_,_,_,_,_] := hM.pick [0,1,4,5,6,7] rfl
      exact ⟨i + 1,⟨by omega,hE.sel [1,2,4,5,6,7,23] rfl,hM⟩,by omega⟩
  ·replace hb29 := of_decide_eq_false hb29
   replace hb29 : ¬ (i < ts.length) := by omega
   obtain rfl : ts.length = i := by omega
   refine wcf hE rfl (wp_exit (qc (qc (qg (K6 (ww1 fun _ K10=>wpp (ql hE rfl (hM.get 1 rfl) row62 rfl (by intro X h;cases h) rfl fun a hE=>?_)))))))
   replace hE := hE.cast 81 rfl (show _ = Value.agg ([[.int .i64 (((stT y ts ts.length).1).m)],[.int .i64 (((stT y ts ts.length).1).r)],[.bool (((stT y ts ts.length).1).v0.1)],[.int .u64 ((((stT y ts ts.length).1).v0.2.1 : Nat) : Int)],bv (((stT y ts ts.length).1).v0.2.2.1),bv (((stT y ts ts.length).1).v0.2.2.2),[.bool (((stT y ts ts.length).1).v1.1)],[.int .u64 ((((stT y ts ts.length).1).v1.2.1 : Nat) : Int)],bv (((stT y ts ts.length).1).v1.2.2.1),bv (((stT y ts ts.length).1).v1.2.2.2),[.bool (((stT y ts ts.length).1).s0.1)],[.int .i64 (((stT y ts ts.length).1).s0.2.1)],bv (((stT y ts ts.length).1).s0.2.2.1),bv (((stT y ts ts.length).1).s0.2.2.2.1),bv (((stT y ts ts.length).1).s0.2.2.2.2),[.bool (((stT y ts ts.length).1).s1.1)],[.int .i64 (((stT y ts ts.length).1).s1.2.1)],bv (((stT y ts ts.length).1).s1.2.2.1),bv (((stT y ts ts.length).1).s1.2.2.2.1),bv (((stT y ts ts.length).1).s1.2.2.2.2),[.bool (((stT y ts ts.length).1).s2.1)],[.int .i64 (((stT y ts ts.length).1).s2.2.1)],bv (((stT y ts ts.length).1).s2.2.2.1),bv (((stT y ts ts.length).1).s2.2.2.2.1),bv (((stT y ts ts.length).1).s2.2.2.2.2),[.bool (((stT y ts ts.length).1).s3.1)],[.int .i64 (((stT y ts ts.length).1).s3.2.1)],bv (((stT y ts ts.length).1).s3.2.2.1),bv (((stT y ts ts.length).1).s3.2.2.2.1),bv (((stT y ts ts.length).1).s3.2.2.2.2)] : List (List Value)).flatten.toArray from (by first | rfl | simp only [List.flatten_cons,List.flatten_nil,List.append_nil,List.append_assoc]))
   refine qn hE rfl Tryd.call35 (used_c ((stT y ts ts.length).1) _ ((stT_ok hl_y ho_ts ts.length).1)) rfl ?_
   rintro e w7 ⟨v82_0,rfl,hN⟩
   refine ⟨_,rfl,trivial,fun a hE=>?_⟩
   replace hM : Mem _ _ w7 [_,_,_,_,_,_,_] := hM.call0 hN ⟨rfl,trivial⟩;clear hN
   refine sas hE rfl fun a hE=>qa (K10 (ww1 fun _ K11=>ww1 fun _ K12=>wpp (sas hE rfl fun a hE=>qa (K12 (wp_block ?_)))))
   refine c_loop (fun (k : Nat) a w' => k ≤ (usedL (stT y ts ts.length).1).length ∧ Env a 173 [(1,vt),(2,.pointer (some ⟨b2,0,none⟩)),(4,.bool false),(5,.pointer (some ⟨b5,0,none⟩)),(6,.pointer (some ⟨b6,0,none⟩)),(7,.int .i64 ((ts.length : Nat) : Int)),(14,v82_0),(15,.int .i64 ((k : Nat) : Int)),(23,.bool false),(29,.bool false)] ∧ Mem w [] w' [own v82_0 1 ((usedL ((stT y ts ts.length).1)).length) ((usedL ((stT y ts ts.length).1)).flatMap intC),blk b6 [bv (((stT y ts ts.length).2).n0.1),[.string (str ((stT y ts ts.length).2).n0.2.1)],bv (((stT y ts ts.length).2).n0.2.2.1),[.int .i64 (((stT y ts ts.length).2).n0.2.2.2)],bv (((stT y ts ts.length).2).n1.1),[.string (str ((stT y ts ts.length).2).n1.2.1)],bv (((stT y ts ts.length).2).n1.2.2.1),[.int .i64 (((stT y ts ts.length).2).n1.2.2.2)],bv (((stT y ts ts.length).2).n2.1),[.string (str ((stT y ts ts.length).2).n2.2.1)],bv (((stT y ts ts.length).2).n2.2.2.1),[.int .i64 (((stT y ts ts.length).2).n2.2.2.2)],bv (((stT y ts ts.length).2).n3.1),[.string (str ((stT y ts ts.length).2).n3.2.1)],bv (((stT y ts ts.length).2).n3.2.2.1),[.int .i64 (((stT y ts ts.length).2).n3.2.2.2)]] [32,1,16,1,32,1,16,1,32,1,16,1,32,1,16,1] 87,blk b5 [[.int .i64 (((stT y ts ts.length).1).m)],[.int .i64 (((stT y ts ts.length).1).r)],[.bool (((stT y ts ts.length).1).v0.1)],[.int .u64 ((((stT y ts ts.length).1).v0.2.1 : Nat) : Int)],bv (((stT y ts ts.length).1).v0.2.2.1),bv (((stT y ts ts.length).1).v0.2.2.2),[.bool (((stT y ts ts.length).1).v1.1)],[.int .u64 ((((stT y ts ts.length).1).v1.2.1 : Nat) : Int)],bv (((stT y ts ts.length).1).v1.2.2.1),bv (((stT y ts ts.length).1).v1.2.2.2),[.bool (((stT y ts ts.length).1).s0.1)],[.int .i64 (((stT y ts ts.length).1).s0.2.1)],bv (((stT y ts ts.length).1).s0.2.2.1),bv (((stT y ts ts.length).1).s0.2.2.2.1),bv (((stT y ts ts.length).1).s0.2.2.2.2),[.bool (((stT y ts ts.length).1).s1.1)],[.int .i64 (((stT y ts ts.length).1).s1.2.1)],bv (((stT y ts ts.length).1).s1.2.2.1),bv (((stT y ts ts.length).1).s1.2.2.2.1),bv (((stT y ts ts.length).1).s1.2.2.2.2),[.bool (((stT y ts ts.length).1).s2.1)],[.int .i64 (((stT y ts ts.length).1).s2.2.1)],bv (((stT y ts ts.length).1).s2.2.2.1),bv (((stT y ts ts.length).1).s2.2.2.2.1),bv (((stT y ts ts.length).1).s2.2.2.2.2),[.bool (((stT y ts ts.length).1).s3.1)],[.int .i64 (((stT y ts ts.length).1).s3.2.1)],bv (((stT y ts ts.length).1).s3.2.2.1),bv (((stT y ts ts.length).1).s3.2.2.2.1),bv (((stT y ts ts.length).1).s3.2.2.2.2)] [1,1,1,1,32,32,1,1,32,32,1,1,16,32,32,1,1,16,32,32,1,1,16,32,32,1,1,16,32,32] 62,blk b2 [bv y] [32] 23,rd vt 52 ts.length ct (ts.flatMap tnC),glb 1,tabP]) (fun k => (usedL (stT y ts ts.length).1).length - k) 0 ⟨Nat.zero_le _,hE.sel [1,2,4,5,6,7,14,15,23,29] rfl,hM⟩ ?_
   rintro k a w8 ⟨hk,hE,hM⟩
   refine ww1 fun _ K13=>ww1 fun _ K14=>wpp (sm hE rfl fun a hE=>sm hE rfl fun a hE=>s_len hE rfl Tryd.underlying77 (own_slice (hM.get 0 rfl)) rfl fun a hE=>sb hE rfl rfl bin_lss fun a hE=>qa (K14 ?_))
   refine hE.split 86 rfl (fun hb86 hE=>?_) (fun hb86 hE=>?_)
   ·replace hb86 := of_decide_eq_true hb86
    replace hb86 : k < ((usedL ((stT y ts ts.length).1)).length) := by omega
    replace hb86 : k < (usedL (stT y ts ts.length).1).length := by omega
    refine wct hE rfl (wp_skip (K13 (ww1 fun _ K15=>wp_block (ww1 fun _ K16=>wpp (sm hE rfl fun a hE=>sm hE rfl fun a hE=>?_)))))
    obtain ⟨cx91,hx91⟩ := own_rd (hM.get 0 rfl)
    refine qu (j := k) hE rfl hx91 rfl slt77 (by first | rfl | omega) (by omega) rfl fun a p91 hE hc91 hp91=>?_
    have hlj91 : k < (usedL ((stT y ts ts.length).1)).length := (by omega)
    have hok91 := usedL_lt _ (getD_mem (d := 0) hlj91)
    rw [flat_elem (d := 0) (fun x hx => (show (intC _).length = 1 from rfl)) hlj91] at hc91
    replace hc91 : (cellsAt _ [.int .i64 ((((usedL ((stT y ts ts.length).1)).getD k 0) : Nat) : Int)]).holds _ := hc91
    refine qt hE rfl hc91 one3 (by intro X h;cases h) rfl fun a hE=>?_
    rcases usedL_four (h := (stT y ts ts.length).1) (i := k) (by omega) with hcase | hcase | hcase | hcase
    ·replace hE := hE.cast 92 rfl (show _ = Value.int .i64 0 from congrArg (fun q : Nat => Value.int .i64 (q : Int)) hcase)
     have hus : (getS (stT y ts ts.length).1 0).1 = true := usedL_getS (by have hm := usedL_mem (h := (stT y ts ts.length).1) (i := k) (by omega);rw [hcase] at hm;exact hm)
     obtain ⟨f1,f2,f3,f4,f5⟩ := inv_open hl_y (inv_all ts.length) (by decide) hus
     simp only [getS,getI] at f1 f2 f3 f4 f5
     refine sf hE rfl fo62_2 fun a hE=>qp (j := 0) hE rfl rfl arr60 rfl (by decide) rfl fun a hE=>?_
     refine ql hE rfl (hM.get 2 rfl) row59 rfl (by intro X h;cases h) rfl fun a hE=>?_
     replace hE := hE.cast 95 rfl (show _ = Value.agg ([[.bool (((stT y ts ts.length).1).s0.1)],[.int .i64 (((stT y ts ts.length).1).s0.2.1)],bv (((stT y ts ts.length).1).s0.2.2.1),bv (((stT y ts ts.length).1).s0.2.2.2.1),bv (((stT y ts ts.length).1).s0.2.2.2.2)] : List (List Value)).flatten.toArray from (by first | rfl | simp only [List.flatten_cons,List.flatten_nil,List.append_nil,List.append_assoc]))
     refine qo [1,1,16,32,32] hE hM zeroL59 rfl rfl fun a b16 w9 hE hM=>?_
     have hsl725_2 : (((stT y ts ts.length).1).s0.2.2.1).length = 16 := ((stT_ok hl_y ho_ts ts.length).1).s0.2.1
     have hsl725_3 : (((stT y ts ts.length).1).s0.2.2.2.1).length = 32 := ((stT_ok hl_y ho_ts ts.length).1).s0.2.2.1
     have hsl725_4 : (((stT y ts ts.length).1).s0.2.2.2.2).length = 32 := ((stT_ok hl_y ho_ts ts.length).1).s0.2.2.2
     refine qq 0 5 (vss := [[.bool (((stT y ts ts.length).1).s0.1)],[.int .i64 (((stT y ts ts.length).1).s0.2.1)],bv (((stT y ts ts.length).1).s0.2.2.1),bv (((stT y ts ts.length).1).s0.2.2.2.1),bv (((stT y ts ts.length).1).s0.2.2.2.2)]) hE rfl rfl hM rfl sz59 (by simp only [List.take_succ_cons,List.take_zero,List.drop_zero,List.drop_succ_cons];simp only [List.map_cons,List.map_nil,vh,List.length_cons,List.length_nil,List.length_replicate,hsl725_2,hsl725_3,hsl725_4]) (by decide) rfl (one_fl ⟨one1 rfl,one1 rfl,vc _,vc _,vc _,trivial⟩) rfl (by intro X h;cases h) fun w10 hM=>?_
     try simp only [List.take_zero,List.take_succ_cons,List.drop_zero,List.drop_succ_cons,List.take_nil,List.drop_nil,List.nil_append,List.append_nil,List.cons_append] at hM
     refine qa (K16 ?_)
     refine wp_seq_j (fun a w' => ∃ (b17 : Nat),Env a 173 [(1,vt),(2,.pointer (some ⟨b2,0,none⟩)),(4,.bool false),(5,.pointer (some ⟨b5,0,none⟩)),(6,.pointer (some ⟨b6,0,none⟩)),(7,.int .i64 ((ts.length : Nat) : Int)),(14,v82_0),(15,.int .i64 ((k : Nat) : Int)),(16,.pointer (some ⟨b16,0,none⟩)),(17,.pointer (some ⟨b17,0,none⟩)),(18,.int .i64 (((unl ((stT y ts ts.length).1) (((stT y ts ts.length).2).n0.2.1)).2.1 : Nat) : Int)),(19,.int .i64 (((unl ((stT y ts ts.length).1) (((stT y ts ts.length).2).n0.2.1)).2.2 : Nat) : Int)),(23,.bool false),(29,.bool false),(86,.bool true)] ∧ Mem w [] w' [blk b17 [bv ((unl ((stT y ts ts.length).1) (((stT y ts ts.length).2).n0.2.1)).1)] [32] 23,blk b16 [[.bool (((stT y ts ts.length).1).s0.1)],[.int .i64 (((stT y ts ts.length).1).s0.2.1)],bv (((stT y ts ts.length).1).s0.2.2.1),bv (((stT y ts ts.length).1).s0.2.2.2.1),bv (((stT y ts ts.length).1).s0.2.2.2.2)] [1,1,16,32,32] 59,own v82_0 1 ((usedL ((stT y ts ts.length).1)).length) ((usedL ((stT y ts ts.length).1)).flatMap intC),blk b6 [bv (((stT y ts ts.length).2).n0.1),[.string (str ((stT y ts ts.length).2).n0.2.1)],bv (((stT y ts ts.length).2).n0.2.2.1),[.int .i64 (((stT y ts ts.length).2).n0.2.2.2)],bv (((stT y ts ts.length).2).n1.1),[.string (str ((stT y ts ts.length).2).n1.2.1)],bv (((stT y ts ts.length).2).n1.2.2.1),[.int .i64 (((stT y ts ts.length).2).n1.2.2.2)],bv (((stT y ts ts.length).2).n2.1),[.string (str ((stT y ts ts.length).2).n2.2.1)],bv (((stT y ts ts.length).2).n2.2.2.1),[.int .i64 (((stT y ts ts.length).2).n2.2.2.2)],bv (((stT y ts ts.length).2).n3.1),[.string (str ((stT y ts ts.length).2).n3.2.1)],bv (((stT y ts ts.length).2).n3.2.2.1),[.int .i64 (((stT y ts ts.length).2).n3.2.2.2)]] [32,1,16,1,32,1,16,1,32,1,16,1,32,1,16,1] 87,blk b5 [[.int .i64 (((stT y ts ts.length).1).m)],[.int .i64 (((stT y ts ts.length).1).r)],[.bool (((stT y ts ts.length).1).v0.1)],[.int .u64 ((((stT y ts ts.length).1).v0.2.1 : Nat) : Int)],bv (((stT y ts ts.length).1).v0.2.2.1),bv (((stT y ts ts.length).1).v0.2.2.2),[.bool (((stT y ts ts.length).1).v1.1)],[.int .u64 ((((stT y ts ts.length).1).v1.2.1 : Nat) : Int)],bv (((stT y ts ts.length).1).v1.2.2.1),bv (((stT y ts ts.length).1).v1.2.2.2),[.bool (((stT y ts ts.length).1).s0.1)],[.int .i64 (((stT y ts ts.length).1).s0.2.1)],bv (((stT y ts ts.length).1).s0.2.2.1),bv (((stT y ts ts.length).1).s0.2.2.2.1),bv (((stT y ts ts.length).1).s0.2.2.2.2),[.bool (((stT y ts ts.length).1).s1.1)],[.int .i64 (((stT y ts ts.length).1).s1.2.1)],bv (((stT y ts ts.length).1).s1.2.2.1),bv (((stT y ts ts.length).1).s1.2.2.2.1),bv (((stT y ts ts.length).1).s1.2.2.2.2),[.bool (((stT y ts ts.length).1).s2.1)],[.int .i64 (((stT y ts ts.length).1).s2.2.1)],bv (((stT y ts ts.length).1).s2.2.2.1),bv (((stT y ts ts.length).1).s2.2.2.2.1),bv (((stT y ts ts.length).1).s2.2.2.2.2),[.bool (((stT y ts ts.length).1).s3.1)],[.int .i64 (((stT y ts ts.length).1).s3.2.1)],bv (((stT y ts ts.length).1).s3.2.2.1),bv (((stT y ts ts.length).1).s3.2.2.2.1),bv (((stT y ts ts.length).1).s3.2.2.2.2)] [1,1,1,1,32,32,1,1,32,32,1,1,16,32,32,1,1,16,32,32,1,1,16,32,32,1,1,16,32,32] 62,blk b2 [bv y] [32] 23,rd vt 52 ts.length ct (ts.flatMap tnC),glb 1,tabP]) ?_ ?_
     ·refine qz hM (by kernel_rfl) (fun _ => True) (fun _ => True) (.re [(1,true),(2,true),(3,true),(0,true),(4,true),(5,true),(6,true),(7,true),(8,false),(9,true),(10,true),(11,true),(12,true),(13,false),(14,false),(15,true),(16,true)] (.fl 3 (.weak (.fl 5 (.or 8 (.re [(9,true),(10,true),(11,true),(12,true),(13,false),(14,false),(15,true),(16,true)] (.fl 4 (.fl 0 (.or 13 (.re [(14,false),(15,true),(16,true)] (.fl 0 (.fl 0 (.or 14 (.re [(15,true),(16,true)] (.leaf 2)) (.stop))))) (.stop))))) (.or 13 (.cut (.re [(8,false),(9,true),(10,true),(11,true),(12,true),(14,false),(15,true),(16,true)] (.fl 0 (.fl 0 (.or 8 (.re [(9,true),(10,true),(11,true),(12,true),(14,false),(15,true),(16,true)] (.fl 4 (.fl 0 (.weak (.or 14 (.re [(15,true),(16,true)] (.leaf 2)) (.stop)))))) (.stop)))))) (.stop))))))) [(1,true),(2,true),(3,true),(0,true),(4,true),(5,true),(6,true),(7,true),(8,false),(9,true),(10,true),(11,true),(12,true),(13,false),(14,false),(15,true),(16,true)] [(0,[(8,0),(9,8),(10,9),(11,9),(12,9),(14,0),(15,0),(16,0)]),(3,[(4,3),(5,4),(6,5),(7,6),(8,7),(9,8),(10,9),(11,9),(12,9),(14,3),(15,3),(16,3)]),(4,[(5,4),(6,5),(7,6),(8,7),(9,8),(10,9),(11,9),(12,9),(14,4),(15,4),(16,4)]),(5,[(6,5),(7,6),(8,7),(9,8),(10,9),(11,9),(12,9),(14,5),(15,5),(16,5)]),(6,[(7,6),(8,7),(9,8),(10,9),(11,9),(12,9),(14,6),(15,6),(16,6)]),(7,[(8,7),(9,8),(10,9),(11,9),(12,9),(14,7),(15,7),(16,7)]),(8,[(9,8),(10,9),(11,9),(12,9),(14,8),(15,8),(16,8)]),(13,[(14,13),(15,13),(16,13)]),(14,[(15,14),(16,14)])] (by kernel_rfl) ?_
      intro w11 hM' hww11;replace hM := hM'
      refine o_re (o_fl rfl (sm hE rfl fun a hE=>sm hE rfl fun a hE=>?_))
      obtain ⟨cx100,hx100⟩ := own_rd (hM.get 1 rfl)
      refine qu (j := k) hE rfl hx100 rfl slt77 (by first | rfl | omega) (by omega) rfl fun a p100 hE hc100 hp100=>?_
      have hlj100 : k < (usedL ((stT y ts ts.length).1)).length := (by omega)
      have hok100 := usedL_lt _ (getD_mem (d := 0) hlj100)
      rw [flat_elem (d := 0) (fun x hx => (show (intC _).length = 1 from rfl)) hlj100] at hc100
      refine qa (qh (vb (fun b => b ≠ b5 ∧ b ≠ b6 ∧ b ∉ valBlocks v82_0) (fun _ _ => trivial) (o_fl rfl ?_)))
      refine ql hE rfl (hM.get 3 rfl) row62 rfl (by intro X h;cases h;first | (simp;done) | (intro b hb hx;exact hx.2.2 (rdB_sub (hp100 _ hb)))) rfl fun a hE=>?_
      replace hE := hE.cast 97 rfl (show _ = Value.agg ([[.int .i64 (((stT y ts ts.length).1).m)],[.int .i64 (((stT y ts ts.length).1).r)],[.bool (((stT y ts ts.length).1).v0.1)],[.int .u64 ((((stT y ts ts.length).1).v0.2.1 : Nat) : Int)],bv (((stT y ts ts.length).1).v0.2.2.1),bv (((stT y ts ts.length).1).v0.2.2.2),[.bool (((stT y ts ts.length).1).v1.1)],[.int .u64 ((((stT y ts ts.length).1).v1.2.1 : Nat) : Int)],bv (((stT y ts ts.length).1).v1.2.2.1),bv (((stT y ts ts.length).1).v1.2.2.2),[.bool (((stT y ts ts.length).1).s0.1)],[.int .i64 (((stT y ts ts.length).1).s0.2.1)],bv (((stT y ts ts.length).1).s0.2.2.1),bv (((stT y ts ts.length).1).s0.2.2.2.1),bv (((stT y ts ts.length).1).s0.2.2.2.2),[.bool (((stT y ts ts.length).1).s1.1)],[.int .i64 (((stT y ts ts.length).1).s1.2.1)],bv (((stT y ts ts.length).1).s1.2.2.1),bv (((stT y ts ts.length).1).s1.2.2.2.1),bv (((stT y ts ts.length).1).s1.2.2.2.2),[.bool (((stT y ts ts.length).1).s2.1)],[.int .i64 (((stT y ts ts.length).1).s2.2.1)],bv (((stT y ts ts.length).1).s2.2.2.1),bv (((stT y ts ts.length).1).s2.2.2.2.1),bv (((stT y ts ts.length).1).s2.2.2.2.2),[.bool (((stT y ts ts.length).1).s3.1)],[.int .i64 (((stT y ts ts.length).1).s3.2.1)],bv (((stT y ts ts.length).1).s3.2.2.1),bv (((stT y ts ts.length).1).s3.2.2.2.1),bv (((stT y ts ts.length).1).s3.2.2.2.2)] : List (List Value)).flatten.toArray from (by first | rfl | simp only [List.flatten_cons,List.flatten_nil,List.append_nil,List.append_assoc]))
      replace hc100 : (cellsAt _ [.int .i64 ((((usedL ((stT y ts ts.length).1)).getD k 0) : Nat) : Int)]).holds _ := hc100
      refine qt hE rfl hc100 one3 (by intro X h;cases h;first | (simp;done) | (intro b hb hx;exact hx.2.2 (rdB_sub (hp100 _ hb)))) rfl fun a hE=>?_
      replace hE := hE.cast 101 rfl (show _ = Value.int .i64 0 from congrArg (fun q : Nat => Value.int .i64 (q : Int)) hcase)
      refine qp (j := 0) hE rfl rfl arr87 rfl (by decide) rfl fun a hE=>?_
      refine sf hE rfl fo84_1 fun a hE=>?_
      refine qm hE rfl (hM.get 2 rfl) rfl one9 (by intro X h;cases h;first | (simp;done) | (intro b hb hx;exact hx.2.2 (rdB_sub (hp100 _ hb)))) rfl fun a hE=>?_
      refine qa (qh ?_)
      refine o_or rfl ?_ ?_
      ·refine qn hE rfl Tryd.call29 (unlock_c ((stT y ts ts.length).1) (((stT y ts ts.length).2).n0.2.1) _ (hM.get 6 rfl) (hM.get 7 rfl) ((stT_ok hl_y ho_ts ts.length).1)) rfl ?_
       rintro e w12 ⟨rfl,hN⟩
       refine ⟨_,rfl,hN.sta0 _,fun a hE=>?_⟩
       replace hM : Mem _ _ w12 [_,_,_,_,_,_,_,_] := hM.call0 hN trivial;clear hN
       refine qa (qh (o_re (o_fl rfl (sm hE rfl fun a hE=>sx hE rfl fun a hE=>sx hE rfl fun a hE=>sx hE rfl fun a hE=>qa (qh (o_fl rfl (qa (qh ?_))))))))
       refine o_or rfl ?_ ?_
       ·refine qo [32] hE hM zero23 rfl rfl fun a b17 w13 hE hM=>qa (qh (o_re (o_fl rfl (qa (qh (o_fl rfl (qa (qh ?_))))))))
        refine o_or rfl ?_ ?_
        ·refine qr 0 hE rfl rfl hM rfl sz23 ((vh _).trans (unl_len ((stT_ok hl_y ho_ts ts.length).1) (((stT y ts ts.length).2).n0.2.1))) (vc _) rfl ((vh _).trans (by first | (simp;done) | (simp [*];done) | (simp;omega))) rfl (by intro X h;cases h;exact ⟨fun e => ((apart_of_get hM.apart (i := 0) (j := 4) rfl rfl (by decide)).1 _ (.head _)).1 (by rw [e];exact .head _),fun e => ((apart_of_get hM.apart (i := 0) (j := 3) rfl rfl (by decide)).1 _ (.head _)).1 (by rw [e];exact .head _),fun hv => ((apart_of_get hM.apart (i := 0) (j := 2) rfl rfl (by decide)).1 _ (.head _)).1 hv⟩) ?_;intro w14 hM
         simp only [List.set_cons_zero,List.set_cons_succ] at hM
         refine qa (qh (o_re (va rfl rfl (sas hE rfl fun a hE=>sas hE rfl fun a hE=>qa (q_ph (qa ?_))))))
         replace hM : Mem _ _ w14 [_,_,_,_,_,_,_,_,_] := hM.pick [0,1,2,3,4,5,6,7,8] rfl
         refine qd ⟨_,hE.sel [1,2,4,5,6,7,14,15,16,17,18,19,23,29,86] rfl,hM⟩
        trivial
       trivial
      refine o_or rfl ?_ ?_
      ·refine qo [32] hE hM zero23 rfl rfl fun a b17 w12 hE hM=>qa (qh (o_cut (fun _ => True) (o_re (o_fl rfl (qa (qh (o_fl rfl (qa (qh ?_)))))))))
       refine o_or rfl ?_ ?_
       ·refine qn hE rfl Tryd.call29 (unlock_c ((stT y ts ts.length).1) (((stT y ts ts.length).2).n0.2.1) _ (hM.get 7 rfl) (hM.get 8 rfl) ((stT_ok hl_y ho_ts ts.length).1)) rfl ?_
        rintro e w13 ⟨rfl,hN⟩
        refine ⟨_,rfl,hN.sta0 _,fun a hE=>?_⟩
        replace hM : Mem _ _ w13 [_,_,_,_,_,_,_,_,_] := hM.call0 hN trivial;clear hN
        refine qa (qh (o_re (o_fl rfl (sm hE rfl fun a hE=>sx hE rfl fun a hE=>sx hE rfl fun a hE=>sx hE rfl fun a hE=>qa (qh (o_fl rfl (qa (qh ?_))))))))
        refine vb (fun b => b = b17) (fun _ _ => trivial) ?_
        refine o_or rfl ?_ ?_
        ·refine qr 0 hE rfl rfl hM rfl sz23 ((vh _).trans (unl_len ((stT_ok hl_y ho_ts ts.length).1) (((stT y ts ts.length).2).n0.2.1))) (vc _) rfl ((vh _).trans (by first | (simp;done) | (simp [*];done) | (simp;omega))) rfl (by intro X h;cases h;rfl) fun w14 hM=>?_
         simp only [List.set_cons_zero,List.set_cons_succ] at hM
         refine qa (qh (o_re (va rfl rfl (sas hE rfl fun a hE=>sas hE rfl fun a hE=>qa (q_ph (qa ?_))))))
         replace hM : Mem _ _ w14 [_,_,_,_,_,_,_,_,_] := hM.pick [0,1,2,3,4,5,6,7,8] rfl
         refine qd ⟨_,hE.sel [1,2,4,5,6,7,14,15,16,17,18,19,23,29,86] rfl,hM⟩
        trivial
       trivial
      trivial
     rintro a w15 ⟨b17,hE,hM⟩
     refine ww1 fun _ K17=>ww1 fun _ K18=>wp_drawnM hM (by kernel_rfl) (fun _ => False) [(0,true),(1,true),(2,true),(3,true),(4,true),(5,true),(6,true),(7,true),(8,true),(9,true),(10,true),(11,true),(12,true),(13,true),(14,true),(15,true),(16,true),(17,true),(18,true),(19,true),(20,true),(21,true),(22,true),(23,true),(24,true),(25,true),(26,true),(27,true),(28,true),(29,true),(30,true),(31,true),(32,true),(33,true),(34,true),(35,true),(36,true),(37,true),(38,true),(39,true),(40,true),(41,true),(42,true),(43,true),(44,true),(45,true),(46,true)] [] (by kernel_rfl) rfl ?_
     intro w16 hM' hww16;replace hM := hM'
     refine sf hE rfl fo59_2 fun a hE=>?_
     refine ql hE rfl (hM.get 1 rfl) row57 rfl (by intro X h;cases h;first | (simp;done) | (intro b hb hx;exact hx.2.2 (rdB_sub (hp100 _ hb)))) rfl fun a hE=>?_
     refine sm hE rfl fun a hE=>sm hE rfl fun a hE=>?_
     obtain ⟨cx113,hx113⟩ := own_rd (hM.get 2 rfl)
     refine qu (j := k) hE rfl hx113 rfl slt77 (by first | rfl | omega) (by omega) rfl fun a p113 hE hc113 hp113=>?_
     have hlj113 : k < (usedL ((stT y ts ts.length).1)).length := (by omega)
     have hok113 := usedL_lt _ (getD_mem (d := 0) hlj113)
     rw [flat_elem (d := 0) (fun x hx => (show (intC _).length = 1 from rfl)) hlj113] at hc113
     replace hc113 : (cellsAt _ [.int .i64 ((((usedL ((stT y ts ts.length).1)).getD k 0) : Nat) : Int)]).holds _ := hc113
     refine qt hE rfl hc113 one3 (by intro X h;cases h;first | (simp;done) | (intro b hb hx;exact hx.2.2 (rdB_sub (hp100 _ hb)))) rfl fun a hE=>?_
     replace hE := hE.cast 114 rfl (show _ = Value.int .i64 0 from congrArg (fun q : Nat => Value.int .i64 (q : Int)) hcase)
     refine qp (j := 0) hE rfl rfl arr87 rfl (by decide) rfl fun a hE=>?_
     refine sf hE rfl fo84_2 fun a hE=>?_
     refine ql hE rfl (hM.get 3 rfl) row57 rfl (by intro X h;cases h;first | (simp;done) | (intro b hb hx;exact hx.2.2 (rdB_sub (hp100 _ hb)))) rfl fun a hE=>?_
     refine s_bin hE rfl rfl (eqa57 ((stT_ok hl_y ho_ts ts.length).1).s0.2.1 ((stT_ok hl_y ho_ts ts.length).2).n0.2.1).2 rfl fun a hE=>sm hE rfl fun a hE=>?_
     replace hE := hE.cast 119 rfl (show _ = Value.bool false from (congrArg Value.bool (by rw [f1];simp)))
     refine gy hE rfl (sf hE rfl fo59_1 fun a hE=>gy hE rfl ?_)
     refine qm hE rfl (hM.get 1 rfl) rfl one3 (by intro X h;cases h;first | (simp;done) | (intro b hb hx;exact hx.2.2 (rdB_sub (hp100 _ hb)))) rfl fun a hE=>?_
     refine gy hE rfl (sm hE rfl fun a hE=>gy hE rfl (sm hE rfl fun a hE=>gy hE rfl ?_))
     obtain ⟨cx124,hx124⟩ := own_rd (hM.get 2 rfl)
     refine qu (j := k) hE rfl hx124 rfl slt77 (by first | rfl | omega) (by omega) rfl fun a p124 hE hc124 hp124=>?_
     have hlj124 : k < (usedL ((stT y ts ts.length).1)).length := (by omega)
     have hok124 := usedL_lt _ (getD_mem (d := 0) hlj124)
     rw [flat_elem (d := 0) (fun x hx => (show (intC _).length = 1 from rfl)) hlj124] at hc124
     refine gy hE rfl ?_
     replace hc124 : (cellsAt _ [.int .i64 ((((usedL ((stT y ts ts.length).1)).getD k 0) : Nat) : Int)]).holds _ := hc124
     refine qt hE rfl hc124 one3 (by intro X h;cases h;first | (simp;done) | (intro b hb hx;exact hx.2.2 (rdB_sub (hp100 _ hb)))) rfl fun a hE=>?_
     replace hE := hE.cast 125 rfl (show _ = Value.int .i64 0 from congrArg (fun q : Nat => Value.int .i64 (q : Int)) hcase)
     refine gy hE rfl (qp (j := 0) hE rfl rfl arr87 rfl (by decide) rfl fun a hE=>?_)
     refine gy hE rfl (sf hE rfl fo84_3 fun a hE=>gy hE rfl ?_)
     refine qm hE rfl (hM.get 3 rfl) rfl one3 (by intro X h;cases h;first | (simp;done) | (intro b hb hx;exact hx.2.2 (rdB_sub (hp100 _ hb)))) rfl fun a hE=>?_
     refine gy hE rfl (sb hE rfl rfl bin_neq fun a hE=>pkf hE rfl fun a hE=>sm hE rfl fun a hE=>?_)
     replace hE := hE.cast 131 rfl (show _ = Value.bool false from (congrArg Value.bool (by rw [f2];simp)))
     refine gy hE rfl (sm hE rfl fun a hE=>gy hE rfl (sb hE rfl rfl bin_neq fun a hE=>pkf hE rfl fun a hE=>sm hE rfl fun a hE=>?_))
     replace hE := hE.cast 135 rfl (show _ = Value.bool false from (congrArg Value.bool (by rw [f3];rfl)))
     refine gy hE rfl (sm hE rfl fun a hE=>gy hE rfl (sm hE rfl fun a hE=>gy hE rfl (sm hE rfl fun a hE=>gy hE rfl ?_)))
     obtain ⟨cx139,hx139⟩ := own_rd (hM.get 2 rfl)
     refine qu (j := k) hE rfl hx139 rfl slt77 (by first | rfl | omega) (by omega) rfl fun a p139 hE hc139 hp139=>?_
     have hlj139 : k < (usedL ((stT y ts ts.length).1)).length := (by omega)
     have hok139 := usedL_lt _ (getD_mem (d := 0) hlj139)
     rw [flat_elem (d := 0) (fun x hx => (show (intC _).length = 1 from rfl)) hlj139] at hc139
     refine gy hE rfl ?_
     replace hc139 : (cellsAt _ [.int .i64 ((((usedL ((stT y ts ts.length).1)).getD k 0) : Nat) : Int)]).holds _ := hc139
     refine qt hE rfl hc139 one3 (by intro X h;cases h;first | (simp;done) | (intro b hb hx;exact hx.2.2 (rdB_sub (hp100 _ hb)))) rfl fun a hE=>?_
     replace hE := hE.cast 140 rfl (show _ = Value.int .i64 0 from congrArg (fun q : Nat => Value.int .i64 (q : Int)) hcase)
     refine gy hE rfl (sb hE rfl rfl bin_gtr fun a hE=>pkf hE rfl fun a hE=>sm hE rfl fun a hE=>?_)
     replace hE := hE.cast 143 rfl (show _ = Value.bool false from (congrArg Value.bool (decide_eq_false (by omega))))
     refine gy hE rfl (sm hE rfl fun a hE=>gy hE rfl (sm hE rfl fun a hE=>gy hE rfl (sm hE rfl fun a hE=>gy hE rfl ?_)))
     obtain ⟨cx147,hx147⟩ := own_rd (hM.get 2 rfl)
     refine qu (j := k) hE rfl hx147 rfl slt77 (by first | rfl | omega) (by omega) rfl fun a p147 hE hc147 hp147=>?_
     have hlj147 : k < (usedL ((stT y ts ts.length).1)).length := (by omega)
     have hok147 := usedL_lt _ (getD_mem (d := 0) hlj147)
     rw [flat_elem (d := 0) (fun x hx => (show (intC _).length = 1 from rfl)) hlj147] at hc147
     refine gy hE rfl ?_
     replace hc147 : (cellsAt _ [.int .i64 ((((usedL ((stT y ts ts.length).1)).getD k 0) : Nat) : Int)]).holds _ := hc147
     refine qt hE rfl hc147 one3 (by intro X h;cases h;first | (simp;done) | (intro b hb hx;exact hx.2.2 (rdB_sub (hp100 _ hb)))) rfl fun a hE=>?_
     replace hE := hE.cast 148 rfl (show _ = Value.int .i64 0 from congrArg (fun q : Nat => Value.int .i64 (q : Int)) hcase)
     refine gy hE rfl (sb hE rfl rfl bin_eql fun a hE=>gy hE rfl (sm hE rfl fun a hE=>?_))
     refine hE.split 150 rfl (fun hb150 hE=>?_) (fun hb150 hE=>?_)
     ·replace hb150 := of_decide_eq_true hb150
      replace hb150 : ((unl ((stT y ts ts.length).1) (((stT y ts ts.length).2).n0.2.1)).2.1) = 0 := by omega
      refine gy hE rfl ?_
      refine ql hE rfl (hM.get 0 rfl) row23 rfl (by intro X h;cases h;first | (simp;done) | (intro b hb hx;exact hx.2.2 (rdB_sub (hp100 _ hb)))) rfl fun a hE=>?_
      refine gy hE rfl ?_
      refine ql hE rfl (hM.get 5 rfl) row23 rfl (by intro X h;cases h;first | (simp;done) | (intro b hb hx;exact hx.2.2 (rdB_sub (hp100 _ hb)))) rfl fun a hE=>?_
      refine gy hE rfl (s_bin hE rfl rfl (eqa23 (unl_len ((stT_ok hl_y ho_ts ts.length).1) (((stT y ts ts.length).2).n0.2.1)) hl_y).2 rfl fun a hE=>gy hE rfl (pkt hE rfl fun a hE=>pkf hE rfl fun a hE=>qa (K18 ?_)))
      replace hE := hE.cast 155 rfl (show _ = Value.bool false from (congrArg Value.bool (by rw [f5 (by omega)];simp)))
      refine wcf hE rfl (wp_skip (K17 (ww1 fun _ K19=>wpp (sas hE rfl fun a hE=>qa (K19 (wp_block (c_loop (fun (q : Nat) a w' => q ≤ k ∧ Env a 173 [(1,vt),(2,.pointer (some ⟨b2,0,none⟩)),(4,.bool false),(5,.pointer (some ⟨b5,0,none⟩)),(6,.pointer (some ⟨b6,0,none⟩)),(7,.int .i64 ((ts.length : Nat) : Int)),(14,v82_0),(15,.int .i64 ((k : Nat) : Int)),(16,.pointer (some ⟨b16,0,none⟩)),(17,.pointer (some ⟨b17,0,none⟩)),(18,.int .i64 (((unl ((stT y ts ts.length).1) (((stT y ts ts.length).2).n0.2.1)).2.1 : Nat) : Int)),(19,.int .i64 (((unl ((stT y ts ts.length).1) (((stT y ts ts.length).2).n0.2.1)).2.2 : Nat) : Int)),(20,.int .i64 ((q : Nat) : Int)),(23,.bool false),(29,.bool false),(86,.bool true),(155,.bool false)] ∧ Mem w [] w' [blk b17 [bv ((unl ((stT y ts ts.length).1) (((stT y ts ts.length).2).n0.2.1)).1)] [32] 23,blk b16 [[.bool (((stT y ts ts.length).1).s0.1)],[.int .i64 (((stT y ts ts.length).1).s0.2.1)],bv (((stT y ts ts.length).1).s0.2.2.1),bv (((stT y ts ts.length).1).s0.2.2.2.1),bv (((stT y ts ts.length).1).s0.2.2.2.2)] [1,1,16,32,32] 59,own v82_0 1 ((usedL ((stT y ts ts.length).1)).length) ((usedL ((stT y ts ts.length).1)).flatMap intC),blk b6 [bv (((stT y ts ts.length).2).n0.1),[.string (str ((stT y ts ts.length).2).n0.2.1)],bv (((stT y ts ts.length).2).n0.2.2.1),[.int .i64 (((stT y ts ts.length).2).n0.2.2.2)],bv (((stT y ts ts.length).2).n1.1),[.string (str ((stT y ts ts.length).2).n1.2.1)],bv (((stT y ts ts.length).2).n1.2.2.1),[.int .i64 (((stT y ts ts.length).2).n1.2.2.2)],bv (((stT y ts ts.length).2).n2.1),[.string (str ((stT y ts ts.length).2).n2.2.1)],bv (((stT y ts ts.length).2).n2.2.2.1),[.int .i64 (((stT y ts ts.length).2).n2.2.2.2)],bv (((stT y ts ts.length).2).n3.1),[.string (str ((stT y ts ts.length).2).n3.2.1)],bv (((stT y ts ts.length).2).n3.2.2.1),[.int .i64 (((stT y ts ts.length).2).n3.2.2.2)]] [32,1,16,1,32,1,16,1,32,1,16,1,32,1,16,1] 87,blk b5 [[.int .i64 (((stT y ts ts.length).1).m)],[.int .i64 (((stT y ts ts.length).1).r)],[.bool (((stT y ts ts.length).1).v0.1)],[.int .u64 ((((stT y ts ts.length).1).v0.2.1 : Nat) : Int)],bv (((stT y ts ts.length).1).v0.2.2.1),bv (((stT y ts ts.length).1).v0.2.2.2),[.bool (((stT y ts ts.length).1).v1.1)],[.int .u64 ((((stT y ts ts.length).1).v1.2.1 : Nat) : Int)],bv (((stT y ts ts.length).1).v1.2.2.1),bv (((stT y ts ts.length).1).v1.2.2.2),[.bool (((stT y ts ts.length).1).s0.1)],[.int .i64 (((stT y ts ts.length).1).s0.2.1)],bv (((stT y ts ts.length).1).s0.2.2.1),bv (((stT y ts ts.length).1).s0.2.2.2.1),bv (((stT y ts ts.length).1).s0.2.2.2.2),[.bool (((stT y ts ts.length).1).s1.1)],[.int .i64 (((stT y ts ts.length).1).s1.2.1)],bv (((stT y ts ts.length).1).s1.2.2.1),bv (((stT y ts ts.length).1).s1.2.2.2.1),bv (((stT y ts ts.length).1).s1.2.2.2.2),[.bool (((stT y ts ts.length).1).s2.1)],[.int .i64 (((stT y ts ts.length).1).s2.2.1)],bv (((stT y ts ts.length).1).s2.2.2.1),bv (((stT y ts ts.length).1).s2.2.2.2.1),bv (((stT y ts ts.length).1).s2.2.2.2.2),[.bool (((stT y ts ts.length).1).s3.1)],[.int .i64 (((stT y ts ts.length).1).s3.2.1)],bv (((stT y ts ts.length).1).s3.2.2.1),bv (((stT y ts ts.length).1).s3.2.2.2.1),bv (((stT y ts ts.length).1).s3.2.2.2.2)] [1,1,1,1,32,32,1,1,32,32,1,1,16,32,32,1,1,16,32,32,1,1,16,32,32,1,1,16,32,32] 62,blk b2 [bv y] [32] 23,rd vt 52 ts.length ct (ts.flatMap tnC),glb 1,tabP]) (fun q => k - q) 0 ⟨Nat.zero_le _,hE.sel [1,2,4,5,6,7,14,15,16,17,18,19,20,23,29,86,155] rfl,hM⟩ ?_)))))))
      rintro q a w17 ⟨hq,hE,hM⟩
      refine ww1 fun _ K20=>ww1 fun _ K21=>wpp (sm hE rfl fun a hE=>sm hE rfl fun a hE=>sb hE rfl rfl bin_lss fun a hE=>qa (K21 ?_))
      refine hE.split 158 rfl (fun hb158 hE=>?_) (fun hb158 hE=>?_)
      ·replace hb158 := of_decide_eq_true hb158
       replace hb158 : q < k := by omega
       replace hb158 : q < k := by omega
       refine wct hE rfl (wp_skip (K20 (ww1 fun _ K22=>wp_block (ww1 fun _ K23=>wp_drawnM hM (by kernel_rfl) (fun _ => False) [(0,true),(1,true),(2,true),(3,true),(4,true),(5,true),(6,true),(7,true),(8,true),(9,true),(10,true)] [] (by kernel_rfl) rfl ?_))))
       intro w18 hM' hww18;replace hM := hM'
       refine sm hE rfl fun a hE=>sm hE rfl fun a hE=>?_
       obtain ⟨cx163,hx163⟩ := own_rd (hM.get 2 rfl)
       refine qu (j := q) hE rfl hx163 rfl slt77 (by first | rfl | omega) (by omega) rfl fun a p163 hE hc163 hp163=>?_
       have hlj163 : q < (usedL ((stT y ts ts.length).1)).length := (by omega)
       have hok163 := usedL_lt _ (getD_mem (d := 0) hlj163)
       rw [flat_elem (d := 0) (fun x hx => (show (intC _).length = 1 from rfl)) hlj163] at hc163
       replace hc163 : (cellsAt _ [.int .i64 ((((usedL ((stT y ts ts.length).1)).getD q 0) : Nat) : Int)]).holds _ := hc163
       refine qt hE rfl hc163 one3 (by intro X h;cases h;first | (simp;done) | (intro b hb hx;exact hx.2.2 (rdB_sub (hp100 _ hb)))) rfl fun a hE=>?_
       rcases usedL_four (h := (stT y ts ts.length).1) (i := q) (by omega) with hcas2 | hcas2 | hcas2 | hcas2
       ·have hup := used_up (h := (stT y ts ts.length).1) (q := q) (k := k) (by omega) (by omega)
        rw [hcas2,hcase] at hup
        exact absurd hup (by decide)
       ·have hup := used_up (h := (stT y ts ts.length).1) (q := q) (k := k) (by omega) (by omega)
        rw [hcas2,hcase] at hup
        exact absurd hup (by decide)
       ·have hup := used_up (h := (stT y ts ts.length).1) (q := q) (k := k) (by omega) (by omega)
        rw [hcas2,hcase] at hup
        exact absurd hup (by decide)
       ·have hup := used_up (h := (stT y ts ts.length).1) (q := q) (k := k) (by omega) (by omega)
        rw [hcas2,hcase] at hup
        exact absurd hup (by decide)
      ·replace hb158 := of_decide_eq_false hb158
       replace hb158 : ¬ (q < k) := by omega
       obtain rfl : k = q := by omega
       refine wcf hE rfl (wp_exit (qc (qc (qg (qe (K15 (wpp (sm hE rfl fun a hE=>sb hE rfl rfl (show Bin _ _ _ _ _ (.int .i64 ((k + 1 : Nat) : Int)) from bin_add (by rw [wrap_i64 (by omega) (by omega)];omega)) fun a hE=>?_))))))))
       refine sas hE rfl fun a hE=>qa ?_
       replace hE := hE.cast 15 rfl (show _ = Value.int .i64 (((k + 1) : Nat) : Int) from (congrArg _ (by omega)))
       replace hM : Mem _ _ w17 [_,_,_,_,_,_,_] := hM.pick [2,3,4,5,6,7,8] rfl
       exact ⟨k + 1,⟨by omega,hE.sel [1,2,4,5,6,7,14,15,23,29] rfl,hM⟩,by omega⟩
     ·replace hb150 := of_decide_eq_false hb150
      replace hb150 : ¬ (((unl ((stT y ts ts.length).1) (((stT y ts ts.length).2).n0.2.1)).2.1) = 0) := by omega
      refine gf hE rfl fun a hE=>gf hE rfl fun a hE=>gf hE rfl fun a hE=>gy hE rfl (pkf hE rfl fun a hE=>pkf hE rfl fun a hE=>qa (K18 (wcf hE rfl (wp_skip ?_))))
      refine K17 (ww1 fun _ K19=>wpp (sas hE rfl fun a hE=>qa (K19 (wp_block (c_loop (fun (q : Nat) a w' => q ≤ k ∧ Env a 173 [(1,vt),(2,.pointer (some ⟨b2,0,none⟩)),(4,.bool false),(5,.pointer (some ⟨b5,0,none⟩)),(6,.pointer (some ⟨b6,0,none⟩)),(7,.int .i64 ((ts.length : Nat) : Int)),(14,v82_0),(15,.int .i64 ((k : Nat) : Int)),(16,.pointer (some ⟨b16,0,none⟩)),(17,.pointer (some ⟨b17,0,none⟩)),(18,.int .i64 (((unl ((stT y ts ts.length).1) (((stT y ts ts.length).2).n0.2.1)).2.1 : Nat) : Int)),(19,.int .i64 (((unl ((stT y ts ts.length).1) (((stT y ts ts.length).2).n0.2.1)).2.2 : Nat) : Int)),(20,.int .i64 ((q : Nat) : Int)),(23,.bool false),(29,.bool false),(86,.bool true),(155,.bool false)] ∧ Mem w [] w' [blk b17 [bv ((unl ((stT y ts ts.length).1) (((stT y ts ts.length).2).n0.2.1)).1)] [32] 23,blk b16 [[.bool (((stT y ts ts.length).1).s0.1)],[.int .i64 (((stT y ts ts.length).1).s0.2.1)],bv (((stT y ts ts.length).1).s0.2.2.1),bv (((stT y ts ts.length).1).s0.2.2.2.1),bv (((stT y ts ts.length).1).s0.2.2.2.2)] [1,1,16,32,32] 59,own v82_0 1 ((usedL ((stT y ts ts.length).1)).length) ((usedL ((stT y ts ts.length).1)).flatMap intC),blk b6 [bv (((stT y ts ts.length).2).n0.1),[.string (str ((stT y ts ts.length).2).n0.2.1)],bv (((stT y ts ts.length).2).n0.2.2.1),[.int .i64 (((stT y ts ts.length).2).n0.2.2.2)],bv (((stT y ts ts.length).2).n1.1),[.string (str ((stT y ts ts.length).2).n1.2.1)],bv (((stT y ts ts.length).2).n1.2.2.1),[.int .i64 (((stT y ts ts.length).2).n1.2.2.2)],bv (((stT y ts ts.length).2).n2.1),[.string (str ((stT y ts ts.length).2).n2.2.1)],bv (((stT y ts ts.length).2).n2.2.2.1),[.int .i64 (((stT y ts ts.length).2).n2.2.2.2)],bv (((stT y ts ts.length).2).n3.1),[.string (str ((stT y ts ts.length).2).n3.2.1)],bv (((stT y ts ts.length).2).n3.2.2.1),[.int .i64 (((stT y ts ts.length).2).n3.2.2.2)]] [32,1,16,1,32,1,16,1,32,1,16,1,32,1,16,1] 87,blk b5 [[.int .i64 (((stT y ts ts.length).1).m)],[.int .i64 (((stT y ts ts.length).1).r)],[.bool (((stT y ts ts.length).1).v0.1)],[.int .u64 ((((stT y ts ts.length).1).v0.2.1 : Nat) : Int)],bv (((stT y ts ts.length).1).v0.2.2.1),bv (((stT y ts ts.length).1).v0.2.2.2),[.bool (((stT y ts ts.length).1).v1.1)],[.int .u64 ((((stT y ts ts.length).1).v1.2.1 : Nat) : Int)],bv (((stT y ts ts.length).1).v1.2.2.1),bv (((stT y ts ts.length).1).v1.2.2.2),[.bool (((stT y ts ts.length).1).s0.1)],[.int .i64 (((stT y ts ts.length).1).s0.2.1)],bv (((stT y ts ts.length).1).s0.2.2.1),bv (((stT y ts ts.length).1).s0.2.2.2.1),bv (((stT y ts ts.length).1).s0.2.2.2.2),[.bool (((stT y ts ts.length).1).s1.1)],[.int .i64 (((stT y ts ts.length).1).s1.2.1)],bv (((stT y ts ts.length).1).s1.2.2.1),bv (((stT y ts ts.length).1).s1.2.2.2.1),bv (((stT y ts ts.length).1).s1.2.2.2.2),[.bool (((stT y ts ts.length).1).s2.1)],[.int .i64 (((stT y ts ts.length).1).s2.2.1)],bv (((stT y ts ts.length).1).s2.2.2.1),bv (((stT y ts ts.length).1).s2.2.2.2.1),bv (((stT y ts ts.length).1).s2.2.2.2.2),[.bool (((stT y ts ts.length).1).s3.1)],[.int .i64 (((stT y ts ts.length).1).s3.2.1)],bv (((stT y ts ts.length).1).s3.2.2.1),bv (((stT y ts ts.length).1).s3.2.2.2.1),bv (((stT y ts ts.length).1).s3.2.2.2.2)] [1,1,1,1,32,32,1,1,32,32,1,1,16,32,32,1,1,16,32,32,1,1,16,32,32,1,1,16,32,32] 62,blk b2 [bv y] [32] 23,rd vt 52 ts.length ct (ts.flatMap tnC),glb 1,tabP]) (fun q => k - q) 0 ⟨Nat.zero_le _,hE.sel [1,2,4,5,6,7,14,15,16,17,18,19,20,23,29,86,155] rfl,hM⟩ ?_)))))
      rintro q a w17 ⟨hq,hE,hM⟩
      refine ww1 fun _ K20=>ww1 fun _ K21=>wpp (sm hE rfl fun a hE=>sm hE rfl fun a hE=>sb hE rfl rfl bin_lss fun a hE=>qa (K21 ?_))
      refine hE.split 158 rfl (fun hb158 hE=>?_) (fun hb158 hE=>?_)
      ·replace hb158 := of_decide_eq_true hb158
       replace hb158 : q < k := by omega
       replace hb158 : q < k := by omega
       refine wct hE rfl (wp_skip (K20 (ww1 fun _ K22=>wp_block (ww1 fun _ K23=>wp_drawnM hM (by kernel_rfl) (fun _ => False) [(0,true),(1,true),(2,true),(3,true),(4,true),(5,true),(6,true),(7,true),(8,true),(9,true),(10,true)] [] (by kernel_rfl) rfl ?_))))
       intro w18 hM' hww18;replace hM := hM'
       refine sm hE rfl fun a hE=>sm hE rfl fun a hE=>?_
       obtain ⟨cx163,hx163⟩ := own_rd (hM.get 2 rfl)
       refine qu (j := q) hE rfl hx163 rfl slt77 (by first | rfl | omega) (by omega) rfl fun a p163 hE hc163 hp163=>?_
       have hlj163 : q < (usedL ((stT y ts ts.length).1)).length := (by omega)
       have hok163 := usedL_lt _ (getD_mem (d := 0) hlj163)
       rw [flat_elem (d := 0) (fun x hx => (show (intC _).length = 1 from rfl)) hlj163] at hc163
       replace hc163 : (cellsAt _ [.int .i64 ((((usedL ((stT y ts ts.length).1)).getD q 0) : Nat) : Int)]).holds _ := hc163
       refine qt hE rfl hc163 one3 (by intro X h;cases h;first | (simp;done) | (intro b hb hx;exact hx.2.2 (rdB_sub (hp100 _ hb)))) rfl fun a hE=>?_
       rcases usedL_four (h := (stT y ts ts.length).1) (i := q) (by omega) with hcas2 | hcas2 | hcas2 | hcas2
       ·have hup := used_up (h := (stT y ts ts.length).1) (q := q) (k := k) (by omega) (by omega)
        rw [hcas2,hcase] at hup
        exact absurd hup (by decide)
       ·have hup := used_up (h := (stT y ts ts.length).1) (q := q) (k := k) (by omega) (by omega)
        rw [hcas2,hcase] at hup
        exact absurd hup (by decide)
       ·have hup := used_up (h := (stT y ts ts.length).1) (q := q) (k := k) (by omega) (by omega)
        rw [hcas2,hcase] at hup
        exact absurd hup (by decide)
       ·have hup := used_up (h := (stT y ts ts.length).1) (q := q) (k := k) (by omega) (by omega)
        rw [hcas2,hcase] at hup
        exact absurd hup (by decide)
      ·replace hb158 := of_decide_eq_false hb158
       replace hb158 : ¬ (q < k) := by omega
       obtain rfl : k = q := by omega
       refine wcf hE rfl (wp_exit (qc (qc (qg (qe (K15 (wpp (sm hE rfl fun a hE=>sb hE rfl rfl (show Bin _ _ _ _ _ (.int .i64 ((k + 1 : Nat) : Int)) from bin_add (by rw [wrap_i64 (by omega) (by omega)];omega)) fun a hE=>?_))))))))
       refine sas hE rfl fun a hE=>qa ?_
       replace hE := hE.cast 15 rfl (show _ = Value.int .i64 (((k + 1) : Nat) : Int) from (congrArg _ (by omega)))
       replace hM : Mem _ _ w17 [_,_,_,_,_,_,_] := hM.pick [2,3,4,5,6,7,8] rfl
       exact ⟨k + 1,⟨by omega,hE.sel [1,2,4,5,6,7,14,15,23,29] rfl,hM⟩,by omega⟩
    ·replace hE := hE.cast 92 rfl (show _ = Value.int .i64 1 from congrArg (fun q : Nat => Value.int .i64 (q : Int)) hcase)
     have hus : (getS (stT y ts ts.length).1 1).1 = true := usedL_getS (by have hm := usedL_mem (h := (stT y ts ts.length).1) (i := k) (by omega);rw [hcase] at hm;exact hm)
     obtain ⟨f1,f2,f3,f4,f5⟩ := inv_open hl_y (inv_all ts.length) (by decide) hus
     simp only [getS,getI] at f1 f2 f3 f4 f5
     refine sf hE rfl fo62_2 fun a hE=>qp (j := 1) hE rfl rfl arr60 rfl (by decide) rfl fun a hE=>?_
     refine ql hE rfl (hM.get 2 rfl) row59 rfl (by intro X h;cases h) rfl fun a hE=>?_
     replace hE := hE.cast 95 rfl (show _ = Value.agg ([[.bool (((stT y ts ts.length).1).s1.1)],[.int .i64 (((stT y ts ts.length).1).s1.2.1)],bv (((stT y ts ts.length).1).s1.2.2.1),bv (((stT y ts ts.length).1).s1.2.2.2.1),bv (((stT y ts ts.length).1).s1.2.2.2.2)] : List (List Value)).flatten.toArray from (by first | rfl | simp only [List.flatten_cons,List.flatten_nil,List.append_nil,List.append_assoc]))
     refine qo [1,1,16,32,32] hE hM zeroL59 rfl rfl fun a b16 w9 hE hM=>?_
     have hsl1125_2 : (((stT y ts ts.length).1).s1.2.2.1).length = 16 := ((stT_ok hl_y ho_ts ts.length).1).s1.2.1
     have hsl1125_3 : (((stT y ts ts.length).1).s1.2.2.2.1).length = 32 := ((stT_ok hl_y ho_ts ts.length).1).s1.2.2.1
     have hsl1125_4 : (((stT y ts ts.length).1).s1.2.2.2.2).length = 32 := ((stT_ok hl_y ho_ts ts.length).1).s1.2.2.2
     refine qq 0 5 (vss := [[.bool (((stT y ts ts.length).1).s1.1)],[.int .i64 (((stT y ts ts.length).1).s1.2.1)],bv (((stT y ts ts.length).1).s1.2.2.1),bv (((stT y ts ts.length).1).s1.2.2.2.1),bv (((stT y ts ts.length).1).s1.2.2.2.2)]) hE rfl rfl hM rfl sz59 (by simp only [List.take_succ_cons,List.take_zero,List.drop_zero,List.drop_succ_cons];simp only [List.map_cons,List.map_nil,vh,List.length_cons,List.length_nil,List.length_replicate,hsl1125_2,hsl1125_3,hsl1125_4]) (by decide) rfl (one_fl ⟨one1 rfl,one1 rfl,vc _,vc _,vc _,trivial⟩) rfl (by intro X h;cases h) fun w10 hM=>?_
     try simp only [List.take_zero,List.take_succ_cons,List.drop_zero,List.drop_succ_cons,List.take_nil,List.drop_nil,List.nil_append,List.append_nil,List.cons_append] at hM
     refine qa (K16 ?_)
     refine wp_seq_j (fun a w' => ∃ (b17 : Nat),Env a 173 [(1,vt),(2,.pointer (some ⟨b2,0,none⟩)),(4,.bool false),(5,.pointer (some ⟨b5,0,none⟩)),(6,.pointer (some ⟨b6,0,none⟩)),(7,.int .i64 ((ts.length : Nat) : Int)),(14,v82_0),(15,.int .i64 ((k : Nat) : Int)),(16,.pointer (some ⟨b16,0,none⟩)),(17,.pointer (some ⟨b17,0,none⟩)),(18,.int .i64 (((unl ((stT y ts ts.length).1) (((stT y ts ts.length).2).n1.2.1)).2.1 : Nat) : Int)),(19,.int .i64 (((unl ((stT y ts ts.length).1) (((stT y ts ts.length).2).n1.2.1)).2.2 : Nat) : Int)),(23,.bool false),(29,.bool false),(86,.bool true)] ∧ Mem w [] w' [blk b17 [bv ((unl ((stT y ts ts.length).1) (((stT y ts ts.length).2).n1.2.1)).1)] [32] 23,blk b16 [[.bool (((stT y ts ts.length).1).s1.1)],[.int .i64 (((stT y ts ts.length).1).s1.2.1)],bv (((stT y ts ts.length).1).s1.2.2.1),bv (((stT y ts ts.length).1).s1.2.2.2.1),bv (((stT y ts ts.length).1).s1.2.2.2.2)] [1,1,16,32,32] 59,own v82_0 1 ((usedL ((stT y ts ts.length).1)).length) ((usedL ((stT y ts ts.length).1)).flatMap intC),blk b6 [bv (((stT y ts ts.length).2).n0.1),[.string (str ((stT y ts ts.length).2).n0.2.1)],bv (((stT y ts ts.length).2).n0.2.2.1),[.int .i64 (((stT y ts ts.length).2).n0.2.2.2)],bv (((stT y ts ts.length).2).n1.1),[.string (str ((stT y ts ts.length).2).n1.2.1)],bv (((stT y ts ts.length).2).n1.2.2.1),[.int .i64 (((stT y ts ts.length).2).n1.2.2.2)],bv (((stT y ts ts.length).2).n2.1),[.string (str ((stT y ts ts.length).2).n2.2.1)],bv (((stT y ts ts.length).2).n2.2.2.1),[.int .i64 (((stT y ts ts.length).2).n2.2.2.2)],bv (((stT y ts ts.length).2).n3.1),[.string (str ((stT y ts ts.length).2).n3.2.1)],bv (((stT y ts ts.length).2).n3.2.2.1),[.int .i64 (((stT y ts ts.length).2).n3.2.2.2)]] [32,1,16,1,32,1,16,1,32,1,16,1,32,1,16,1] 87,blk b5 [[.int .i64 (((stT y ts ts.length).1).m)],[.int .i64 (((stT y ts ts.length).1).r)],[.bool (((stT y ts ts.length).1).v0.1)],[.int .u64 ((((stT y ts ts.length).1).v0.2.1 : Nat) : Int)],bv (((stT y ts ts.length).1).v0.2.2.1),bv (((stT y ts ts.length).1).v0.2.2.2),[.bool (((stT y ts ts.length).1).v1.1)],[.int .u64 ((((stT y ts ts.length).1).v1.2.1 : Nat) : Int)],bv (((stT y ts ts.length).1).v1.2.2.1),bv (((stT y ts ts.length).1).v1.2.2.2),[.bool (((stT y ts ts.length).1).s0.1)],[.int .i64 (((stT y ts ts.length).1).s0.2.1)],bv (((stT y ts ts.length).1).s0.2.2.1),bv (((stT y ts ts.length).1).s0.2.2.2.1),bv (((stT y ts ts.length).1).s0.2.2.2.2),[.bool (((stT y ts ts.length).1).s1.1)],[.int .i64 (((stT y ts ts.length).1).s1.2.1)],bv (((stT y ts ts.length).1).s1.2.2.1),bv (((stT y ts ts.length).1).s1.2.2.2.1),bv (((stT y ts ts.length).1).s1.2.2.2.2),[.bool (((stT y ts ts.length).1).s2.1)],[.int .i64 (((stT y ts ts.length).1).s2.2.1)],bv (((stT y ts ts.length).1).s2.2.2.1),bv (((stT y ts ts.length).1).s2.2.2.2.1),bv (((stT y ts ts.length).1).s2.2.2.2.2),[.bool (((stT y ts ts.length).1).s3.1)],[.int .i64 (((stT y ts ts.length).1).s3.2.1)],bv (((stT y ts ts.length).1).s3.2.2.1),bv (((stT y ts ts.length).1).s3.2.2.2.1),bv (((stT y ts ts.length).1).s3.2.2.2.2)] [1,1,1,1,32,32,1,1,32,32,1,1,16,32,32,1,1,16,32,32,1,1,16,32,32,1,1,16,32,32] 62,blk b2 [bv y] [32] 23,rd vt 52 ts.length ct (ts.flatMap tnC),glb 1,tabP]) ?_ ?_
     ·refine qz hM (by kernel_rfl) (fun _ => True) (fun _ => True) (.re [(1,true),(2,true),(3,true),(0,true),(4,true),(5,true),(6,true),(7,true),(8,false),(9,true),(10,true),(11,true),(12,true),(13,false),(14,false),(15,true),(16,true)] (.fl 3 (.weak (.fl 5 (.or 8 (.re [(9,true),(10,true),(11,true),(12,true),(13,false),(14,false),(15,true),(16,true)] (.fl 4 (.fl 0 (.or 13 (.re [(14,false),(15,true),(16,true)] (.fl 0 (.fl 0 (.or 14 (.re [(15,true),(16,true)] (.leaf 2)) (.stop))))) (.stop))))) (.or 13 (.cut (.re [(8,false),(9,true),(10,true),(11,true),(12,true),(14,false),(15,true),(16,true)] (.fl 0 (.fl 0 (.or 8 (.re [(9,true),(10,true),(11,true),(12,true),(14,false),(15,true),(16,true)] (.fl 4 (.fl 0 (.weak (.or 14 (.re [(15,true),(16,true)] (.leaf 2)) (.stop)))))) (.stop)))))) (.stop))))))) [(1,true),(2,true),(3,true),(0,true),(4,true),(5,true),(6,true),(7,true),(8,false),(9,true),(10,true),(11,true),(12,true),(13,false),(14,false),(15,true),(16,true)] [(0,[(8,0),(9,8),(10,9),(11,9),(12,9),(14,0),(15,0),(16,0)]),(3,[(4,3),(5,4),(6,5),(7,6),(8,7),(9,8),(10,9),(11,9),(12,9),(14,3),(15,3),(16,3)]),(4,[(5,4),(6,5),(7,6),(8,7),(9,8),(10,9),(11,9),(12,9),(14,4),(15,4),(16,4)]),(5,[(6,5),(7,6),(8,7),(9,8),(10,9),(11,9),(12,9),(14,5),(15,5),(16,5)]),(6,[(7,6),(8,7),(9,8),(10,9),(11,9),(12,9),(14,6),(15,6),(16,6)]),(7,[(8,7),(9,8),(10,9),(11,9),(12,9),(14,7),(15,7),(16,7)]),(8,[(9,8),(10,9),(11,9),(12,9),(14,8),(15,8),(16,8)]),(13,[(14,13),(15,13),(16,13)]),(14,[(15,14),(16,14)])] (by kernel_rfl) ?_
      intro w11 hM' hww11;replace hM := hM'
      refine o_re (o_fl rfl (sm hE rfl fun a hE=>sm hE rfl fun a hE=>?_))
      obtain ⟨cx100,hx100⟩ := own_rd (hM.get 1 rfl)
      refine qu (j := k) hE rfl hx100 rfl slt77 (by first | rfl | omega) (by omega) rfl fun a p100 hE hc100 hp100=>?_
      have hlj100 : k < (usedL ((stT y ts ts.length).1)).length := (by omega)
      have hok100 := usedL_lt _ (getD_mem (d := 0) hlj100)
      rw [flat_elem (d := 0) (fun x hx => (show (intC _).length = 1 from rfl)) hlj100] at hc100
      refine qa (qh (vb (fun b => b ≠ b5 ∧ b ≠ b6 ∧ b ∉ valBlocks v82_0) (fun _ _ => trivial) (o_fl rfl ?_)))
      refine ql hE rfl (hM.get 3 rfl) row62 rfl (by intro X h;cases h;first | (simp;done) | (intro b hb hx;exact hx.2.2 (rdB_sub (hp100 _ hb)))) rfl fun a hE=>?_
      replace hE := hE.cast 97 rfl (show _ = Value.agg ([[.int .i64 (((stT y ts ts.length).1).m)],[.int .i64 (((stT y ts ts.length).1).r)],[.bool (((stT y ts ts.length).1).v0.1)],[.int .u64 ((((stT y ts ts.length).1).v0.2.1 : Nat) : Int)],bv (((stT y ts ts.length).1).v0.2.2.1),bv (((stT y ts ts.length).1).v0.2.2.2),[.bool (((stT y ts ts.length).1).v1.1)],[.int .u64 ((((stT y ts ts.length).1).v1.2.1 : Nat) : Int)],bv (((stT y ts ts.length).1).v1.2.2.1),bv (((stT y ts ts.length).1).v1.2.2.2),[.bool (((stT y ts ts.length).1).s0.1)],[.int .i64 (((stT y ts ts.length).1).s0.2.1)],bv (((stT y ts ts.length).1).s0.2.2.1),bv (((stT y ts ts.length).1).s0.2.2.2.1),bv (((stT y ts ts.length).1).s0.2.2.2.2),[.bool (((stT y ts ts.length).1).s1.1)],[.int .i64 (((stT y ts ts.length).1).s1.2.1)],bv (((stT y ts ts.length).1).s1.2.2.1),bv (((stT y ts ts.length).1).s1.2.2.2.1),bv (((stT y ts ts.length).1).s1.2.2.2.2),[.bool (((stT y ts ts.length).1).s2.1)],[.int .i64 (((stT y ts ts.length).1).s2.2.1)],bv (((stT y ts ts.length).1).s2.2.2.1),bv (((stT y ts ts.length).1).s2.2.2.2.1),bv (((stT y ts ts.length).1).s2.2.2.2.2),[.bool (((stT y ts ts.length).1).s3.1)],[.int .i64 (((stT y ts ts.length).1).s3.2.1)],bv (((stT y ts ts.length).1).s3.2.2.1),bv (((stT y ts ts.length).1).s3.2.2.2.1),bv (((stT y ts ts.length).1).s3.2.2.2.2)] : List (List Value)).flatten.toArray from (by first | rfl | simp only [List.flatten_cons,List.flatten_nil,List.append_nil,List.append_assoc]))
      replace hc100 : (cellsAt _ [.int .i64 ((((usedL ((stT y ts ts.length).1)).getD k 0) : Nat) : Int)]).holds _ := hc100
      refine qt hE rfl hc100 one3 (by intro X h;cases h;first | (simp;done) | (intro b hb hx;exact hx.2.2 (rdB_sub (hp100 _ hb)))) rfl fun a hE=>?_
      replace hE := hE.cast 101 rfl (show _ = Value.int .i64 1 from congrArg (fun q : Nat => Value.int .i64 (q : Int)) hcase)
      refine qp (j := 1) hE rfl rfl arr87 rfl (by decide) rfl fun a hE=>?_
      refine sf hE rfl fo84_1 fun a hE=>?_
      refine qm hE rfl (hM.get 2 rfl) rfl one9 (by intro X h;cases h;first | (simp;done) | (intro b hb hx;exact hx.2.2 (rdB_sub (hp100 _ hb)))) rfl fun a hE=>?_
      refine qa (qh ?_)
      refine o_or rfl ?_ ?_
      ·refine qn hE rfl Tryd.call29 (unlock_c ((stT y ts ts.length).1) (((stT y ts ts.length).2).n1.2.1) _ (hM.get 6 rfl) (hM.get 7 rfl) ((stT_ok hl_y ho_ts ts.length).1)) rfl ?_
       rintro e w12 ⟨rfl,hN⟩
       refine ⟨_,rfl,hN.sta0 _,fun a hE=>?_⟩
       replace hM : Mem _ _ w12 [_,_,_,_,_,_,_,_] := hM.call0 hN trivial;clear hN
       refine qa (qh (o_re (o_fl rfl (sm hE rfl fun a hE=>sx hE rfl fun a hE=>sx hE rfl fun a hE=>sx hE rfl fun a hE=>qa (qh (o_fl rfl (qa (qh ?_))))))))
       refine o_or rfl ?_ ?_
       ·refine qo [32] hE hM zero23 rfl rfl fun a b17 w13 hE hM=>qa (qh (o_re (o_fl rfl (qa (qh (o_fl rfl (qa (qh ?_))))))))
        refine o_or rfl ?_ ?_
        ·refine qr 0 hE rfl rfl hM rfl sz23 ((vh _).trans (unl_len ((stT_ok hl_y ho_ts ts.length).1) (((stT y ts ts.length).2).n1.2.1))) (vc _) rfl ((vh _).trans (by first | (simp;done) | (simp [*];done) | (simp;omega))) rfl (by intro X h;cases h;exact ⟨fun e => ((apart_of_get hM.apart (i := 0) (j := 4) rfl rfl (by decide)).1 _ (.head _)).1 (by rw [e];exact .head _),fun e => ((apart_of_get hM.apart (i := 0) (j := 3) rfl rfl (by decide)).1 _ (.head _)).1 (by rw [e];exact .head _),fun hv => ((apart_of_get hM.apart (i := 0) (j := 2) rfl rfl (by decide)).1 _ (.head _)).1 hv⟩) ?_;intro w14 hM
         simp only [List.set_cons_zero,List.set_cons_succ] at hM
         refine qa (qh (o_re (va rfl rfl (sas hE rfl fun a hE=>sas hE rfl fun a hE=>qa (q_ph (qa ?_))))))
         replace hM : Mem _ _ w14 [_,_,_,_,_,_,_,_,_] := hM.pick [0,1,2,3,4,5,6,7,8] rfl
         refine qd ⟨_,hE.sel [1,2,4,5,6,7,14,15,16,17,18,19,23,29,86] rfl,hM⟩
        trivial
       trivial
      refine o_or rfl ?_ ?_
      ·refine qo [32] hE hM zero23 rfl rfl fun a b17 w12 hE hM=>qa (qh (o_cut (fun _ => True) (o_re (o_fl rfl (qa (qh (o_fl rfl (qa (qh ?_)))))))))
       refine o_or rfl ?_ ?_
       ·refine qn hE rfl Tryd.call29 (unlock_c ((stT y ts ts.length).1) (((stT y ts ts.length).2).n1.2.1) _ (hM.get 7 rfl) (hM.get 8 rfl) ((stT_ok hl_y ho_ts ts.length).1)) rfl ?_
        rintro e w13 ⟨rfl,hN⟩
        refine ⟨_,rfl,hN.sta0 _,fun a hE=>?_⟩
        replace hM : Mem _ _ w13 [_,_,_,_,_,_,_,_,_] := hM.call0 hN trivial;clear hN
        refine qa (qh (o_re (o_fl rfl (sm hE rfl fun a hE=>sx hE rfl fun a hE=>sx hE rfl fun a hE=>sx hE rfl fun a hE=>qa (qh (o_fl rfl (qa (qh ?_))))))))
        refine vb (fun b => b = b17) (fun _ _ => trivial) ?_
        refine o_or rfl ?_ ?_
        ·refine qr 0 hE rfl rfl hM rfl sz23 ((vh _).trans (unl_len ((stT_ok hl_y ho_ts ts.length).1) (((stT y ts ts.length).2).n1.2.1))) (vc _) rfl ((vh _).trans (by first | (simp;done) | (simp [*];done) | (simp;omega))) rfl (by intro X h;cases h;rfl) fun w14 hM=>?_
         simp only [List.set_cons_zero,List.set_cons_succ] at hM
         refine qa (qh (o_re (va rfl rfl (sas hE rfl fun a hE=>sas hE rfl fun a hE=>qa (q_ph (qa ?_))))))
         replace hM : Mem _ _ w14 [_,_,_,_,_,_,_,_,_] := hM.pick [0,1,2,3,4,5,6,7,8] rfl
         refine qd ⟨_,hE.sel [1,2,4,5,6,7,14,15,16,17,18,19,23,29,86] rfl,hM⟩
        trivial
       trivial
      trivial
     rintro a w15 ⟨b17,hE,hM⟩
     refine ww1 fun _ K17=>ww1 fun _ K18=>wp_drawnM hM (by kernel_rfl) (fun _ => False) [(0,true),(1,true),(2,true),(3,true),(4,true),(5,true),(6,true),(7,true),(8,true),(9,true),(10,true),(11,true),(12,true),(13,true),(14,true),(15,true),(16,true),(17,true),(18,true),(19,true),(20,true),(21,true),(22,true),(23,true),(24,true),(25,true),(26,true),(27,true),(28,true),(29,true),(30,true),(31,true),(32,true),(33,true),(34,true),(35,true),(36,true),(37,true),(38,true),(39,true),(40,true),(41,true),(42,true),(43,true),(44,true),(45,true),(46,true)] [] (by kernel_rfl) rfl ?_
     intro w16 hM' hww16;replace hM := hM'
     refine sf hE rfl fo59_2 fun a hE=>?_
     refine ql hE rfl (hM.get 1 rfl) row57 rfl (by intro X h;cases h;first | (simp;done) | (intro b hb hx;exact hx.2.2 (rdB_sub (hp100 _ hb)))) rfl fun a hE=>?_
     refine sm hE rfl fun a hE=>sm hE rfl fun a hE=>?_
     obtain ⟨cx113,hx113⟩ := own_rd (hM.get 2 rfl)
     refine qu (j := k) hE rfl hx113 rfl slt77 (by first | rfl | omega) (by omega) rfl fun a p113 hE hc113 hp113=>?_
     have hlj113 : k < (usedL ((stT y ts ts.length).1)).length := (by omega)
     have hok113 := usedL_lt _ (getD_mem (d := 0) hlj113)
     rw [flat_elem (d := 0) (fun x hx => (show (intC _).length = 1 from rfl)) hlj113] at hc113
     replace hc113 : (cellsAt _ [.int .i64 ((((usedL ((stT y ts ts.length).1)).getD k 0) : Nat) : Int)]).holds _ := hc113
     refine qt hE rfl hc113 one3 (by intro X h;cases h;first | (simp;done) | (intro b hb hx;exact hx.2.2 (rdB_sub (hp100 _ hb)))) rfl fun a hE=>?_
     replace hE := hE.cast 114 rfl (show _ = Value.int .i64 1 from congrArg (fun q : Nat => Value.int .i64 (q : Int)) hcase)
     refine qp (j := 1) hE rfl rfl arr87 rfl (by decide) rfl fun a hE=>?_
     refine sf hE rfl fo84_2 fun a hE=>?_
     refine ql hE rfl (hM.get 3 rfl) row57 rfl (by intro X h;cases h;first | (simp;done) | (intro b hb hx;exact hx.2.2 (rdB_sub (hp100 _ hb)))) rfl fun a hE=>?_
     refine s_bin hE rfl rfl (eqa57 ((stT_ok hl_y ho_ts ts.length).1).s1.2.1 ((stT_ok hl_y ho_ts ts.length).2).n1.2.1).2 rfl fun a hE=>sm hE rfl fun a hE=>?_
     replace hE := hE.cast 119 rfl (show _ = Value.bool false from (congrArg Value.bool (by rw [f1];simp)))
     refine gy hE rfl (sf hE rfl fo59_1 fun a hE=>gy hE rfl ?_)
     refine qm hE rfl (hM.get 1 rfl) rfl one3 (by intro X h;cases h;first | (simp;done) | (intro b hb hx;exact hx.2.2 (rdB_sub (hp100 _ hb)))) rfl fun a hE=>?_
     refine gy hE rfl (sm hE rfl fun a hE=>gy hE rfl (sm hE rfl fun a hE=>gy hE rfl ?_))
     obtain ⟨cx124,hx124⟩ := own_rd (hM.get 2 rfl)
     refine qu (j := k) hE rfl hx124 rfl slt77 (by first | rfl | omega) (by omega) rfl fun a p124 hE hc124 hp124=>?_
     have hlj124 : k < (usedL ((stT y ts ts.length).1)).length := (by omega)
     have hok124 := usedL_lt _ (getD_mem (d := 0) hlj124)
     rw [flat_elem (d := 0) (fun x hx => (show (intC _).length = 1 from rfl)) hlj124] at hc124
     refine gy hE rfl ?_
     replace hc124 : (cellsAt _ [.int .i64 ((((usedL ((stT y ts ts.length).1)).getD k 0) : Nat) : Int)]).holds _ := hc124
     refine qt hE rfl hc124 one3 (by intro X h;cases h;first | (simp;done) | (intro b hb hx;exact hx.2.2 (rdB_sub (hp100 _ hb)))) rfl fun a hE=>?_
     replace hE := hE.cast 125 rfl (show _ = Value.int .i64 1 from congrArg (fun q : Nat => Value.int .i64 (q : Int)) hcase)
     refine gy hE rfl (qp (j := 1) hE rfl rfl arr87 rfl (by decide) rfl fun a hE=>?_)
     refine gy hE rfl (sf hE rfl fo84_3 fun a hE=>gy hE rfl ?_)
     refine qm hE rfl (hM.get 3 rfl) rfl one3 (by intro X h;cases h;first | (simp;done) | (intro b hb hx;exact hx.2.2 (rdB_sub (hp100 _ hb)))) rfl fun a hE=>?_
     refine gy hE rfl (sb hE rfl rfl bin_neq fun a hE=>pkf hE rfl fun a hE=>sm hE rfl fun a hE=>?_)
     replace hE := hE.cast 131 rfl (show _ = Value.bool false from (congrArg Value.bool (by rw [f2];simp)))
     refine gy hE rfl (sm hE rfl fun a hE=>gy hE rfl (sb hE rfl rfl bin_neq fun a hE=>pkf hE rfl fun a hE=>sm hE rfl fun a hE=>?_))
     replace hE := hE.cast 135 rfl (show _ = Value.bool false from (congrArg Value.bool (by rw [f3];rfl)))
     refine gy hE rfl (sm hE rfl fun a hE=>gy hE rfl (sm hE rfl fun a hE=>gy hE rfl (sm hE rfl fun a hE=>gy hE rfl ?_)))
     obtain ⟨cx139,hx139⟩ := own_rd (hM.get 2 rfl)
     refine qu (j := k) hE rfl hx139 rfl slt77 (by first | rfl | omega) (by omega) rfl fun a p139 hE hc139 hp139=>?_
     have hlj139 : k < (usedL ((stT y ts ts.length).1)).length := (by omega)
     have hok139 := usedL_lt _ (getD_mem (d := 0) hlj139)
     rw [flat_elem (d := 0) (fun x hx => (show (intC _).length = 1 from rfl)) hlj139] at hc139
     refine gy hE rfl ?_
     replace hc139 : (cellsAt _ [.int .i64 ((((usedL ((stT y ts ts.length).1)).getD k 0) : Nat) : Int)]).holds _ := hc139
     refine qt hE rfl hc139 one3 (by intro X h;cases h;first | (simp;done) | (intro b hb hx;exact hx.2.2 (rdB_sub (hp100 _ hb)))) rfl fun a hE=>?_
     replace hE := hE.cast 140 rfl (show _ = Value.int .i64 1 from congrArg (fun q : Nat => Value.int .i64 (q : Int)) hcase)
     refine gy hE rfl (sb hE rfl rfl bin_gtr fun a hE=>pkf hE rfl fun a hE=>sm hE rfl fun a hE=>?_)
     replace hE := hE.cast 143 rfl (show _ = Value.bool false from (congrArg Value.bool (decide_eq_false (by omega))))
     refine gy hE rfl (sm hE rfl fun a hE=>gy hE rfl (sm hE rfl fun a hE=>gy hE rfl (sm hE rfl fun a hE=>gy hE rfl ?_)))
     obtain ⟨cx147,hx147⟩ := own_rd (hM.get 2 rfl)
     refine qu (j := k) hE rfl hx147 rfl slt77 (by first | rfl | omega) (by omega) rfl fun a p147 hE hc147 hp147=>?_
     have hlj147 : k < (usedL ((stT y ts ts.length).1)).length := (by omega)
     have hok147 := usedL_lt _ (getD_mem (d := 0) hlj147)
     rw [flat_elem (d := 0) (fun x hx => (show (intC _).length = 1 from rfl)) hlj147] at hc147
     refine gy hE rfl ?_
     replace hc147 : (cellsAt _ [.int .i64 ((((usedL ((stT y ts ts.length).1)).getD k 0) : Nat) : Int)]).holds _ := hc147
     refine qt hE rfl hc147 one3 (by intro X h;cases h;first | (simp;done) | (intro b hb hx;exact hx.2.2 (rdB_sub (hp100 _ hb)))) rfl fun a hE=>?_
     replace hE := hE.cast 148 rfl (show _ = Value.int .i64 1 from congrArg (fun q : Nat => Value.int .i64 (q : Int)) hcase)
     refine gy hE rfl (sb hE rfl rfl bin_eql fun a hE=>gy hE rfl (sm hE rfl fun a hE=>?_))
     refine hE.split 150 rfl (fun hb150 hE=>?_) (fun hb150 hE=>?_)
     ·replace hb150 := of_decide_eq_true hb150
      replace hb150 : ((unl ((stT y ts ts.length).1) (((stT y ts ts.length).2).n1.2.1)).2.1) = 1 := by omega
      refine gy hE rfl ?_
      refine ql hE rfl (hM.get 0 rfl) row23 rfl (by intro X h;cases h;first | (simp;done) | (intro b hb hx;exact hx.2.2 (rdB_sub (hp100 _ hb)))) rfl fun a hE=>?_
      refine gy hE rfl ?_
      refine ql hE rfl (hM.get 5 rfl) row23 rfl (by intro X h;cases h;first | (simp;done) | (intro b hb hx;exact hx.2.2 (rdB_sub (hp100 _ hb)))) rfl fun a hE=>?_
      refine gy hE rfl (s_bin hE rfl rfl (eqa23 (unl_len ((stT_ok hl_y ho_ts ts.length).1) (((stT y ts ts.length).2).n1.2.1)) hl_y).2 rfl fun a hE=>gy hE rfl (pkt hE rfl fun a hE=>pkf hE rfl fun a hE=>qa (K18 ?_)))
      replace hE := hE.cast 155 rfl (show _ = Value.bool false from (congrArg Value.bool (by rw [f5 (by omega)];simp)))
      refine wcf hE rfl (wp_skip (K17 (ww1 fun _ K19=>wpp (sas hE rfl fun a hE=>qa (K19 (wp_block (c_loop (fun (q : Nat) a w' => q ≤ k ∧ Env a 173 [(1,vt),(2,.pointer (some ⟨b2,0,none⟩)),(4,.bool false),(5,.pointer (some ⟨b5,0,none⟩)),(6,.pointer (some ⟨b6,0,none⟩)),(7,.int .i64 ((ts.length : Nat) : Int)),(14,v82_0),(15,.int .i64 ((k : Nat) : Int)),(16,.pointer (some ⟨b16,0,none⟩)),(17,.pointer (some ⟨b17,0,none⟩)),(18,.int .i64 (((unl ((stT y ts ts.length).1) (((stT y ts ts.length).2).n1.2.1)).2.1 : Nat) : Int)),(19,.int .i64 (((unl ((stT y ts ts.length).1) (((stT y ts ts.length).2).n1.2.1)).2.2 : Nat) : Int)),(20,.int .i64 ((q : Nat) : Int)),(23,.bool false),(29,.bool false),(86,.bool true),(155,.bool false)] ∧ Mem w [] w' [blk b17 [bv ((unl ((stT y ts ts.length).1) (((stT y ts ts.length).2).n1.2.1)).1)] [32] 23,blk b16 [[.bool (((stT y ts ts.length).1).s1.1)],[.int .i64 (((stT y ts ts.length).1).s1.2.1)],bv (((stT y ts ts.length).1).s1.2.2.1),bv (((stT y ts ts.length).1).s1.2.2.2.1),bv (((stT y ts ts.length).1).s1.2.2.2.2)] [1,1,16,32,32] 59,own v82_0 1 ((usedL ((stT y ts ts.length).1)).length) ((usedL ((stT y ts ts.length).1)).flatMap intC),blk b6 [bv (((stT y ts ts.length).2).n0.1),[.string (str ((stT y ts ts.length).2).n0.2.1)],bv (((stT y ts ts.length).2).n0.2.2.1),[.int .i64 (((stT y ts ts.length).2).n0.2.2.2)],bv (((stT y ts ts.length).2).n1.1),[.string (str ((stT y ts ts.length).2).n1.2.1)],bv (((stT y ts ts.length).2).n1.2.2.1),[.int .i64 (((stT y ts ts.length).2).n1.2.2.2)],bv (((stT y ts ts.length).2).n2.1),[.string (str ((stT y ts ts.length).2).n2.2.1)],bv (((stT y ts ts.length).2).n2.2.2.1),[.int .i64 (((stT y ts ts.length).2).n2.2.2.2)],bv (((stT y ts ts.length).2).n3.1),[.string (str ((stT y ts ts.length).2).n3.2.1)],bv (((stT y ts ts.length).2).n3.2.2.1),[.int .i64 (((stT y ts ts.length).2).n3.2.2.2)]] [32,1,16,1,32,1,16,1,32,1,16,1,32,1,16,1] 87,blk b5 [[.int .i64 (((stT y ts ts.length).1).m)],[.int .i64 (((stT y ts ts.length).1).r)],[.bool (((stT y ts ts.length).1).v0.1)],[.int .u64 ((((stT y ts ts.length).1).v0.2.1 : Nat) : Int)],bv (((stT y ts ts.length).1).v0.2.2.1),bv (((stT y ts ts.length).1).v0.2.2.2),[.bool (((stT y ts ts.length).1).v1.1)],[.int .u64 ((((stT y ts ts.length).1).v1.2.1 : Nat) : Int)],bv (((stT y ts ts.length).1).v1.2.2.1),bv (((stT y ts ts.length).1).v1.2.2.2),[.bool (((stT y ts ts.length).1).s0.1)],[.int .i64 (((stT y ts ts.length).1).s0.2.1)],bv (((stT y ts ts.length).1).s0.2.2.1),bv (((stT y ts ts.length).1).s0.2.2.2.1),bv (((stT y ts ts.length).1).s0.2.2.2.2),[.bool (((stT y ts ts.length).1).s1.1)],[.int .i64 (((stT y ts ts.length).1).s1.2.1)],bv (((stT y ts ts.length).1).s1.2.2.1),bv (((stT y ts ts.length).1).s1.2.2.2.1),bv (((stT y ts ts.length).1).s1.2.2.2.2),[.bool (((stT y ts ts.length).1).s2.1)],[.int .i64 (((stT y ts ts.length).1).s2.2.1)],bv (((stT y ts ts.length).1).s2.2.2.1),bv (((stT y ts ts.length).1).s2.2.2.2.1),bv (((stT y ts ts.length).1).s2.2.2.2.2),[.bool (((stT y ts ts.length).1).s3.1)],[.int .i64 (((stT y ts ts.length).1).s3.2.1)],bv (((stT y ts ts.length).1).s3.2.2.1),bv (((stT y ts ts.length).1).s3.2.2.2.1),bv (((stT y ts ts.length).1).s3.2.2.2.2)] [1,1,1,1,32,32,1,1,32,32,1,1,16,32,32,1,1,16,32,32,1,1,16,32,32,1,1,16,32,32] 62,blk b2 [bv y] [32] 23,rd vt 52 ts.length ct (ts.flatMap tnC),glb 1,tabP]) (fun q => k - q) 0 ⟨Nat.zero_le _,hE.sel [1,2,4,5,6,7,14,15,16,17,18,19,20,23,29,86,155] rfl,hM⟩ ?_)))))))
      rintro q a w17 ⟨hq,hE,hM⟩
      refine ww1 fun _ K20=>ww1 fun _ K21=>wpp (sm hE rfl fun a hE=>sm hE rfl fun a hE=>sb hE rfl rfl bin_lss fun a hE=>qa (K21 ?_))
      refine hE.split 158 rfl (fun hb158 hE=>?_) (fun hb158 hE=>?_)
      ·replace hb158 := of_decide_eq_true hb158
       replace hb158 : q < k := by omega
       replace hb158 : q < k := by omega
       refine wct hE rfl (wp_skip (K20 (ww1 fun _ K22=>wp_block (ww1 fun _ K23=>wp_drawnM hM (by kernel_rfl) (fun _ => False) [(0,true),(1,true),(2,true),(3,true),(4,true),(5,true),(6,true),(7,true),(8,true),(9,true),(10,true)] [] (by kernel_rfl) rfl ?_))))
       intro w18 hM' hww18;replace hM := hM'
       refine sm hE rfl fun a hE=>sm hE rfl fun a hE=>?_
       obtain ⟨cx163,hx163⟩ := own_rd (hM.get 2 rfl)
       refine qu (j := q) hE rfl hx163 rfl slt77 (by first | rfl | omega) (by omega) rfl fun a p163 hE hc163 hp163=>?_
       have hlj163 : q < (usedL ((stT y ts ts.length).1)).length := (by omega)
       have hok163 := usedL_lt _ (getD_mem (d := 0) hlj163)
       rw [flat_elem (d := 0) (fun x hx => (show (intC _).length = 1 from rfl)) hlj163] at hc163
       replace hc163 : (cellsAt _ [.int .i64 ((((usedL ((stT y ts ts.length).1)).getD q 0) : Nat) : Int)]).holds _ := hc163
       refine qt hE rfl hc163 one3 (by intro X h;cases h;first | (simp;done) | (intro b hb hx;exact hx.2.2 (rdB_sub (hp100 _ hb)))) rfl fun a hE=>?_
       rcases usedL_four (h := (stT y ts ts.length).1) (i := q) (by omega) with hcas2 | hcas2 | hcas2 | hcas2
       ·have hup := used_up (h := (stT y ts ts.length).1) (q := q) (k := k) (by omega) (by omega)
        rw [hcas2,hcase] at hup
        replace hE := hE.cast 164 rfl (show _ = Value.int .i64 0 from congrArg (fun q : Nat => Value.int .i64 (q : Int)) hcas2)
        have hu2 : (getS (stT y ts ts.length).1 0).1 = true := usedL_getS (by have hm := usedL_mem (h := (stT y ts ts.length).1) (i := q) (by omega);rw [hcas2] at hm;exact hm)
        have hfar := (inv_all (a := y) (ts := ts) ts.length).far 0 1 (by decide) (by decide) hu2 hus
        simp only [getS] at hfar
        refine sf hE rfl fo62_2 fun a hE=>qp (j := 0) hE rfl rfl arr60 rfl (by decide) rfl fun a hE=>?_
        refine sf hE rfl fo59_2 fun a hE=>?_
        refine ql hE rfl (hM.get 4 rfl) row57 rfl (by intro X h;cases h;first | (simp;done) | (intro b hb hx;exact hx.2.2 (rdB_sub (hp100 _ hb)))) rfl fun a hE=>?_
        refine sf hE rfl fo59_2 fun a hE=>?_
        refine ql hE rfl (hM.get 1 rfl) row57 rfl (by intro X h;cases h;first | (simp;done) | (intro b hb hx;exact hx.2.2 (rdB_sub (hp100 _ hb)))) rfl fun a hE=>?_
        refine s_bin hE rfl rfl (eqa57 ((stT_ok hl_y ho_ts ts.length).1).s0.2.1 ((stT_ok hl_y ho_ts ts.length).1).s1.2.1).1 rfl fun a hE=>qa (K23 ?_)
        replace hE := hE.cast 171 rfl (show _ = Value.bool false from (congrArg Value.bool (decide_eq_false (fun e => by have := hfar e;omega))))
        refine wcf hE rfl (wp_skip (qe (K22 (wpp (sm hE rfl fun a hE=>sb hE rfl rfl (show Bin _ _ _ _ _ (.int .i64 ((q + 1 : Nat) : Int)) from bin_add (by rw [wrap_i64 (by omega) (by omega)];omega)) fun a hE=>?_)))))
        refine sas hE rfl fun a hE=>qa ?_
        replace hE := hE.cast 20 rfl (show _ = Value.int .i64 (((q + 1) : Nat) : Int) from (congrArg _ (by omega)))
        replace hM : Mem _ _ w18 [_,_,_,_,_,_,_,_,_] := hM.pick [0,1,2,3,4,5,6,7,8] rfl
        exact ⟨q + 1,⟨by omega,hE.sel [1,2,4,5,6,7,14,15,16,17,18,19,20,23,29,86,155] rfl,hM⟩,by omega⟩
       ·have hup := used_up (h := (stT y ts ts.length).1) (q := q) (k := k) (by omega) (by omega)
        rw [hcas2,hcase] at hup
        exact absurd hup (by decide)
       ·have hup := used_up (h := (stT y ts ts.length).1) (q := q) (k := k) (by omega) (by omega)
        rw [hcas2,hcase] at hup
        exact absurd hup (by decide)
       ·have hup := used_up (h := (stT y ts ts.length).1) (q := q) (k := k) (by omega) (by omega)
        rw [hcas2,hcase] at hup
        exact absurd hup (by decide)
      ·replace hb158 := of_decide_eq_false hb158
       replace hb158 : ¬ (q < k) := by omega
       obtain rfl : k = q := by omega
       refine wcf hE rfl (wp_exit (qc (qc (qg (qe (K15 (wpp (sm hE rfl fun a hE=>sb hE rfl rfl (show Bin _ _ _ _ _ (.int .i64 ((k + 1 : Nat) : Int)) from bin_add (by rw [wrap_i64 (by omega) (by omega)];omega)) fun a hE=>?_))))))))
       refine sas hE rfl fun a hE=>qa ?_
       replace hE := hE.cast 15 rfl (show _ = Value.int .i64 (((k + 1) : Nat) : Int) from (congrArg _ (by omega)))
       replace hM : Mem _ _ w17 [_,_,_,_,_,_,_] := hM.pick [2,3,4,5,6,7,8] rfl
       exact ⟨k + 1,⟨by omega,hE.sel [1,2,4,5,6,7,14,15,23,29] rfl,hM⟩,by omega⟩
     ·replace hb150 := of_decide_eq_false hb150
      replace hb150 : ¬ (((unl ((stT y ts ts.length).1) (((stT y ts ts.length).2).n1.2.1)).2.1) = 1) := by omega
      refine gf hE rfl fun a hE=>gf hE rfl fun a hE=>gf hE rfl fun a hE=>gy hE rfl (pkf hE rfl fun a hE=>pkf hE rfl fun a hE=>qa (K18 (wcf hE rfl (wp_skip ?_))))
      refine K17 (ww1 fun _ K19=>wpp (sas hE rfl fun a hE=>qa (K19 (wp_block (c_loop (fun (q : Nat) a w' => q ≤ k ∧ Env a 173 [(1,vt),(2,.pointer (some ⟨b2,0,none⟩)),(4,.bool false),(5,.pointer (some ⟨b5,0,none⟩)),(6,.pointer (some ⟨b6,0,none⟩)),(7,.int .i64 ((ts.length : Nat) : Int)),(14,v82_0),(15,.int .i64 ((k : Nat) : Int)),(16,.pointer (some ⟨b16,0,none⟩)),(17,.pointer (some ⟨b17,0,none⟩)),(18,.int .i64 (((unl ((stT y ts ts.length).1) (((stT y ts ts.length).2).n1.2.1)).2.1 : Nat) : Int)),(19,.int .i64 (((unl ((stT y ts ts.length).1) (((stT y ts ts.length).2).n1.2.1)).2.2 : Nat) : Int)),(20,.int .i64 ((q : Nat) : Int)),(23,.bool false),(29,.bool false),(86,.bool true),(155,.bool false)] ∧ Mem w [] w' [blk b17 [bv ((unl ((stT y ts ts.length).1) (((stT y ts ts.length).2).n1.2.1)).1)] [32] 23,blk b16 [[.bool (((stT y ts ts.length).1).s1.1)],[.int .i64 (((stT y ts ts.length).1).s1.2.1)],bv (((stT y ts ts.length).1).s1.2.2.1),bv (((stT y ts ts.length).1).s1.2.2.2.1),bv (((stT y ts ts.length).1).s1.2.2.2.2)] [1,1,16,32,32] 59,own v82_0 1 ((usedL ((stT y ts ts.length).1)).length) ((usedL ((stT y ts ts.length).1)).flatMap intC),blk b6 [bv (((stT y ts ts.length).2).n0.1),[.string (str ((stT y ts ts.length).2).n0.2.1)],bv (((stT y ts ts.length).2).n0.2.2.1),[.int .i64 (((stT y ts ts.length).2).n0.2.2.2)],bv (((stT y ts ts.length).2).n1.1),[.string (str ((stT y ts ts.length).2).n1.2.1)],bv (((stT y ts ts.length).2).n1.2.2.1),[.int .i64 (((stT y ts ts.length).2).n1.2.2.2)],bv (((stT y ts ts.length).2).n2.1),[.string (str ((stT y ts ts.length).2).n2.2.1)],bv (((stT y ts ts.length).2).n2.2.2.1),[.int .i64 (((stT y ts ts.length).2).n2.2.2.2)],bv (((stT y ts ts.length).2).n3.1),[.string (str ((stT y ts ts.length).2).n3.2.1)],bv (((stT y ts ts.length).2).n3.2.2.1),[.int .i64 (((stT y ts ts.length).2).n3.2.2.2)]] [32,1,16,1,32,1,16,1,32,1,16,1,32,1,16,1] 87,blk b5 [[.int .i64 (((stT y ts ts.length).1).m)],[.int .i64 (((stT y ts ts.length).1).r)],[.bool (((stT y ts ts.length).1).v0.1)],[.int .u64 ((((stT y ts ts.length).1).v0.2.1 : Nat) : Int)],bv (((stT y ts ts.length).1).v0.2.2.1),bv (((stT y ts ts.length).1).v0.2.2.2),[.bool (((stT y ts ts.length).1).v1.1)],[.int .u64 ((((stT y ts ts.length).1).v1.2.1 : Nat) : Int)],bv (((stT y ts ts.length).1).v1.2.2.1),bv (((stT y ts ts.length).1).v1.2.2.2),[.bool (((stT y ts ts.length).1).s0.1)],[.int .i64 (((stT y ts ts.length).1).s0.2.1)],bv (((stT y ts ts.length).1).s0.2.2.1),bv (((stT y ts ts.length).1).s0.2.2.2.1),bv (((stT y ts ts.length).1).s0.2.2.2.2),[.bool (((stT y ts ts.length).1).s1.1)],[.int .i64 (((stT y ts ts.length).1).s1.2.1)],bv (((stT y ts ts.length).1).s1.2.2.1),bv (((stT y ts ts.length).1).s1.2.2.2.1),bv (((stT y ts ts.length).1).s1.2.2.2.2),[.bool (((stT y ts ts.length).1).s2.1)],[.int .i64 (((stT y ts ts.length).1).s2.2.1)],bv (((stT y ts ts.length).1).s2.2.2.1),bv (((stT y ts ts.length).1).s2.2.2.2.1),bv (((stT y ts ts.length).1).s2.2.2.2.2),[.bool (((stT y ts ts.length).1).s3.1)],[.int .i64 (((stT y ts ts.length).1).s3.2.1)],bv (((stT y ts ts.length).1).s3.2.2.1),bv (((stT y ts ts.length).1).s3.2.2.2.1),bv (((stT y ts ts.length).1).s3.2.2.2.2)] [1,1,1,1,32,32,1,1,32,32,1,1,16,32,32,1,1,16,32,32,1,1,16,32,32,1,1,16,32,32] 62,blk b2 [bv y] [32] 23,rd vt 52 ts.length ct (ts.flatMap tnC),glb 1,tabP]) (fun q => k - q) 0 ⟨Nat.zero_le _,hE.sel [1,2,4,5,6,7,14,15,16,17,18,19,20,23,29,86,155] rfl,hM⟩ ?_)))))
      rintro q a w17 ⟨hq,hE,hM⟩
      refine ww1 fun _ K20=>ww1 fun _ K21=>wpp (sm hE rfl fun a hE=>sm hE rfl fun a hE=>sb hE rfl rfl bin_lss fun a hE=>qa (K21 ?_))
      refine hE.split 158 rfl (fun hb158 hE=>?_) (fun hb158 hE=>?_)
      ·replace hb158 := of_decide_eq_true hb158
       replace hb158 : q < k := by omega
       replace hb158 : q < k := by omega
       refine wct hE rfl (wp_skip (K20 (ww1 fun _ K22=>wp_block (ww1 fun _ K23=>wp_drawnM hM (by kernel_rfl) (fun _ => False) [(0,true),(1,true),(2,true),(3,true),(4,true),(5,true),(6,true),(7,true),(8,true),(9,true),(10,true)] [] (by kernel_rfl) rfl ?_))))
       intro w18 hM' hww18;replace hM := hM'
       refine sm hE rfl fun a hE=>sm hE rfl fun a hE=>?_
       obtain ⟨cx163,hx163⟩ := own_rd (hM.get 2 rfl)
       refine qu (j := q) hE rfl hx163 rfl slt77 (by first | rfl | omega) (by omega) rfl fun a p163 hE hc163 hp163=>?_
       have hlj163 : q < (usedL ((stT y ts ts.length).1)).length := (by omega)
       have hok163 := usedL_lt _ (getD_mem (d := 0) hlj163)
       rw [flat_elem (d := 0) (fun x hx => (show (intC _).length = 1 from rfl)) hlj163] at hc163
       replace hc163 : (cellsAt _ [.int .i64 ((((usedL ((stT y ts ts.length).1)).getD q 0) : Nat) : Int)]).holds _ := hc163
       refine qt hE rfl hc163 one3 (by intro X h;cases h;first | (simp;done) | (intro b hb hx;exact hx.2.2 (rdB_sub (hp100 _ hb)))) rfl fun a hE=>?_
       rcases usedL_four (h := (stT y ts ts.length).1) (i := q) (by omega) with hcas2 | hcas2 | hcas2 | hcas2
       ·have hup := used_up (h := (stT y ts ts.length).1) (q := q) (k := k) (by omega) (by omega)
        rw [hcas2,hcase] at hup
        replace hE := hE.cast 164 rfl (show _ = Value.int .i64 0 from congrArg (fun q : Nat => Value.int .i64 (q : Int)) hcas2)
        have hu2 : (getS (stT y ts ts.length).1 0).1 = true := usedL_getS (by have hm := usedL_mem (h := (stT y ts ts.length).1) (i := q) (by omega);rw [hcas2] at hm;exact hm)
        have hfar := (inv_all (a := y) (ts := ts) ts.length).far 0 1 (by decide) (by decide) hu2 hus
        simp only [getS] at hfar
        refine sf hE rfl fo62_2 fun a hE=>qp (j := 0) hE rfl rfl arr60 rfl (by decide) rfl fun a hE=>?_
        refine sf hE rfl fo59_2 fun a hE=>?_
        refine ql hE rfl (hM.get 4 rfl) row57 rfl (by intro X h;cases h;first | (simp;done) | (intro b hb hx;exact hx.2.2 (rdB_sub (hp100 _ hb)))) rfl fun a hE=>?_
        refine sf hE rfl fo59_2 fun a hE=>?_
        refine ql hE rfl (hM.get 1 rfl) row57 rfl (by intro X h;cases h;first | (simp;done) | (intro b hb hx;exact hx.2.2 (rdB_sub (hp100 _ hb)))) rfl fun a hE=>?_
        refine s_bin hE rfl rfl (eqa57 ((stT_ok hl_y ho_ts ts.length).1).s0.2.1 ((stT_ok hl_y ho_ts ts.length).1).s1.2.1).1 rfl fun a hE=>qa (K23 ?_)
        replace hE := hE.cast 171 rfl (show _ = Value.bool false from (congrArg Value.bool (decide_eq_false (fun e => by have := hfar e;omega))))
        refine wcf hE rfl (wp_skip (qe (K22 (wpp (sm hE rfl fun a hE=>sb hE rfl rfl (show Bin _ _ _ _ _ (.int .i64 ((q + 1 : Nat) : Int)) from bin_add (by rw [wrap_i64 (by omega) (by omega)];omega)) fun a hE=>?_)))))
        refine sas hE rfl fun a hE=>qa ?_
        replace hE := hE.cast 20 rfl (show _ = Value.int .i64 (((q + 1) : Nat) : Int) from (congrArg _ (by omega)))
        replace hM : Mem _ _ w18 [_,_,_,_,_,_,_,_,_] := hM.pick [0,1,2,3,4,5,6,7,8] rfl
        exact ⟨q + 1,⟨by omega,hE.sel [1,2,4,5,6,7,14,15,16,17,18,19,20,23,29,86,155] rfl,hM⟩,by omega⟩
       ·have hup := used_up (h := (stT y ts ts.length).1) (q := q) (k := k) (by omega) (by omega)
        rw [hcas2,hcase] at hup
        exact absurd hup (by decide)
       ·have hup := used_up (h := (stT y ts ts.length).1) (q := q) (k := k) (by omega) (by omega)
        rw [hcas2,hcase] at hup
        exact absurd hup (by decide)
       ·have hup := used_up (h := (stT y ts ts.length).1) (q := q) (k := k) (by omega) (by omega)
        rw [hcas2,hcase] at hup
        exact absurd hup (by decide)
      ·replace hb158 := of_decide_eq_false hb158
       replace hb158 : ¬ (q < k) := by omega
       obtain rfl : k = q := by omega
       refine wcf hE rfl (wp_exit (qc (qc (qg (qe (K15 (wpp (sm hE rfl fun a hE=>sb hE rfl rfl (show Bin _ _ _ _ _ (.int .i64 ((k + 1 : Nat) : Int)) from bin_add (by rw [wrap_i64 (by omega) (by omega)];omega)) fun a hE=>?_))))))))
       refine sas hE rfl fun a hE=>qa ?_
       replace hE := hE.cast 15 rfl (show _ = Value.int .i64 (((k + 1) : Nat) : Int) from (congrArg _ (by omega)))
       replace hM : Mem _ _ w17 [_,_,_,_,_,_,_] := hM.pick [2,3,4,5,6,7,8] rfl
       exact ⟨k + 1,⟨by omega,hE.sel [1,2,4,5,6,7,14,15,23,29] rfl,hM⟩,by omega⟩
    ·replace hE := hE.cast 92 rfl (show _ = Value.int .i64 2 from congrArg (fun q : Nat => Value.int .i64 (q : Int)) hcase)
     have hus : (getS (stT y ts ts.length).1 2).1 = true := usedL_getS (by have hm := usedL_mem (h := (stT y ts ts.length).1) (i := k) (by omega);rw [hcase] at hm;exact hm)
     obtain ⟨f1,f2,f3,f4,f5⟩ := inv_open hl_y (inv_all ts.length) (by decide) hus
     simp only [getS,getI] at f1 f2 f3 f4 f5
     refine sf hE rfl fo62_2 fun a hE=>qp (j := 2) hE rfl rfl arr60 rfl (by decide) rfl fun a hE=>?_
     refine ql hE rfl (hM.get 2 rfl) row59 rfl (by intro X h;cases h) rfl fun a hE=>?_
     replace hE := hE.cast 95 rfl (show _ = Value.agg ([[.bool (((stT y ts ts.length).1).s2.1)],[.int .i64 (((stT y ts ts.length).1).s2.2.1)],bv (((stT y ts ts.length).1).s2.2.2.1),bv (((stT y ts ts.length).1).s2.2.2.2.1),bv (((stT y ts ts.length).1).s2.2.2.2.2)] : List (List Value)).flatten.toArray from (by first | rfl | simp only [List.flatten_cons,List.flatten_nil,List.append_nil,List.append_assoc]))
     refine qo [1,1,16,32,32] hE hM zeroL59 rfl rfl fun a b16 w9 hE hM=>?_
     have hsl1579_2 : (((stT y ts ts.length).1).s2.2.2.1).length = 16 := ((stT_ok hl_y ho_ts ts.length).1).s2.2.1
     have hsl1579_3 : (((stT y ts ts.length).1).s2.2.2.2.1).length = 32 := ((stT_ok hl_y ho_ts ts.length).1).s2.2.2.1
     have hsl1579_4 : (((stT y ts ts.length).1).s2.2.2.2.2).length = 32 := ((stT_ok hl_y ho_ts ts.length).1).s2.2.2.2
     refine qq 0 5 (vss := [[.bool (((stT y ts ts.length).1).s2.1)],[.int .i64 (((stT y ts ts.length).1).s2.2.1)],bv (((stT y ts ts.length).1).s2.2.2.1),bv (((stT y ts ts.length).1).s2.2.2.2.1),bv (((stT y ts ts.length).1).s2.2.2.2.2)]) hE rfl rfl hM rfl sz59 (by simp only [List.take_succ_cons,List.take_zero,List.drop_zero,List.drop_succ_cons];simp only [List.map_cons,List.map_nil,vh,List.length_cons,List.length_nil,List.length_replicate,hsl1579_2,hsl1579_3,hsl1579_4]) (by decide) rfl (one_fl ⟨one1 rfl,one1 rfl,vc _,vc _,vc _,trivial⟩) rfl (by intro X h;cases h) fun w10 hM=>?_
     try simp only [List.take_zero,List.take_succ_cons,List.drop_zero,List.drop_succ_cons,List.take_nil,List.drop_nil,List.nil_append,List.append_nil,List.cons_append] at hM
     refine qa (K16 ?_)
     refine wp_seq_j (fun a w' => ∃ (b17 : Nat),Env a 173 [(1,vt),(2,.pointer (some ⟨b2,0,none⟩)),(4,.bool false),(5,.pointer (some ⟨b5,0,none⟩)),(6,.pointer (some ⟨b6,0,none⟩)),(7,.int .i64 ((ts.length : Nat) : Int)),(14,v82_0),(15,.int .i64 ((k : Nat) : Int)),(16,.pointer (some ⟨b16,0,none⟩)),(17,.pointer (some ⟨b17,0,none⟩)),(18,.int .i64 (((unl ((stT y ts ts.length).1) (((stT y ts ts.length).2).n2.2.1)).2.1 : Nat) : Int)),(19,.int .i64 (((unl ((stT y ts ts.length).1) (((stT y ts ts.length).2).n2.2.1)).2.2 : Nat) : Int)),(23,.bool false),(29,.bool false),(86,.bool true)] ∧ Mem w [] w' [blk b17 [bv ((unl ((stT y ts ts.length).1) (((stT y ts ts.length).2).n2.2.1)).1)] [32] 23,blk b16 [[.bool (((stT y ts ts.length).1).s2.1)],[.int .i64 (((stT y ts ts.length).1).s2.2.1)],bv (((stT y ts ts.length).1).s2.2.2.1),bv (((stT y ts ts.length).1).s2.2.2.2.1),bv (((stT y ts ts.length).1).s2.2.2.2.2)] [1,1,16,32,32] 59,own v82_0 1 ((usedL ((stT y ts ts.length).1)).length) ((usedL ((stT y ts ts.length).1)).flatMap intC),blk b6 [bv (((stT y ts ts.length).2).n0.1),[.string (str ((stT y ts ts.length).2).n0.2.1)],bv (((stT y ts ts.length).2).n0.2.2.1),[.int .i64 (((stT y ts ts.length).2).n0.2.2.2)],bv (((stT y ts ts.length).2).n1.1),[.string (str ((stT y ts ts.length).2).n1.2.1)],bv (((stT y ts ts.length).2).n1.2.2.1),[.int .i64 (((stT y ts ts.length).2).n1.2.2.2)],bv (((stT y ts ts.length).2).n2.1),[.string (str ((stT y ts ts.length).2).n2.2.1)],bv (((stT y ts ts.length).2).n2.2.2.1),[.int .i64 (((stT y ts ts.length).2).n2.2.2.2)],bv (((stT y ts ts.length).2).n3.1),[.string (str ((stT y ts ts.length).2).n3.2.1)],bv (((stT y ts ts.length).2).n3.2.2.1),[.int .i64 (((stT y ts ts.length).2).n3.2.2.2)]] [32,1,16,1,32,1,16,1,32,1,16,1,32,1,16,1] 87,blk b5 [[.int .i64 (((stT y ts ts.length).1).m)],[.int .i64 (((stT y ts ts.length).1).r)],[.bool (((stT y ts ts.length).1).v0.1)],[.int .u64 ((((stT y ts ts.length).1).v0.2.1 : Nat) : Int)],bv (((stT y ts ts.length).1).v0.2.2.1),bv (((stT y ts ts.length).1).v0.2.2.2),[.bool (((stT y ts ts.length).1).v1.1)],[.int .u64 ((((stT y ts ts.length).1).v1.2.1 : Nat) : Int)],bv (((stT y ts ts.length).1).v1.2.2.1),bv (((stT y ts ts.length).1).v1.2.2.2),[.bool (((stT y ts ts.length).1).s0.1)],[.int .i64 (((stT y ts ts.length).1).s0.2.1)],bv (((stT y ts ts.length).1).s0.2.2.1),bv (((stT y ts ts.length).1).s0.2.2.2.1),bv (((stT y ts ts.length).1).s0.2.2.2.2),[.bool (((stT y ts ts.length).1).s1.1)],[.int .i64 (((stT y ts ts.length).1).s1.2.1)],bv (((stT y ts ts.length).1).s1.2.2.1),bv (((stT y ts ts.length).1).s1.2.2.2.1),bv (((stT y ts ts.length).1).s1.2.2.2.2),[.bool (((stT y ts ts.length).1).s2.1)],[.int .i64 (((stT y ts ts.length).1).s2.2.1)],bv (((stT y ts ts.length).1).s2.2.2.1),bv (((stT y ts ts.length).1).s2.2.2.2.1),bv (((stT y ts ts.length).1).s2.2.2.2.2),[.bool (((stT y ts ts.length).1).s3.1)],[.int .i64 (((stT y ts ts.length).1).s3.2.1)],bv (((stT y ts ts.length).1).s3.2.2.1),bv (((stT y ts ts.length).1).s3.2.2.2.1),bv (((stT y ts ts.length).1).s3.2.2.2.2)] [1,1,1,1,32,32,1,1,32,32,1,1,16,32,32,1,1,16,32,32,1,1,16,32,32,1,1,16,32,32] 62,blk b2 [bv y] [32] 23,rd vt 52 ts.length ct (ts.flatMap tnC),glb 1,tabP]) ?_ ?_
     ·refine qz hM (by kernel_rfl) (fun _ => True) (fun _ => True) (.re [(1,true),(2,true),(3,true),(0,true),(4,true),(5,true),(6,true),(7,true),(8,false),(9,true),(10,true),(11,true),(12,true),(13,false),(14,false),(15,true),(16,true)] (.fl 3 (.weak (.fl 5 (.or 8 (.re [(9,true),(10,true),(11,true),(12,true),(13,false),(14,false),(15,true),(16,true)] (.fl 4 (.fl 0 (.or 13 (.re [(14,false),(15,true),(16,true)] (.fl 0 (.fl 0 (.or 14 (.re [(15,true),(16,true)] (.leaf 2)) (.stop))))) (.stop))))) (.or 13 (.cut (.re [(8,false),(9,true),(10,true),(11,true),(12,true),(14,false),(15,true),(16,true)] (.fl 0 (.fl 0 (.or 8 (.re [(9,true),(10,true),(11,true),(12,true),(14,false),(15,true),(16,true)] (.fl 4 (.fl 0 (.weak (.or 14 (.re [(15,true),(16,true)] (.leaf 2)) (.stop)))))) (.stop)))))) (.stop))))))) [(1,true),(2,true),(3,true),(0,true),(4,true),(5,true),(6,true),(7,true),(8,false),(9,true),(10,true),(11,true),(12,true),(13,false),(14,false),(15,true),(16,true)] [(0,[(8,0),(9,8),(10,9),(11,9),(12,9),(14,0),(15,0),(16,0)]),(3,[(4,3),(5,4),(6,5),(7,6),(8,7),(9,8),(10,9),(11,9),(12,9),(14,3),(15,3),(16,3)]),(4,[(5,4),(6,5),(7,6),(8,7),(9,8),(10,9),(11,9),(12,9),(14,4),(15,4),(16,4)]),(5,[(6,5),(7,6),(8,7),(9,8),(10,9),(11,9),(12,9),(14,5),(15,5),(16,5)]),(6,[(7,6),(8,7),(9,8),(10,9),(11,9),(12,9),(14,6),(15,6),(16,6)]),(7,[(8,7),(9,8),(10,9),(11,9),(12,9),(14,7),(15,7),(16,7)]),(8,[(9,8),(10,9),(11,9),(12,9),(14,8),(15,8),(16,8)]),(13,[(14,13),(15,13),(16,13)]),(14,[(15,14),(16,14)])] (by kernel_rfl) ?_
      intro w11 hM' hww11;replace hM := hM'
      refine o_re (o_fl rfl (sm hE rfl fun a hE=>sm hE rfl fun a hE=>?_))
      obtain ⟨cx100,hx100⟩ := own_rd (hM.get 1 rfl)
      refine qu (j := k) hE rfl hx100 rfl slt77 (by first | rfl | omega) (by omega) rfl fun a p100 hE hc100 hp100=>?_
      have hlj100 : k < (usedL ((stT y ts ts.length).1)).length := (by omega)
      have hok100 := usedL_lt _ (getD_mem (d := 0) hlj100)
      rw [flat_elem (d := 0) (fun x hx => (show (intC _).length = 1 from rfl)) hlj100] at hc100
      refine qa (qh (vb (fun b => b ≠ b5 ∧ b ≠ b6 ∧ b ∉ valBlocks v82_0) (fun _ _ => trivial) (o_fl rfl ?_)))
      refine ql hE rfl (hM.get 3 rfl) row62 rfl (by intro X h;cases h;first | (simp;done) | (intro b hb hx;exact hx.2.2 (rdB_sub (hp100 _ hb)))) rfl fun a hE=>?_
      replace hE := hE.cast 97 rfl (show _ = Value.agg ([[.int .i64 (((stT y ts ts.length).1).m)],[.int .i64 (((stT y ts ts.length).1).r)],[.bool (((stT y ts ts.length).1).v0.1)],[.int .u64 ((((stT y ts ts.length).1).v0.2.1 : Nat) : Int)],bv (((stT y ts ts.length).1).v0.2.2.1),bv (((stT y ts ts.length).1).v0.2.2.2),[.bool (((stT y ts ts.length).1).v1.1)],[.int .u64 ((((stT y ts ts.length).1).v1.2.1 : Nat) : Int)],bv (((stT y ts ts.length).1).v1.2.2.1),bv (((stT y ts ts.length).1).v1.2.2.2),[.bool (((stT y ts ts.length).1).s0.1)],[.int .i64 (((stT y ts ts.length).1).s0.2.1)],bv (((stT y ts ts.length).1).s0.2.2.1),bv (((stT y ts ts.length).1).s0.2.2.2.1),bv (((stT y ts ts.length).1).s0.2.2.2.2),[.bool (((stT y ts ts.length).1).s1.1)],[.int .i64 (((stT y ts ts.length).1).s1.2.1)],bv (((stT y ts ts.length).1).s1.2.2.1),bv (((stT y ts ts.length).1).s1.2.2.2.1),bv (((stT y ts ts.length).1).s1.2.2.2.2),[.bool (((stT y ts ts.length).1).s2.1)],[.int .i64 (((stT y ts ts.length).1).s2.2.1)],bv (((stT y ts ts.length).1).s2.2.2.1),bv (((stT y ts ts.length).1).s2.2.2.2.1),bv (((stT y ts ts.length).1).s2.2.2.2.2),[.bool (((stT y ts ts.length).1).s3.1)],[.int .i64 (((stT y ts ts.length).1).s3.2.1)],bv (((stT y ts ts.length).1).s3.2.2.1),bv (((stT y ts ts.length).1).s3.2.2.2.1),bv (((stT y ts ts.length).1).s3.2.2.2.2)] : List (List Value)).flatten.toArray from (by first | rfl | simp only [List.flatten_cons,List.flatten_nil,List.append_nil,List.append_assoc]))
      replace hc100 : (cellsAt _ [.int .i64 ((((usedL ((stT y ts ts.length).1)).getD k 0) : Nat) : Int)]).holds _ := hc100
      refine qt hE rfl hc100 one3 (by intro X h;cases h;first | (simp;done) | (intro b hb hx;exact hx.2.2 (rdB_sub (hp100 _ hb)))) rfl fun a hE=>?_
      replace hE := hE.cast 101 rfl (show _ = Value.int .i64 2 from congrArg (fun q : Nat => Value.int .i64 (q : Int)) hcase)
      refine qp (j := 2) hE rfl rfl arr87 rfl (by decide) rfl fun a hE=>?_
      refine sf hE rfl fo84_1 fun a hE=>?_
      refine qm hE rfl (hM.get 2 rfl) rfl one9 (by intro X h;cases h;first | (simp;done) | (intro b hb hx;exact hx.2.2 (rdB_sub (hp100 _ hb)))) rfl fun a hE=>?_
      refine qa (qh ?_)
      refine o_or rfl ?_ ?_
      ·refine qn hE rfl Tryd.call29 (unlock_c ((stT y ts ts.length).1) (((stT y ts ts.length).2).n2.2.1) _ (hM.get 6 rfl) (hM.get 7 rfl) ((stT_ok hl_y ho_ts ts.length).1)) rfl ?_
       rintro e w12 ⟨rfl,hN⟩
       refine ⟨_,rfl,hN.sta0 _,fun a hE=>?_⟩
       replace hM : Mem _ _ w12 [_,_,_,_,_,_,_,_] := hM.call0 hN trivial;clear hN
       refine qa (qh (o_re (o_fl rfl (sm hE rfl fun a hE=>sx hE rfl fun a hE=>sx hE rfl fun a hE=>sx hE rfl fun a hE=>qa (qh (o_fl rfl (qa (qh ?_))))))))
       refine o_or rfl ?_ ?_
       ·refine qo [32] hE hM zero23 rfl rfl fun a b17 w13 hE hM=>qa (qh (o_re (o_fl rfl (qa (qh (o_fl rfl (qa (qh ?_))))))))
        refine o_or rfl ?_ ?_
        ·refine qr 0 hE rfl rfl hM rfl sz23 ((vh _).trans (unl_len ((stT_ok hl_y ho_ts ts.length).1) (((stT y ts ts.length).2).n2.2.1))) (vc _) rfl ((vh _).trans (by first | (simp;done) | (simp [*];done) | (simp;omega))) rfl (by intro X h;cases h;exact ⟨fun e => ((apart_of_get hM.apart (i := 0) (j := 4) rfl rfl (by decide)).1 _ (.head _)).1 (by rw [e];exact .head _),fun e => ((apart_of_get hM.apart (i := 0) (j := 3) rfl rfl (by decide)).1 _ (.head _)).1 (by rw [e];exact .head _),fun hv => ((apart_of_get hM.apart (i := 0) (j := 2) rfl rfl (by decide)).1 _ (.head _)).1 hv⟩) ?_;intro w14 hM
         simp only [List.set_cons_zero,List.set_cons_succ] at hM
         refine qa (qh (o_re (va rfl rfl (sas hE rfl fun a hE=>sas hE rfl fun a hE=>qa (q_ph (qa ?_))))))
         replace hM : Mem _ _ w14 [_,_,_,_,_,_,_,_,_] := hM.pick [0,1,2,3,4,5,6,7,8] rfl
         refine qd ⟨_,hE.sel [1,2,4,5,6,7,14,15,16,17,18,19,23,29,86] rfl,hM⟩
        trivial
       trivial
      refine o_or rfl ?_ ?_
      ·refine qo [32] hE hM zero23 rfl rfl fun a b17 w12 hE hM=>qa (qh (o_cut (fun _ => True) (o_re (o_fl rfl (qa (qh (o_fl rfl (qa (qh ?_)))))))))
       refine o_or rfl ?_ ?_
       ·refine qn hE rfl Tryd.call29 (unlock_c ((stT y ts ts.length).1) (((stT y ts ts.length).2).n2.2.1) _ (hM.get 7 rfl) (hM.get 8 rfl) ((stT_ok hl_y ho_ts ts.length).1)) rfl ?_
        rintro e w13 ⟨rfl,hN⟩
        refine ⟨_,rfl,hN.sta0 _,fun a hE=>?_⟩
        replace hM : Mem _ _ w13 [_,_,_,_,_,_,_,_,_] := hM.call0 hN trivial;clear hN
        refine qa (qh (o_re (o_fl rfl (sm hE rfl fun a hE=>sx hE rfl fun a hE=>sx hE rfl fun a hE=>sx hE rfl fun a hE=>qa (qh (o_fl rfl (qa (qh ?_))))))))
        refine vb (fun b => b = b17) (fun _ _ => trivial) ?_
        refine o_or rfl ?_ ?_
        ·refine qr 0 hE rfl rfl hM rfl sz23 ((vh _).trans (unl_len ((stT_ok hl_y ho_ts ts.length).1) (((stT y ts ts.length).2).n2.2.1))) (vc _) rfl ((vh _).trans (by first | (simp;done) | (simp [*];done) | (simp;omega))) rfl (by intro X h;cases h;rfl) fun w14 hM=>?_
         simp only [List.set_cons_zero,List.set_cons_succ] at hM
         refine qa (qh (o_re (va rfl rfl (sas hE rfl fun a hE=>sas hE rfl fun a hE=>qa (q_ph (qa ?_))))))
         replace hM : Mem _ _ w14 [_,_,_,_,_,_,_,_,_] := hM.pick [0,1,2,3,4,5,6,7,8] rfl
         refine qd ⟨_,hE.sel [1,2,4,5,6,7,14,15,16,17,18,19,23,29,86] rfl,hM⟩
        trivial
       trivial
      trivial
     rintro a w15 ⟨b17,hE,hM⟩
     refine ww1 fun _ K17=>ww1 fun _ K18=>wp_drawnM hM (by kernel_rfl) (fun _ => False) [(0,true),(1,true),(2,true),(3,true),(4,true),(5,true),(6,true),(7,true),(8,true),(9,true),(10,true),(11,true),(12,true),(13,true),(14,true),(15,true),(16,true),(17,true),(18,true),(19,true),(20,true),(21,true),(22,true),(23,true),(24,true),(25,true),(26,true),(27,true),(28,true),(29,true),(30,true),(31,true),(32,true),(33,true),(34,true),(35,true),(36,true),(37,true),(38,true),(39,true),(40,true),(41,true),(42,true),(43,true),(44,true),(45,true),(46,true)] [] (by kernel_rfl) rfl ?_
     intro w16 hM' hww16;replace hM := hM'
     refine sf hE rfl fo59_2 fun a hE=>?_
     refine ql hE rfl (hM.get 1 rfl) row57 rfl (by intro X h;cases h;first | (simp;done) | (intro b hb hx;exact hx.2.2 (rdB_sub (hp100 _ hb)))) rfl fun a hE=>?_
     refine sm hE rfl fun a hE=>sm hE rfl fun a hE=>?_
     obtain ⟨cx113,hx113⟩ := own_rd (hM.get 2 rfl)
     refine qu (j := k) hE rfl hx113 rfl slt77 (by first | rfl | omega) (by omega) rfl fun a p113 hE hc113 hp113=>?_
     have hlj113 : k < (usedL ((stT y ts ts.length).1)).length := (by omega)
     have hok113 := usedL_lt _ (getD_mem (d := 0) hlj113)
     rw [flat_elem (d := 0) (fun x hx => (show (intC _).length = 1 from rfl)) hlj113] at hc113
     replace hc113 : (cellsAt _ [.int .i64 ((((usedL ((stT y ts ts.length).1)).getD k 0) : Nat) : Int)]).holds _ := hc113
     refine qt hE rfl hc113 one3 (by intro X h;cases h;first | (simp;done) | (intro b hb hx;exact hx.2.2 (rdB_sub (hp100 _ hb)))) rfl fun a hE=>?_
     replace hE := hE.cast 114 rfl (show _ = Value.int .i64 2 from congrArg (fun q : Nat => Value.int .i64 (q : Int)) hcase)
     refine qp (j := 2) hE rfl rfl arr87 rfl (by decide) rfl fun a hE=>?_
     refine sf hE rfl fo84_2 fun a hE=>?_
     refine ql hE rfl (hM.get 3 rfl) row57 rfl (by intro X h;cases h;first | (simp;done) | (intro b hb hx;exact hx.2.2 (rdB_sub (hp100 _ hb)))) rfl fun a hE=>?_
     refine s_bin hE rfl rfl (eqa57 ((stT_ok hl_y ho_ts ts.length).1).s2.2.1 ((stT_ok hl_y ho_ts ts.length).2).n2.2.1).2 rfl fun a hE=>sm hE rfl fun a hE=>?_
     replace hE := hE.cast 119 rfl (show _ = Value.bool false from (congrArg Value.bool (by rw [f1];simp)))
     refine gy hE rfl (sf hE rfl fo59_1 fun a hE=>gy hE rfl ?_)
     refine qm hE rfl (hM.get 1 rfl) rfl one3 (by intro X h;cases h;first | (simp;done) | (intro b hb hx;exact hx.2.2 (rdB_sub (hp100 _ hb)))) rfl fun a hE=>?_
     refine gy hE rfl (sm hE rfl fun a hE=>gy hE rfl (sm hE rfl fun a hE=>gy hE rfl ?_))
     obtain ⟨cx124,hx124⟩ := own_rd (hM.get 2 rfl)
     refine qu (j := k) hE rfl hx124 rfl slt77 (by first | rfl | omega) (by omega) rfl fun a p124 hE hc124 hp124=>?_
     have hlj124 : k < (usedL ((stT y ts ts.length).1)).length := (by omega)
     have hok124 := usedL_lt _ (getD_mem (d := 0) hlj124)
     rw [flat_elem (d := 0) (fun x hx => (show (intC _).length = 1 from rfl)) hlj124] at hc124
     refine gy hE rfl ?_
     replace hc124 : (cellsAt _ [.int .i64 ((((usedL ((stT y ts ts.length).1)).getD k 0) : Nat) : Int)]).holds _ := hc124
     refine qt hE rfl hc124 one3 (by intro X h;cases h;first | (simp;done) | (intro b hb hx;exact hx.2.2 (rdB_sub (hp100 _ hb)))) rfl fun a hE=>?_
     replace hE := hE.cast 125 rfl (show _ = Value.int .i64 2 from congrArg (fun q : Nat => Value.int .i64 (q : Int)) hcase)
     refine gy hE rfl (qp (j := 2) hE rfl rfl arr87 rfl (by decide) rfl fun a hE=>?_)
     refine gy hE rfl (sf hE rfl fo84_3 fun a hE=>gy hE rfl ?_)
     refine qm hE rfl (hM.get 3 rfl) rfl one3 (by intro X h;cases h;first | (simp;done) | (intro b hb hx;exact hx.2.2 (rdB_sub (hp100 _ hb)))) rfl fun a hE=>?_
     refine gy hE rfl (sb hE rfl rfl bin_neq fun a hE=>pkf hE rfl fun a hE=>sm hE rfl fun a hE=>?_)
     replace hE := hE.cast 131 rfl (show _ = Value.bool false from (congrArg Value.bool (by rw [f2];simp)))
     refine gy hE rfl (sm hE rfl fun a hE=>gy hE rfl (sb hE rfl rfl bin_neq fun a hE=>pkf hE rfl fun a hE=>sm hE rfl fun a hE=>?_))
     replace hE := hE.cast 135 rfl (show _ = Value.bool false from (congrArg Value.bool (by rw [f3];rfl)))
     refine gy hE rfl (sm hE rfl fun a hE=>gy hE rfl (sm hE rfl fun a hE=>gy hE rfl (sm hE rfl fun a hE=>gy hE rfl ?_)))
     obtain ⟨cx139,hx139⟩ := own_rd (hM.get 2 rfl)
     refine qu (j := k) hE rfl hx139 rfl slt77 (by first | rfl | omega) (by omega) rfl fun a p139 hE hc139 hp139=>?_
     have hlj139 : k < (usedL ((stT y ts ts.length).1)).length := (by omega)
     have hok139 := usedL_lt _ (getD_mem (d := 0) hlj139)
     rw [flat_elem (d := 0) (fun x hx => (show (intC _).length = 1 from rfl)) hlj139] at hc139
     refine gy hE rfl ?_
     replace hc139 : (cellsAt _ [.int .i64 ((((usedL ((stT y ts ts.length).1)).getD k 0) : Nat) : Int)]).holds _ := hc139
     refine qt hE rfl hc139 one3 (by intro X h;cases h;first | (simp;done) | (intro b hb hx;exact hx.2.2 (rdB_sub (hp100 _ hb)))) rfl fun a hE=>?_
     replace hE := hE.cast 140 rfl (show _ = Value.int .i64 2 from congrArg (fun q : Nat => Value.int .i64 (q : Int)) hcase)
     refine gy hE rfl (sb hE rfl rfl bin_gtr fun a hE=>pkf hE rfl fun a hE=>sm hE rfl fun a hE=>?_)
     replace hE := hE.cast 143 rfl (show _ = Value.bool false from (congrArg Value.bool (decide_eq_false (by omega))))
     refine gy hE rfl (sm hE rfl fun a hE=>gy hE rfl (sm hE rfl fun a hE=>gy hE rfl (sm hE rfl fun a hE=>gy hE rfl ?_)))
     obtain ⟨cx147,hx147⟩ := own_rd (hM.get 2 rfl)
     refine qu (j := k) hE rfl hx147 rfl slt77 (by first | rfl | omega) (by omega) rfl fun a p147 hE hc147 hp147=>?_
     have hlj147 : k < (usedL ((stT y ts ts.length).1)).length := (by omega)
     have hok147 := usedL_lt _ (getD_mem (d := 0) hlj147)
     rw [flat_elem (d := 0) (fun x hx => (show (intC _).length = 1 from rfl)) hlj147] at hc147
     refine gy hE rfl ?_
     replace hc147 : (cellsAt _ [.int .i64 ((((usedL ((stT y ts ts.length).1)).getD k 0) : Nat) : Int)]).holds _ := hc147
     refine qt hE rfl hc147 one3 (by intro X h;cases h;first | (simp;done) | (intro b hb hx;exact hx.2.2 (rdB_sub (hp100 _ hb)))) rfl fun a hE=>?_
     replace hE := hE.cast 148 rfl (show _ = Value.int .i64 2 from congrArg (fun q : Nat => Value.int .i64 (q : Int)) hcase)
     refine gy hE rfl (sb hE rfl rfl bin_eql fun a hE=>gy hE rfl (sm hE rfl fun a hE=>?_))
     refine hE.split 150 rfl (fun hb150 hE=>?_) (fun hb150 hE=>?_)
     ·replace hb150 := of_decide_eq_true hb150
      replace hb150 : ((unl ((stT y ts ts.length).1) (((stT y ts ts.length).2).n2.2.1)).2.1) = 2 := by omega
      refine gy hE rfl ?_
      refine ql hE rfl (hM.get 0 rfl) row23 rfl (by intro X h;cases h;first | (simp;done) | (intro b hb hx;exact hx.2.2 (rdB_sub (hp100 _ hb)))) rfl fun a hE=>?_
      refine gy hE rfl ?_
      refine ql hE rfl (hM.get 5 rfl) row23 rfl (by intro X h;cases h;first | (simp;done) | (intro b hb hx;exact hx.2.2 (rdB_sub (hp100 _ hb)))) rfl fun a hE=>?_
      refine gy hE rfl (s_bin hE rfl rfl (eqa23 (unl_len ((stT_ok hl_y ho_ts ts.length).1) (((stT y ts ts.length).2).n2.2.1)) hl_y).2 rfl fun a hE=>gy hE rfl (pkt hE rfl fun a hE=>pkf hE rfl fun a hE=>qa (K18 ?_)))
      replace hE := hE.cast 155 rfl (show _ = Value.bool false from (congrArg Value.bool (by rw [f5 (by omega)];simp)))
      refine wcf hE rfl (wp_skip (K17 (ww1 fun _ K19=>wpp (sas hE rfl fun a hE=>qa (K19 (wp_block (c_loop (fun (q : Nat) a w' => q ≤ k ∧ Env a 173 [(1,vt),(2,.pointer (some ⟨b2,0,none⟩)),(4,.bool false),(5,.pointer (some ⟨b5,0,none⟩)),(6,.pointer (some ⟨b6,0,none⟩)),(7,.int .i64 ((ts.length : Nat) : Int)),(14,v82_0),(15,.int .i64 ((k : Nat) : Int)),(16,.pointer (some ⟨b16,0,none⟩)),(17,.pointer (some ⟨b17,0,none⟩)),(18,.int .i64 (((unl ((stT y ts ts.length).1) (((stT y ts ts.length).2).n2.2.1)).2.1 : Nat) : Int)),(19,.int .i64 (((unl ((stT y ts ts.length).1) (((stT y ts ts.length).2).n2.2.1)).2.2 : Nat) : Int)),(20,.int .i64 ((q : Nat) : Int)),(23,.bool false),(29,.bool false),(86,.bool true),(155,.bool false)] ∧ Mem w [] w' [blk b17 [bv ((unl ((stT y ts ts.length).1) (((stT y ts ts.length).2).n2.2.1)).1)] [32] 23,blk b16 [[.bool (((stT y ts ts.length).1).s2.1)],[.int .i64 (((stT y ts ts.length).1).s2.2.1)],bv (((stT y ts ts.length).1).s2.2.2.1),bv (((stT y ts ts.length).1).s2.2.2.2.1),bv (((stT y ts ts.length).1).s2.2.2.2.2)] [1,1,16,32,32] 59,own v82_0 1 ((usedL ((stT y ts ts.length).1)).length) ((usedL ((stT y ts ts.length).1)).flatMap intC),blk b6 [bv (((stT y ts ts.length).2).n0.1),[.string (str ((stT y ts ts.length).2).n0.2.1)],bv (((stT y ts ts.length).2).n0.2.2.1),[.int .i64 (((stT y ts ts.length).2).n0.2.2.2)],bv (((stT y ts ts.length).2).n1.1),[.string (str ((stT y ts ts.length).2).n1.2.1)],bv (((stT y ts ts.length).2).n1.2.2.1),[.int .i64 (((stT y ts ts.length).2).n1.2.2.2)],bv (((stT y ts ts.length).2).n2.1),[.string (str ((stT y ts ts.length).2).n2.2.1)],bv (((stT y ts ts.length).2).n2.2.2.1),[.int .i64 (((stT y ts ts.length).2).n2.2.2.2)],bv (((stT y ts ts.length).2).n3.1),[.string (str ((stT y ts ts.length).2).n3.2.1)],bv (((stT y ts ts.length).2).n3.2.2.1),[.int .i64 (((stT y ts ts.length).2).n3.2.2.2)]] [32,1,16,1,32,1,16,1,32,1,16,1,32,1,16,1] 87,blk b5 [[.int .i64 (((stT y ts ts.length).1).m)],[.int .i64 (((stT y ts ts.length).1).r)],[.bool (((stT y ts ts.length).1).v0.1)],[.int .u64 ((((stT y ts ts.length).1).v0.2.1 : Nat) : Int)],bv (((stT y ts ts.length).1).v0.2.2.1),bv (((stT y ts ts.length).1).v0.2.2.2),[.bool (((stT y ts ts.length).1).v1.1)],[.int .u64 ((((stT y ts ts.length).1).v1.2.1 : Nat) : Int)],bv (((stT y ts ts.length).1).v1.2.2.1),bv (((stT y ts ts.length).1).v1.2.2.2),[.bool (((stT y ts ts.length).1).s0.1)],[.int .i64 (((stT y ts ts.length).1).s0.2.1)],bv (((stT y ts ts.length).1).s0.2.2.1),bv (((stT y ts ts.length).1).s0.2.2.2.1),bv (((stT y ts ts.length).1).s0.2.2.2.2),[.bool (((stT y ts ts.length).1).s1.1)],[.int .i64 (((stT y ts ts.length).1).s1.2.1)],bv (((stT y ts ts.length).1).s1.2.2.1),bv (((stT y ts ts.length).1).s1.2.2.2.1),bv (((stT y ts ts.length).1).s1.2.2.2.2),[.bool (((stT y ts ts.length).1).s2.1)],[.int .i64 (((stT y ts ts.length).1).s2.2.1)],bv (((stT y ts ts.length).1).s2.2.2.1),bv (((stT y ts ts.length).1).s2.2.2.2.1),bv (((stT y ts ts.length).1).s2.2.2.2.2),[.bool (((stT y ts ts.length).1).s3.1)],[.int .i64 (((stT y ts ts.length).1).s3.2.1)],bv (((stT y ts ts.length).1).s3.2.2.1),bv (((stT y ts ts.length).1).s3.2.2.2.1),bv (((stT y ts ts.length).1).s3.2.2.2.2)] [1,1,1,1,32,32,1,1,32,32,1,1,16,32,32,1,1,16,32,32,1,1,16,32,32,1,1,16,32,32] 62,blk b2 [bv y] [32] 23,rd vt 52 ts.length ct (ts.flatMap tnC),glb 1,tabP]) (fun q => k - q) 0 ⟨Nat.zero_le _,hE.sel [1,2,4,5,6,7,14,15,16,17,18,19,20,23,29,86,155] rfl,hM⟩ ?_)))))))
      rintro q a w17 ⟨hq,hE,hM⟩
      refine ww1 fun _ K20=>ww1 fun _ K21=>wpp (sm hE rfl fun a hE=>sm hE rfl fun a hE=>sb hE rfl rfl bin_lss fun a hE=>qa (K21 ?_))
      refine hE.split 158 rfl (fun hb158 hE=>?_) (fun hb158 hE=>?_)
      ·replace hb158 := of_decide_eq_true hb158
       replace hb158 : q < k := by omega
       replace hb158 : q < k := by omega
       refine wct hE rfl (wp_skip (K20 (ww1 fun _ K22=>wp_block (ww1 fun _ K23=>wp_drawnM hM (by kernel_rfl) (fun _ => False) [(0,true),(1,true),(2,true),(3,true),(4,true),(5,true),(6,true),(7,true),(8,true),(9,true),(10,true)] [] (by kernel_rfl) rfl ?_))))
       intro w18 hM' hww18;replace hM := hM'
       refine sm hE rfl fun a hE=>sm hE rfl fun a hE=>?_
       obtain ⟨cx163,hx163⟩ := own_rd (hM.get 2 rfl)
       refine qu (j := q) hE rfl hx163 rfl slt77 (by first | rfl | omega) (by omega) rfl fun a p163 hE hc163 hp163=>?_
       have hlj163 : q < (usedL ((stT y ts ts.length).1)).length := (by omega)
       have hok163 := usedL_lt _ (getD_mem (d := 0) hlj163)
       rw [flat_elem (d := 0) (fun x hx => (show (intC _).length = 1 from rfl)) hlj163] at hc163
       replace hc163 : (cellsAt _ [.int .i64 ((((usedL ((stT y ts ts.length).1)).getD q 0) : Nat) : Int)]).holds _ := hc163
       refine qt hE rfl hc163 one3 (by intro X h;cases h;first | (simp;done) | (intro b hb hx;exact hx.2.2 (rdB_sub (hp100 _ hb)))) rfl fun a hE=>?_
       rcases usedL_four (h := (stT y ts ts.length).1) (i := q) (by omega) with hcas2 | hcas2 | hcas2 | hcas2
       ·have hup := used_up (h := (stT y ts ts.length).1) (q := q) (k := k) (by omega) (by omega)
        rw [hcas2,hcase] at hup
        replace hE := hE.cast 164 rfl (show _ = Value.int .i64 0 from congrArg (fun q : Nat => Value.int .i64 (q : Int)) hcas2)
        have hu2 : (getS (stT y ts ts.length).1 0).1 = true := usedL_getS (by have hm := usedL_mem (h := (stT y ts ts.length).1) (i := q) (by omega);rw [hcas2] at hm;exact hm)
        have hfar := (inv_all (a := y) (ts := ts) ts.length).far 0 2 (by decide) (by decide) hu2 hus
        simp only [getS] at hfar
        refine sf hE rfl fo62_2 fun a hE=>qp (j := 0) hE rfl rfl arr60 rfl (by decide) rfl fun a hE=>?_
        refine sf hE rfl fo59_2 fun a hE=>?_
        refine ql hE rfl (hM.get 4 rfl) row57 rfl (by intro X h;cases h;first | (simp;done) | (intro b hb hx;exact hx.2.2 (rdB_sub (hp100 _ hb)))) rfl fun a hE=>?_
        refine sf hE rfl fo59_2 fun a hE=>?_
        refine ql hE rfl (hM.get 1 rfl) row57 rfl (by intro X h;cases h;first | (simp;done) | (intro b hb hx;exact hx.2.2 (rdB_sub (hp100 _ hb)))) rfl fun a hE=>?_
        refine s_bin hE rfl rfl (eqa57 ((stT_ok hl_y ho_ts ts.length).1).s0.2.1 ((stT_ok hl_y ho_ts ts.length).1).s2.2.1).1 rfl fun a hE=>qa (K23 ?_)
        replace hE := hE.cast 171 rfl (show _ = Value.bool false from (congrArg Value.bool (decide_eq_false (fun e => by have := hfar e;omega))))
        refine wcf hE rfl (wp_skip (qe (K22 (wpp (sm hE rfl fun a hE=>sb hE rfl rfl (show Bin _ _ _ _ _ (.int .i64 ((q + 1 : Nat) : Int)) from bin_add (by rw [wrap_i64 (by omega) (by omega)];omega)) fun a hE=>?_)))))
        refine sas hE rfl fun a hE=>qa ?_
        replace hE := hE.cast 20 rfl (show _ = Value.int .i64 (((q + 1) : Nat) : Int) from (congrArg _ (by omega)))
        replace hM : Mem _ _ w18 [_,_,_,_,_,_,_,_,_] := hM.pick [0,1,2,3,4,5,6,7,8] rfl
        exact ⟨q + 1,⟨by omega,hE.sel [1,2,4,5,6,7,14,15,16,17,18,19,20,23,29,86,155] rfl,hM⟩,by omega⟩
       ·have hup := used_up (h := (stT y ts ts.length).1) (q := q) (k := k) (by omega) (by omega)
        rw [hcas2,hcase] at hup
        replace hE := hE.cast 164 rfl (show _ = Value.int .i64 1 from congrArg (fun q : Nat => Value.int .i64 (q : Int)) hcas2)
        have hu2 : (getS (stT y ts ts.length).1 1).1 = true := usedL_getS (by have hm := usedL_mem (h := (stT y ts ts.length).1) (i := q) (by omega);rw [hcas2] at hm;exact hm)
        have hfar := (inv_all (a := y) (ts := ts) ts.length).far 1 2 (by decide) (by decide) hu2 hus
        simp only [getS] at hfar
        refine sf hE rfl fo62_2 fun a hE=>qp (j := 1) hE rfl rfl arr60 rfl (by decide) rfl fun a hE=>?_
        refine sf hE rfl fo59_2 fun a hE=>?_
        refine ql hE rfl (hM.get 4 rfl) row57 rfl (by intro X h;cases h;first | (simp;done) | (intro b hb hx;exact hx.2.2 (rdB_sub (hp100 _ hb)))) rfl fun a hE=>?_
        refine sf hE rfl fo59_2 fun a hE=>?_
        refine ql hE rfl (hM.get 1 rfl) row57 rfl (by intro X h;cases h;first | (simp;done) | (intro b hb hx;exact hx.2.2 (rdB_sub (hp100 _ hb)))) rfl fun a hE=>?_
        refine s_bin hE rfl rfl (eqa57 ((stT_ok hl_y ho_ts ts.length).1).s1.2.1 ((stT_ok hl_y ho_ts ts.length).1).s2.2.1).1 rfl fun a hE=>qa (K23 ?_)
        replace hE := hE.cast 171 rfl (show _ = Value.bool false from (congrArg Value.bool (decide_eq_false (fun e => by have := hfar e;omega))))
        refine wcf hE rfl (wp_skip (qe (K22 (wpp (sm hE rfl fun a hE=>sb hE rfl rfl (show Bin _ _ _ _ _ (.int .i64 ((q + 1 : Nat) : Int)) from bin_add (by rw [wrap_i64 (by omega) (by omega)];omega)) fun a hE=>?_)))))
        refine sas hE rfl fun a hE=>qa ?_
        replace hE := hE.cast 20 rfl (show _ = Value.int .i64 (((q + 1) : Nat) : Int) from (congrArg _ (by omega)))
        replace hM : Mem _ _ w18 [_,_,_,_,_,_,_,_,_] := hM.pick [0,1,2,3,4,5,6,7,8] rfl
        exact ⟨q + 1,⟨by omega,hE.sel [1,2,4,5,6,7,14,15,16,17,18,19,20,23,29,86,155] rfl,hM⟩,by omega⟩
       ·have hup := used_up (h := (stT y ts ts.length).1) (q := q) (k := k) (by omega) (by omega)
        rw [hcas2,hcase] at hup
        exact absurd hup (by decide)
       ·have hup := used_up (h := (stT y ts ts.length).1) (q := q) (k := k) (by omega) (by omega)
        rw [hcas2,hcase] at hup
        exact absurd hup (by decide)
      ·replace hb158 := of_decide_eq_false hb158
       replace hb158 : ¬ (q < k) := by omega
       obtain rfl : k = q := by omega
       refine wcf hE rfl (wp_exit (qc (qc (qg (qe (K15 (wpp (sm hE rfl fun a hE=>sb hE rfl rfl (show Bin _ _ _ _ _ (.int .i64 ((k + 1 : Nat) : Int)) from bin_add (by rw [wrap_i64 (by omega) (by omega)];omega)) fun a hE=>?_))))))))
       refine sas hE rfl fun a hE=>qa ?_
       replace hE := hE.cast 15 rfl (show _ = Value.int .i64 (((k + 1) : Nat) : Int) from (congrArg _ (by omega)))
       replace hM : Mem _ _ w17 [_,_,_,_,_,_,_] := hM.pick [2,3,4,5,6,7,8] rfl
       exact ⟨k + 1,⟨by omega,hE.sel [1,2,4,5,6,7,14,15,23,29] rfl,hM⟩,by omega⟩
     ·replace hb150 := of_decide_eq_false hb150
      replace hb150 : ¬ (((unl ((stT y ts ts.length).1) (((stT y ts ts.length).2).n2.2.1)).2.1) = 2) := by omega
      refine gf hE rfl fun a hE=>gf hE rfl fun a hE=>gf hE rfl fun a hE=>gy hE rfl (pkf hE rfl fun a hE=>pkf hE rfl fun a hE=>qa (K18 (wcf hE rfl (wp_skip ?_))))
      refine K17 (ww1 fun _ K19=>wpp (sas hE rfl fun a hE=>qa (K19 (wp_block (c_loop (fun (q : Nat) a w' => q ≤ k ∧ Env a 173 [(1,vt),(2,.pointer (some ⟨b2,0,none⟩)),(4,.bool false),(5,.pointer (some ⟨b5,0,none⟩)),(6,.pointer (some ⟨b6,0,none⟩)),(7,.int .i64 ((ts.length : Nat) : Int)),(14,v82_0),(15,.int .i64 ((k : Nat) : Int)),(16,.pointer (some ⟨b16,0,none⟩)),(17,.pointer (some ⟨b17,0,none⟩)),(18,.int .i64 (((unl ((stT y ts ts.length).1) (((stT y ts ts.length).2).n2.2.1)).2.1 : Nat) : Int)),(19,.int .i64 (((unl ((stT y ts ts.length).1) (((stT y ts ts.length).2).n2.2.1)).2.2 : Nat) : Int)),(20,.int .i64 ((q : Nat) : Int)),(23,.bool false),(29,.bool false),(86,.bool true),(155,.bool false)] ∧ Mem w [] w' [blk b17 [bv ((unl ((stT y ts ts.length).1) (((stT y ts ts.length).2).n2.2.1)).1)] [32] 23,blk b16 [[.bool (((stT y ts ts.length).1).s2.1)],[.int .i64 (((stT y ts ts.length).1).s2.2.1)],bv (((stT y ts ts.length).1).s2.2.2.1),bv (((stT y ts ts.length).1).s2.2.2.2.1),bv (((stT y ts ts.length).1).s2.2.2.2.2)] [1,1,16,32,32] 59,own v82_0 1 ((usedL ((stT y ts ts.length).1)).length) ((usedL ((stT y ts ts.length).1)).flatMap intC),blk b6 [bv (((stT y ts ts.length).2).n0.1),[.string (str ((stT y ts ts.length).2).n0.2.1)],bv (((stT y ts ts.length).2).n0.2.2.1),[.int .i64 (((stT y ts ts.length).2).n0.2.2.2)],bv (((stT y ts ts.length).2).n1.1),[.string (str ((stT y ts ts.length).2).n1.2.1)],bv (((stT y ts ts.length).2).n1.2.2.1),[.int .i64 (((stT y ts ts.length).2).n1.2.2.2)],bv (((stT y ts ts.length).2).n2.1),[.string (str ((stT y ts ts.length).2).n2.2.1)],bv (((stT y ts ts.length).2).n2.2.2.1),[.int .i64 (((stT y ts ts.length).2).n2.2.2.2)],bv (((stT y ts ts.length).2).n3.1),[.string (str ((stT y ts ts.length).2).n3.2.1)],bv (((stT y ts ts.length).2).n3.2.2.1),[.int .i64 (((stT y ts ts.length).2).n3.2.2.2)]] [32,1,16,1,32,1,16,1,32,1,16,1,32,1,16,1] 87,blk b5 [[.int .i64 (((stT y ts ts.length).1).m)],[.int .i64 (((stT y ts ts.length).1).r)],[.bool (((stT y ts ts.length).1).v0.1)],[.int .u64 ((((stT y ts ts.length).1).v0.2.1 : Nat) : Int)],bv (((stT y ts ts.length).1).v0.2.2.1),bv (((stT y ts ts.length).1).v0.2.2.2),[.bool (((stT y ts ts.length).1).v1.1)],[.int .u64 ((((stT y ts ts.length).1).v1.2.1 : Nat) : Int)],bv (((stT y ts ts.length).1).v1.2.2.1),bv (((stT y ts ts.length).1).v1.2.2.2),[.bool (((stT y ts ts.length).1).s0.1)],[.int .i64 (((stT y ts ts.length).1).s0.2.1)],bv (((stT y ts ts.length).1).s0.2.2.1),bv (((stT y ts ts.length).1).s0.2.2.2.1),bv (((stT y ts ts.length).1).s0.2.2.2.2),[.bool (((stT y ts ts.length).1).s1.1)],[.int .i64 (((stT y ts ts.length).1).s1.2.1)],bv (((stT y ts ts.length).1).s1.2.2.1),bv (((stT y ts ts.length).1).s1.2.2.2.1),bv (((stT y ts ts.length).1).s1.2.2.2.2),[.bool (((stT y ts ts.length).1).s2.1)],[.int .i64 (((stT y ts ts.length).1).s2.2.1)],bv (((stT y ts ts.length).1).s2.2.2.1),bv (((stT y ts ts.length).1).s2.2.2.2.1),bv (((stT y ts ts.length).1).s2.2.2.2.2),[.bool (((stT y ts ts.length).1).s3.1)],[.int .i64 (((stT y ts ts.length).1).s3.2.1)],bv (((stT y ts ts.length).1).s3.2.2.1),bv (((stT y ts ts.length).1).s3.2.2.2.1),bv (((stT y ts ts.length).1).s3.2.2.2.2)] [1,1,1,1,32,32,1,1,32,32,1,1,16,32,32,1,1,16,32,32,1,1,16,32,32,1,1,16,32,32] 62,blk b2 [bv y] [32] 23,rd vt 52 ts.length ct (ts.flatMap tnC),glb 1,tabP]) (fun q => k - q) 0 ⟨Nat.zero_le _,hE.sel [1,2,4,5,6,7,14,15,16,17,18,19,20,23,29,86,155] rfl,hM⟩ ?_)))))
      rintro q a w17 ⟨hq,hE,hM⟩
      refine ww1 fun _ K20=>ww1 fun _ K21=>wpp (sm hE rfl fun a hE=>sm hE rfl fun a hE=>sb hE rfl rfl bin_lss fun a hE=>qa (K21 ?_))
      refine hE.split 158 rfl (fun hb158 hE=>?_) (fun hb158 hE=>?_)
      ·replace hb158 := of_decide_eq_true hb158
       replace hb158 : q < k := by omega
       replace hb158 : q < k := by omega
       refine wct hE rfl (wp_skip (K20 (ww1 fun _ K22=>wp_block (ww1 fun _ K23=>wp_drawnM hM (by kernel_rfl) (fun _ => False) [(0,true),(1,true),(2,true),(3,true),(4,true),(5,true),(6,true),(7,true),(8,true),(9,true),(10,true)] [] (by kernel_rfl) rfl ?_))))
       intro w18 hM' hww18;replace hM := hM'
       refine sm hE rfl fun a hE=>sm hE rfl fun a hE=>?_
       obtain ⟨cx163,hx163⟩ := own_rd (hM.get 2 rfl)
       refine qu (j := q) hE rfl hx163 rfl slt77 (by first | rfl | omega) (by omega) rfl fun a p163 hE hc163 hp163=>?_
       have hlj163 : q < (usedL ((stT y ts ts.length).1)).length := (by omega)
       have hok163 := usedL_lt _ (getD_mem (d := 0) hlj163)
       rw [flat_elem (d := 0) (fun x hx => (show (intC _).length = 1 from rfl)) hlj163] at hc163
       replace hc163 : (cellsAt _ [.int .i64 ((((usedL ((stT y ts ts.length).1)).getD q 0) : Nat) : Int)]).holds _ := hc163
       refine qt hE rfl hc163 one3 (by intro X h;cases h;first | (simp;done) | (intro b hb hx;exact hx.2.2 (rdB_sub (hp100 _ hb)))) rfl fun a hE=>?_
       rcases usedL_four (h := (stT y ts ts.length).1) (i := q) (by omega) with hcas2 | hcas2 | hcas2 | hcas2
       ·have hup := used_up (h := (stT y ts ts.length).1) (q := q) (k := k) (by omega) (by omega)
        rw [hcas2,hcase] at hup
        replace hE := hE.cast 164 rfl (show _ = Value.int .i64 0 from congrArg (fun q : Nat => Value.int .i64 (q : Int)) hcas2)
        have hu2 : (getS (stT y ts ts.length).1 0).1 = true := usedL_getS (by have hm := usedL_mem (h := (stT y ts ts.length).1) (i := q) (by omega);rw [hcas2] at hm;exact hm)
        have hfar := (inv_all (a := y) (ts := ts) ts.length).far 0 2 (by decide) (by decide) hu2 hus
        simp only [getS] at hfar
        refine sf hE rfl fo62_2 fun a hE=>qp (j := 0) hE rfl rfl arr60 rfl (by decide) rfl fun a hE=>?_
        refine sf hE rfl fo59_2 fun a hE=>?_
        refine ql hE rfl (hM.get 4 rfl) row57 rfl (by intro X h;cases h;first | (simp;done) | (intro b hb hx;exact hx.2.2 (rdB_sub (hp100 _ hb)))) rfl fun a hE=>?_
        refine sf hE rfl fo59_2 fun a hE=>?_
        refine ql hE rfl (hM.get 1 rfl) row57 rfl (by intro X h;cases h;first | (simp;done) | (intro b hb hx;exact hx.2.2 (rdB_sub (hp100 _ hb)))) rfl fun a hE=>?_
        refine s_bin hE rfl rfl (eqa57 ((stT_ok hl_y ho_ts ts.length).1).s0.2.1 ((stT_ok hl_y ho_ts ts.length).1).s2.2.1).1 rfl fun a hE=>qa (K23 ?_)
        replace hE := hE.cast 171 rfl (show _ = Value.bool false from (congrArg Value.bool (decide_eq_false (fun e => by have := hfar e;omega))))
        refine wcf hE rfl (wp_skip (qe (K22 (wpp (sm hE rfl fun a hE=>sb hE rfl rfl (show Bin _ _ _ _ _ (.int .i64 ((q + 1 : Nat) : Int)) from bin_add (by rw [wrap_i64 (by omega) (by omega)];omega)) fun a hE=>?_)))))
        refine sas hE rfl fun a hE=>qa ?_
        replace hE := hE.cast 20 rfl (show _ = Value.int .i64 (((q + 1) : Nat) : Int) from (congrArg _ (by omega)))
        replace hM : Mem _ _ w18 [_,_,_,_,_,_,_,_,_] := hM.pick [0,1,2,3,4,5,6,7,8] rfl
        exact ⟨q + 1,⟨by omega,hE.sel [1,2,4,5,6,7,14,15,16,17,18,19,20,23,29,86,155] rfl,hM⟩,by omega⟩
       ·have hup := used_up (h := (stT y ts ts.length).1) (q := q) (k := k) (by omega) (by omega)
        rw [hcas2,hcase] at hup
        replace hE := hE.cast 164 rfl (show _ = Value.int .i64 1 from congrArg (fun q : Nat => Value.int .i64 (q : Int)) hcas2)
        have hu2 : (getS (stT y ts ts.length).1 1).1 = true := usedL_getS (by have hm := usedL_mem (h := (stT y ts ts.length).1) (i := q) (by omega);rw [hcas2] at hm;exact hm)
        have hfar := (inv_all (a := y) (ts := ts) ts.length).far 1 2 (by decide) (by decide) hu2 hus
        simp only [getS] at hfar
        refine sf hE rfl fo62_2 fun a hE=>qp (j := 1) hE rfl rfl arr60 rfl (by decide) rfl fun a hE=>?_
        refine sf hE rfl fo59_2 fun a hE=>?_
        refine ql hE rfl (hM.get 4 rfl) row57 rfl (by intro X h;cases h;first | (simp;done) | (intro b hb hx;exact hx.2.2 (rdB_sub (hp100 _ hb)))) rfl fun a hE=>?_
        refine sf hE rfl fo59_2 fun a hE=>?_
        refine ql hE rfl (hM.get 1 rfl) row57 rfl (by intro X h;cases h;first | (simp;done) | (intro b hb hx;exact hx.2.2 (rdB_sub (hp100 _ hb)))) rfl fun a hE=>?_
        refine s_bin hE rfl rfl (eqa57 ((stT_ok hl_y ho_ts ts.length).1).s1.2.1 ((stT_ok hl_y ho_ts ts.length).1).s2.2.1).1 rfl fun a hE=>qa (K23 ?_)
        replace hE := hE.cast 171 rfl (show _ = Value.bool false from (congrArg Value.bool (decide_eq_false (fun e => by have := hfar e;omega))))
        refine wcf hE rfl (wp_skip (qe (K22 (wpp (sm hE rfl fun a hE=>sb hE rfl rfl (show Bin _ _ _ _ _ (.int .i64 ((q + 1 : Nat) : Int)) from bin_add (by rw [wrap_i64 (by omega) (by omega)];omega)) fun a hE=>?_)))))
        refine sas hE rfl fun a hE=>qa ?_
        replace hE := hE.cast 20 rfl (show _ = Value.int .i64 (((q + 1) : Nat) : Int) from (congrArg _ (by omega)))
        replace hM : Mem _ _ w18 [_,_,_,_,_,_,_,_,_] := hM.pick [0,1,2,3,4,5,6,7,8] rfl
        exact ⟨q + 1,⟨by omega,hE.sel [1,2,4,5,6,7,14,15,16,17,18,19,20,23,29,86,155] rfl,hM⟩,by omega⟩
       ·have hup := used_up (h := (stT y ts ts.length).1) (q := q) (k := k) (by omega) (by omega)
        rw [hcas2,hcase] at hup
        exact absurd hup (by decide)
       ·have hup := used_up (h := (stT y ts ts.length).1) (q := q) (k := k) (by omega) (by omega)
        rw [hcas2,hcase] at hup
        exact absurd hup (by decide)
      ·replace hb158 := of_decide_eq_false hb158
       replace hb158 : ¬ (q < k) := by omega
       obtain rfl : k = q := by omega
       refine wcf hE rfl (wp_exit (qc (qc (qg (qe (K15 (wpp (sm hE rfl fun a hE=>sb hE rfl rfl (show Bin _ _ _ _ _ (.int .i64 ((k + 1 : Nat) : Int)) from bin_add (by rw [wrap_i64 (by omega) (by omega)];omega)) fun a hE=>?_))))))))
       refine sas hE rfl fun a hE=>qa ?_
       replace hE := hE.cast 15 rfl (show _ = Value.int .i64 (((k + 1) : Nat) : Int) from (congrArg _ (by omega)))
       replace hM : Mem _ _ w17 [_,_,_,_,_,_,_] := hM.pick [2,3,4,5,6,7,8] rfl
       exact ⟨k + 1,⟨by omega,hE.sel [1,2,4,5,6,7,14,15,23,29] rfl,hM⟩,by omega⟩
    ·replace hE := hE.cast 92 rfl (show _ = Value.int .i64 3 from congrArg (fun q : Nat => Value.int .i64 (q : Int)) hcase)
     have hus : (getS (stT y ts ts.length).1 3).1 = true := usedL_getS (by have hm := usedL_mem (h := (stT y ts ts.length).1) (i := k) (by omega);rw [hcase] at hm;exact hm)
     obtain ⟨f1,f2,f3,f4,f5⟩ := inv_open hl_y (inv_all ts.length) (by decide) hus
     simp only [getS,getI] at f1 f2 f3 f4 f5
     refine sf hE rfl fo62_2 fun a hE=>qp (j := 3) hE rfl rfl arr60 rfl (by decide) rfl fun a hE=>?_
     refine ql hE rfl (hM.get 2 rfl) row59 rfl (by intro X h;cases h) rfl fun a hE=>?_
     replace hE := hE.cast 95 rfl (show _ = Value.agg ([[.bool (((stT y ts ts.length).1).s3.1)],[.int .i64 (((stT y ts ts.length).1).s3.2.1)],bv (((stT y ts ts.length).1).s3.2.2.1),bv (((stT y ts ts.length).1).s3.2.2.2.1),bv (((stT y ts ts.length).1).s3.2.2.2.2)] : List (List Value)).flatten.toArray from (by first | rfl | simp only [List.flatten_cons,List.flatten_nil,List.append_nil,List.append_assoc]))
     refine qo [1,1,16,32,32] hE hM zeroL59 rfl rfl fun a b16 w9 hE hM=>?_
     have hsl2087_2 : (((stT y ts ts.length).1).s3.2.2.1).length = 16 := ((stT_ok hl_y ho_ts ts.length).1).s3.2.1
     have hsl2087_3 : (((stT y ts ts.length).1).s3.2.2.2.1).length = 32 := ((stT_ok hl_y ho_ts ts.length).1).s3.2.2.1
     have hsl2087_4 : (((stT y ts ts.length).1).s3.2.2.2.2).length = 32 := ((stT_ok hl_y ho_ts ts.length).1).s3.2.2.2
     refine qq 0 5 (vss := [[.bool (((stT y ts ts.length).1).s3.1)],[.int .i64 (((stT y ts ts.length).1).s3.2.1)],bv (((stT y ts ts.length).1).s3.2.2.1),bv (((stT y ts ts.length).1).s3.2.2.2.1),bv (((stT y ts ts.length).1).s3.2.2.2.2)]) hE rfl rfl hM rfl sz59 (by simp only [List.take_succ_cons,List.take_zero,List.drop_zero,List.drop_succ_cons];simp only [List.map_cons,List.map_nil,vh,List.length_cons,List.length_nil,List.length_replicate,hsl2087_2,hsl2087_3,hsl2087_4]) (by decide) rfl (one_fl ⟨one1 rfl,one1 rfl,vc _,vc _,vc _,trivial⟩) rfl (by intro X h;cases h) fun w10 hM=>?_
     try simp only [List.take_zero,List.take_succ_cons,List.drop_zero,List.drop_succ_cons,List.take_nil,List.drop_nil,List.nil_append,List.append_nil,List.cons_append] at hM
     refine qa (K16 ?_)
     refine wp_seq_j (fun a w' => ∃ (b17 : Nat),Env a 173 [(1,vt),(2,.pointer (some ⟨b2,0,none⟩)),(4,.bool false),(5,.pointer (some ⟨b5,0,none⟩)),(6,.pointer (some ⟨b6,0,none⟩)),(7,.int .i64 ((ts.length : Nat) : Int)),(14,v82_0),(15,.int .i64 ((k : Nat) : Int)),(16,.pointer (some ⟨b16,0,none⟩)),(17,.pointer (some ⟨b17,0,none⟩)),(18,.int .i64 (((unl ((stT y ts ts.length).1) (((stT y ts ts.length).2).n3.2.1)).2.1 : Nat) : Int)),(19,.int .i64 (((unl ((stT y ts ts.length).1) (((stT y ts ts.length).2).n3.2.1)).2.2 : Nat) : Int)),(23,.bool false),(29,.bool false),(86,.bool true)] ∧ Mem w [] w' [blk b17 [bv ((unl ((stT y ts ts.length).1) (((stT y ts ts.length).2).n3.2.1)).1)] [32] 23,blk b16 [[.bool (((stT y ts ts.length).1).s3.1)],[.int .i64 (((stT y ts ts.length).1).s3.2.1)],bv (((stT y ts ts.length).1).s3.2.2.1),bv (((stT y ts ts.length).1).s3.2.2.2.1),bv (((stT y ts ts.length).1).s3.2.2.2.2)] [1,1,16,32,32] 59,own v82_0 1 ((usedL ((stT y ts ts.length).1)).length) ((usedL ((stT y ts ts.length).1)).flatMap intC),blk b6 [bv (((stT y ts ts.length).2).n0.1),[.string (str ((stT y ts ts.length).2).n0.2.1)],bv (((stT y ts ts.length).2).n0.2.2.1),[.int .i64 (((stT y ts ts.length).2).n0.2.2.2)],bv (((stT y ts ts.length).2).n1.1),[.string (str ((stT y ts ts.length).2).n1.2.1)],bv (((stT y ts ts.length).2).n1.2.2.1),[.int .i64 (((stT y ts ts.length).2).n1.2.2.2)],bv (((stT y ts ts.length).2).n2.1),[.string (str ((stT y ts ts.length).2).n2.2.1)],bv (((stT y ts ts.length).2).n2.2.2.1),[.int .i64 (((stT y ts ts.length).2).n2.2.2.2)],bv (((stT y ts ts.length).2).n3.1),[.string (str ((stT y ts ts.length).2).n3.2.1)],bv (((stT y ts ts.length).2).n3.2.2.1),[.int .i64 (((stT y ts ts.length).2).n3.2.2.2)]] [32,1,16,1,32,1,16,1,32,1,16,1,32,1,16,1] 87,blk b5 [[.int .i64 (((stT y ts ts.length).1).m)],[.int .i64 (((stT y ts ts.length).1).r)],[.bool (((stT y ts ts.length).1).v0.1)],[.int .u64 ((((stT y ts ts.length).1).v0.2.1 : Nat) : Int)],bv (((stT y ts ts.length).1).v0.2.2.1),bv (((stT y ts ts.length).1).v0.2.2.2),[.bool (((stT y ts ts.length).1).v1.1)],[.int .u64 ((((stT y ts ts.length).1).v1.2.1 : Nat) : Int)],bv (((stT y ts ts.length).1).v1.2.2.1),bv (((stT y ts ts.length).1).v1.2.2.2),[.bool (((stT y ts ts.length).1).s0.1)],[.int .i64 (((stT y ts ts.length).1).s0.2.1)],bv (((stT y ts ts.length).1).s0.2.2.1),bv (((stT y ts ts.length).1).s0.2.2.2.1),bv (((stT y ts ts.length).1).s0.2.2.2.2),[.bool (((stT y ts ts.length).1).s1.1)],[.int .i64 (((stT y ts ts.length).1).s1.2.1)],bv (((stT y ts ts.length).1).s1.2.2.1),bv (((stT y ts ts.length).1).s1.2.2.2.1),bv (((stT y ts ts.length).1).s1.2.2.2.2),[.bool (((stT y ts ts.length).1).s2.1)],[.int .i64 (((stT y ts ts.length).1).s2.2.1)],bv (((stT y ts ts.length).1).s2.2.2.1),bv (((stT y ts ts.length).1).s2.2.2.2.1),bv (((stT y ts ts.length).1).s2.2.2.2.2),[.bool (((stT y ts ts.length).1).s3.1)],[.int .i64 (((stT y ts ts.length).1).s3.2.1)],bv (((stT y ts ts.length).1).s3.2.2.1),bv (((stT y ts ts.length).1).s3.2.2.2.1),bv (((stT y ts ts.length).1).s3.2.2.2.2)] [1,1,1,1,32,32,1,1,32,32,1,1,16,32,32,1,1,16,32,32,1,1,16,32,32,1,1,16,32,32] 62,blk b2 [bv y] [32] 23,rd vt 52 ts.length ct (ts.flatMap tnC),glb 1,tabP]) ?_ ?_
     ·refine qz hM (by kernel_rfl) (fun _ => True) (fun _ => True) (.re [(1,true),(2,true),(3,true),(0,true),(4,true),(5,true),(6,true),(7,true),(8,false),(9,true),(10,true),(11,true),(12,true),(13,false),(14,false),(15,true),(16,true)] (.fl 3 (.weak (.fl 5 (.or 8 (.re [(9,true),(10,true),(11,true),(12,true),(13,false),(14,false),(15,true),(16,true)] (.fl 4 (.fl 0 (.or 13 (.re [(14,false),(15,true),(16,true)] (.fl 0 (.fl 0 (.or 14 (.re [(15,true),(16,true)] (.leaf 2)) (.stop))))) (.stop))))) (.or 13 (.cut (.re [(8,false),(9,true),(10,true),(11,true),(12,true),(14,false),(15,true),(16,true)] (.fl 0 (.fl 0 (.or 8 (.re [(9,true),(10,true),(11,true),(12,true),(14,false),(15,true),(16,true)] (.fl 4 (.fl 0 (.weak (.or 14 (.re [(15,true),(16,true)] (.leaf 2)) (.stop)))))) (.stop)))))) (.stop))))))) [(1,true),(2,true),(3,true),(0,true),(4,true),(5,true),(6,true),(7,true),(8,false),(9,true),(10,true),(11,true),(12,true),(13,false),(14,false),(15,true),(16,true)] [(0,[(8,0),(9,8),(10,9),(11,9),(12,9),(14,0),(15,0),(16,0)]),(3,[(4,3),(5,4),(6,5),(7,6),(8,7),(9,8),(10,9),(11,9),(12,9),(14,3),(15,3),(16,3)]),(4,[(5,4),(6,5),(7,6),(8,7),(9,8),(10,9),(11,9),(12,9),(14,4),(15,4),(16,4)]),(5,[(6,5),(7,6),(8,7),(9,8),(10,9),(11,9),(12,9),(14,5),(15,5),(16,5)]),(6,[(7,6),(8,7),(9,8),(10,9),(11,9),(12,9),(14,6),(15,6),(16,6)]),(7,[(8,7),(9,8),(10,9),(11,9),(12,9),(14,7),(15,7),(16,7)]),(8,[(9,8),(10,9),(11,9),(12,9),(14,8),(15,8),(16,8)]),(13,[(14,13),(15,13),(16,13)]),(14,[(15,14),(16,14)])] (by kernel_rfl) ?_
      intro w11 hM' hww11;replace hM := hM'
      refine o_re (o_fl rfl (sm hE rfl fun a hE=>sm hE rfl fun a hE=>?_))
      obtain ⟨cx100,hx100⟩ := own_rd (hM.get 1 rfl)
      refine qu (j := k) hE rfl hx100 rfl slt77 (by first | rfl | omega) (by omega) rfl fun a p100 hE hc100 hp100=>?_
      have hlj100 : k < (usedL ((stT y ts ts.length).1)).length := (by omega)
      have hok100 := usedL_lt _ (getD_mem (d := 0) hlj100)
      rw [flat_elem (d := 0) (fun x hx => (show (intC _).length = 1 from rfl)) hlj100] at hc100
      refine qa (qh (vb (fun b => b ≠ b5 ∧ b ≠ b6 ∧ b ∉ valBlocks v82_0) (fun _ _ => trivial) (o_fl rfl ?_)))
      refine ql hE rfl (hM.get 3 rfl) row62 rfl (by intro X h;cases h;first | (simp;done) | (intro b hb hx;exact hx.2.2 (rdB_sub (hp100 _ hb)))) rfl fun a hE=>?_
      replace hE := hE.cast 97 rfl (show _ = Value.agg ([[.int .i64 (((stT y ts ts.length).1).m)],[.int .i64 (((stT y ts ts.length).1).r)],[.bool (((stT y ts ts.length).1).v0.1)],[.int .u64 ((((stT y ts ts.length).1).v0.2.1 : Nat) : Int)],bv (((stT y ts ts.length).1).v0.2.2.1),bv (((stT y ts ts.length).1).v0.2.2.2),[.bool (((stT y ts ts.length).1).v1.1)],[.int .u64 ((((stT y ts ts.length).1).v1.2.1 : Nat) : Int)],bv (((stT y ts ts.length).1).v1.2.2.1),bv (((stT y ts ts.length).1).v1.2.2.2),[.bool (((stT y ts ts.length).1).s0.1)],[.int .i64 (((stT y ts ts.length).1).s0.2.1)],bv (((stT y ts ts.length).1).s0.2.2.1),bv (((stT y ts ts.length).1).s0.2.2.2.1),bv (((stT y ts ts.length).1).s0.2.2.2.2),[.bool (((stT y ts ts.length).1).s1.1)],[.int .i64 (((stT y ts ts.length).1).s1.2.1)],bv (((stT y ts ts.length).1).s1.2.2.1),bv (((stT y ts ts.length).1).s1.2.2.2.1),bv (((stT y ts ts.length).1).s1.2.2.2.2),[.bool (((stT y ts ts.length).1).s2.1)],[.int .i64 (((stT y ts ts.length).1).s2.2.1)],bv (((stT y ts ts.length).1).s2.2.2.1),bv (((stT y ts ts.length).1).s2.2.2.2.1),bv (((stT y ts ts.length).1).s2.2.2.2.2),[.bool (((stT y ts ts.length).1).s3.1)],[.int .i64 (((stT y ts ts.length).1).s3.2.1)],bv (((stT y ts ts.length).1).s3.2.2.1),bv (((stT y ts ts.length).1).s3.2.2.2.1),bv (((stT y ts ts.length).1).s3.2.2.2.2)] : List (List Value)).flatten.toArray from (by first | rfl | simp only [List.flatten_cons,List.flatten_nil,List.append_nil,List.append_assoc]))
      replace hc100 : (cellsAt _ [.int .i64 ((((usedL ((stT y ts ts.length).1)).getD k 0) : Nat) : Int)]).holds _ := hc100
      refine qt hE rfl hc100 one3 (by intro X h;cases h;first | (simp;done) | (intro b hb hx;exact hx.2.2 (rdB_sub (hp100 _ hb)))) rfl fun a hE=>?_
      replace hE := hE.cast 101 rfl (show _ = Value.int .i64 3 from congrArg (fun q : Nat => Value.int .i64 (q : Int)) hcase)
      refine qp (j := 3) hE rfl rfl arr87 rfl (by decide) rfl fun a hE=>?_
      refine sf hE rfl fo84_1 fun a hE=>?_
      refine qm hE rfl (hM.get 2 rfl) rfl one9 (by intro X h;cases h;first | (simp;done) | (intro b hb hx;exact hx.2.2 (rdB_sub (hp100 _ hb)))) rfl fun a hE=>?_
      refine qa (qh ?_)
      refine o_or rfl ?_ ?_
      ·refine qn hE rfl Tryd.call29 (unlock_c ((stT y ts ts.length).1) (((stT y ts ts.length).2).n3.2.1) _ (hM.get 6 rfl) (hM.get 7 rfl) ((stT_ok hl_y ho_ts ts.length).1)) rfl ?_
       rintro e w12 ⟨rfl,hN⟩
       refine ⟨_,rfl,hN.sta0 _,fun a hE=>?_⟩
       replace hM : Mem _ _ w12 [_,_,_,_,_,_,_,_] := hM.call0 hN trivial;clear hN
       refine qa (qh (o_re (o_fl rfl (sm hE rfl fun a hE=>sx hE rfl fun a hE=>sx hE rfl fun a hE=>sx hE rfl fun a hE=>qa (qh (o_fl rfl (qa (qh ?_))))))))
       refine o_or rfl ?_ ?_
       ·refine qo [32] hE hM zero23 rfl rfl fun a b17 w13 hE hM=>qa (qh (o_re (o_fl rfl (qa (qh (o_fl rfl (qa (qh ?_))))))))
        refine o_or rfl ?_ ?_
        ·refine qr 0 hE rfl rfl hM rfl sz23 ((vh _).trans (unl_len ((stT_ok hl_y ho_ts ts.length).1) (((stT y ts ts.length).2).n3.2.1))) (vc _) rfl ((vh _).trans (by first | (simp;done) | (simp [*];done) | (simp;omega))) rfl (by intro X h;cases h;exact ⟨fun e => ((apart_of_get hM.apart (i := 0) (j := 4) rfl rfl (by decide)).1 _ (.head _)).1 (by rw [e];exact .head _),fun e => ((apart_of_get hM.apart (i := 0) (j := 3) rfl rfl (by decide)).1 _ (.head _)).1 (by rw [e];exact .head _),fun hv => ((apart_of_get hM.apart (i := 0) (j := 2) rfl rfl (by decide)).1 _ (.head _)).1 hv⟩) ?_;intro w14 hM
         simp only [List.set_cons_zero,List.set_cons_succ] at hM
         refine qa (qh (o_re (va rfl rfl (sas hE rfl fun a hE=>sas hE rfl fun a hE=>qa (q_ph (qa ?_))))))
         replace hM : Mem _ _ w14 [_,_,_,_,_,_,_,_,_] := hM.pick [0,1,2,3,4,5,6,7,8] rfl
         refine qd ⟨_,hE.sel [1,2,4,5,6,7,14,15,16,17,18,19,23,29,86] rfl,hM⟩
        trivial
       trivial
      refine o_or rfl ?_ ?_
      ·refine qo [32] hE hM zero23 rfl rfl fun a b17 w12 hE hM=>qa (qh (o_cut (fun _ => True) (o_re (o_fl rfl (qa (qh (o_fl rfl (qa (qh ?_)))))))))
       refine o_or rfl ?_ ?_
       ·refine qn hE rfl Tryd.call29 (unlock_c ((stT y ts ts.length).1) (((stT y ts ts.length).2).n3.2.1) _ (hM.get 7 rfl) (hM.get 8 rfl) ((stT_ok hl_y ho_ts ts.length).1)) rfl ?_
        rintro e w13 ⟨rfl,hN⟩
        refine ⟨_,rfl,hN.sta0 _,fun a hE=>?_⟩
        replace hM : Mem _ _ w13 [_,_,_,_,_,_,_,_,_] := hM.call0 hN trivial;clear hN
        refine qa (qh (o_re (o_fl rfl (sm hE rfl fun a hE=>sx hE rfl fun a hE=>sx hE rfl fun a hE=>sx hE rfl fun a hE=>qa (qh (o_fl rfl (qa (qh ?_))))))))
        refine vb (fun b => b = b17) (fun _ _ => trivial) ?_
        refine o_or rfl ?_ ?_
        ·refine qr 0 hE rfl rfl hM rfl sz23 ((vh _).trans (unl_len ((stT_ok hl_y ho_ts ts.length).1) (((stT y ts ts.length).2).n3.2.1))) (vc _) rfl ((vh _).trans (by first | (simp;done) | (simp [*];done) | (simp;omega))) rfl (by intro X h;cases h;rfl) fun w14 hM=>?_
         simp only [List.set_cons_zero,List.set_cons_succ] at hM
         refine qa (qh (o_re (va rfl rfl (sas hE rfl fun a hE=>sas hE rfl fun a hE=>qa (q_ph (qa ?_))))))
         replace hM : Mem _ _ w14 [_,_,_,_,_,_,_,_,_] := hM.pick [0,1,2,3,4,5,6,7,8] rfl
         refine qd ⟨_,hE.sel [1,2,4,5,6,7,14,15,16,17,18,19,23,29,86] rfl,hM⟩
        trivial
       trivial
      trivial
     rintro a w15 ⟨b17,hE,hM⟩
     refine ww1 fun _ K17=>ww1 fun _ K18=>wp_drawnM hM (by kernel_rfl) (fun _ => False) [(0,true),(1,true),(2,true),(3,true),(4,true),(5,true),(6,true),(7,true),(8,true),(9,true),(10,true),(11,true),(12,true),(13,true),(14,true),(15,true),(16,true),(17,true),(18,true),(19,true),(20,true),(21,true),(22,true),(23,true),(24,true),(25,true),(26,true),(27,true),(28,true),(29,true),(30,true),(31,true),(32,true),(33,true),(34,true),(35,true),(36,true),(37,true),(38,true),(39,true),(40,true),(41,true),(42,true),(43,true),(44,true),(45,true),(46,true)] [] (by kernel_rfl) rfl ?_
     intro w16 hM' hww16;replace hM := hM'
     refine sf hE rfl fo59_2 fun a hE=>?_
     refine ql hE rfl (hM.get 1 rfl) row57 rfl (by intro X h;cases h;first | (simp;done) | (intro b hb hx;exact hx.2.2 (rdB_sub (hp100 _ hb)))) rfl fun a hE=>?_
     refine sm hE rfl fun a hE=>sm hE rfl fun a hE=>?_
     obtain ⟨cx113,hx113⟩ := own_rd (hM.get 2 rfl)
     refine qu (j := k) hE rfl hx113 rfl slt77 (by first | rfl | omega) (by omega) rfl fun a p113 hE hc113 hp113=>?_
     have hlj113 : k < (usedL ((stT y ts ts.length).1)).length := (by omega)
     have hok113 := usedL_lt _ (getD_mem (d := 0) hlj113)
     rw [flat_elem (d := 0) (fun x hx => (show (intC _).length = 1 from rfl)) hlj113] at hc113
     replace hc113 : (cellsAt _ [.int .i64 ((((usedL ((stT y ts ts.length).1)).getD k 0) : Nat) : Int)]).holds _ := hc113
     refine qt hE rfl hc113 one3 (by intro X h;cases h;first | (simp;done) | (intro b hb hx;exact hx.2.2 (rdB_sub (hp100 _ hb)))) rfl fun a hE=>?_
     replace hE := hE.cast 114 rfl (show _ = Value.int .i64 3 from congrArg (fun q : Nat => Value.int .i64 (q : Int)) hcase)
     refine qp (j := 3) hE rfl rfl arr87 rfl (by decide) rfl fun a hE=>?_
     refine sf hE rfl fo84_2 fun a hE=>?_
     refine ql hE rfl (hM.get 3 rfl) row57 rfl (by intro X h;cases h;first | (simp;done) | (intro b hb hx;exact hx.2.2 (rdB_sub (hp100 _ hb)))) rfl fun a hE=>?_
     refine s_bin hE rfl rfl (eqa57 ((stT_ok hl_y ho_ts ts.length).1).s3.2.1 ((stT_ok hl_y ho_ts ts.length).2).n3.2.1).2 rfl fun a hE=>sm hE rfl fun a hE=>?_
     replace hE := hE.cast 119 rfl (show _ = Value.bool false from (congrArg Value.bool (by rw [f1];simp)))
     refine gy hE rfl (sf hE rfl fo59_1 fun a hE=>gy hE rfl ?_)
     refine qm hE rfl (hM.get 1 rfl) rfl one3 (by intro X h;cases h;first | (simp;done) | (intro b hb hx;exact hx.2.2 (rdB_sub (hp100 _ hb)))) rfl fun a hE=>?_
     refine gy hE rfl (sm hE rfl fun a hE=>gy hE rfl (sm hE rfl fun a hE=>gy hE rfl ?_))
     obtain ⟨cx124,hx124⟩ := own_rd (hM.get 2 rfl)
     refine qu (j := k) hE rfl hx124 rfl slt77 (by first | rfl | omega) (by omega) rfl fun a p124 hE hc124 hp124=>?_
     have hlj124 : k < (usedL ((stT y ts ts.length).1)).length := (by omega)
     have hok124 := usedL_lt _ (getD_mem (d := 0) hlj124)
     rw [flat_elem (d := 0) (fun x hx => (show (intC _).length = 1 from rfl)) hlj124] at hc124
     refine gy hE rfl ?_
     replace hc124 : (cellsAt _ [.int .i64 ((((usedL ((stT y ts ts.length).1)).getD k 0) : Nat) : Int)]).holds _ := hc124
     refine qt hE rfl hc124 one3 (by intro X h;cases h;first | (simp;done) | (intro b hb hx;exact hx.2.2 (rdB_sub (hp100 _ hb)))) rfl fun a hE=>?_
     replace hE := hE.cast 125 rfl (show _ = Value.int .i64 3 from congrArg (fun q : Nat => Value.int .i64 (q : Int)) hcase)
     refine gy hE rfl (qp (j := 3) hE rfl rfl arr87 rfl (by decide) rfl fun a hE=>?_)
     refine gy hE rfl (sf hE rfl fo84_3 fun a hE=>gy hE rfl ?_)
     refine qm hE rfl (hM.get 3 rfl) rfl one3 (by intro X h;cases h;first | (simp;done) | (intro b hb hx;exact hx.2.2 (rdB_sub (hp100 _ hb)))) rfl fun a hE=>?_
     refine gy hE rfl (sb hE rfl rfl bin_neq fun a hE=>pkf hE rfl fun a hE=>sm hE rfl fun a hE=>?_)
     replace hE := hE.cast 131 rfl (show _ = Value.bool false from (congrArg Value.bool (by rw [f2];simp)))
     refine gy hE rfl (sm hE rfl fun a hE=>gy hE rfl (sb hE rfl rfl bin_neq fun a hE=>pkf hE rfl fun a hE=>sm hE rfl fun a hE=>?_))
     replace hE := hE.cast 135 rfl (show _ = Value.bool false from (congrArg Value.bool (by rw [f3];rfl)))
     refine gy hE rfl (sm hE rfl fun a hE=>gy hE rfl (sm hE rfl fun a hE=>gy hE rfl (sm hE rfl fun a hE=>gy hE rfl ?_)))
     obtain ⟨cx139,hx139⟩ := own_rd (hM.get 2 rfl)
     refine qu (j := k) hE rfl hx139 rfl slt77 (by first | rfl | omega) (by omega) rfl fun a p139 hE hc139 hp139=>?_
     have hlj139 : k < (usedL ((stT y ts ts.length).1)).length := (by omega)
     have hok139 := usedL_lt _ (getD_mem (d := 0) hlj139)
     rw [flat_elem (d := 0) (fun x hx => (show (intC _).length = 1 from rfl)) hlj139] at hc139
     refine gy hE rfl ?_
     replace hc139 : (cellsAt _ [.int .i64 ((((usedL ((stT y ts ts.length).1)).getD k 0) : Nat) : Int)]).holds _ := hc139
     refine qt hE rfl hc139 one3 (by intro X h;cases h;first | (simp;done) | (intro b hb hx;exact hx.2.2 (rdB_sub (hp100 _ hb)))) rfl fun a hE=>?_
     replace hE := hE.cast 140 rfl (show _ = Value.int .i64 3 from congrArg (fun q : Nat => Value.int .i64 (q : Int)) hcase)
     refine gy hE rfl (sb hE rfl rfl bin_gtr fun a hE=>pkf hE rfl fun a hE=>sm hE rfl fun a hE=>?_)
     replace hE := hE.cast 143 rfl (show _ = Value.bool false from (congrArg Value.bool (decide_eq_false (by omega))))
     refine gy hE rfl (sm hE rfl fun a hE=>gy hE rfl (sm hE rfl fun a hE=>gy hE rfl (sm hE rfl fun a hE=>gy hE rfl ?_)))
     obtain ⟨cx147,hx147⟩ := own_rd (hM.get 2 rfl)
     refine qu (j := k) hE rfl hx147 rfl slt77 (by first | rfl | omega) (by omega) rfl fun a p147 hE hc147 hp147=>?_
     have hlj147 : k < (usedL ((stT y ts ts.length).1)).length := (by omega)
     have hok147 := usedL_lt _ (getD_mem (d := 0) hlj147)
     rw [flat_elem (d := 0) (fun x hx => (show (intC _).length = 1 from rfl)) hlj147] at hc147
     refine gy hE rfl ?_
     replace hc147 : (cellsAt _ [.int .i64 ((((usedL ((stT y ts ts.length).1)).getD k 0) : Nat) : Int)]).holds _ := hc147
     refine qt hE rfl hc147 one3 (by intro X h;cases h;first | (simp;done) | (intro b hb hx;exact hx.2.2 (rdB_sub (hp100 _ hb)))) rfl fun a hE=>?_
     replace hE := hE.cast 148 rfl (show _ = Value.int .i64 3 from congrArg (fun q : Nat => Value.int .i64 (q : Int)) hcase)
     refine gy hE rfl (sb hE rfl rfl bin_eql fun a hE=>gy hE rfl (sm hE rfl fun a hE=>?_))
     refine hE.split 150 rfl (fun hb150 hE=>?_) (fun hb150 hE=>?_)
     ·replace hb150 := of_decide_eq_true hb150
      replace hb150 : ((unl ((stT y ts ts.length).1) (((stT y ts ts.length).2).n3.2.1)).2.1) = 3 := by omega
      refine gy hE rfl ?_
      refine ql hE rfl (hM.get 0 rfl) row23 rfl (by intro X h;cases h;first | (simp;done) | (intro b hb hx;exact hx.2.2 (rdB_sub (hp100 _ hb)))) rfl fun a hE=>?_
      refine gy hE rfl ?_
      refine ql hE rfl (hM.get 5 rfl) row23 rfl (by intro X h;cases h;first | (simp;done) | (intro b hb hx;exact hx.2.2 (rdB_sub (hp100 _ hb)))) rfl fun a hE=>?_
      refine gy hE rfl (s_bin hE rfl rfl (eqa23 (unl_len ((stT_ok hl_y ho_ts ts.length).1) (((stT y ts ts.length).2).n3.2.1)) hl_y).2 rfl fun a hE=>gy hE rfl (pkt hE rfl fun a hE=>pkf hE rfl fun a hE=>qa (K18 ?_)))
      replace hE := hE.cast 155 rfl (show _ = Value.bool false from (congrArg Value.bool (by rw [f5 (by omega)];simp)))
      refine wcf hE rfl (wp_skip (K17 (ww1 fun _ K19=>wpp (sas hE rfl fun a hE=>qa (K19 (wp_block (c_loop (fun (q : Nat) a w' => q ≤ k ∧ Env a 173 [(1,vt),(2,.pointer (some ⟨b2,0,none⟩)),(4,.bool false),(5,.pointer (some ⟨b5,0,none⟩)),(6,.pointer (some ⟨b6,0,none⟩)),(7,.int .i64 ((ts.length : Nat) : Int)),(14,v82_0),(15,.int .i64 ((k : Nat) : Int)),(16,.pointer (some ⟨b16,0,none⟩)),(17,.pointer (some ⟨b17,0,none⟩)),(18,.int .i64 (((unl ((stT y ts ts.length).1) (((stT y ts ts.length).2).n3.2.1)).2.1 : Nat) : Int)),(19,.int .i64 (((unl ((stT y ts ts.length).1) (((stT y ts ts.length).2).n3.2.1)).2.2 : Nat) : Int)),(20,.int .i64 ((q : Nat) : Int)),(23,.bool false),(29,.bool false),(86,.bool true),(155,.bool false)] ∧ Mem w [] w' [blk b17 [bv ((unl ((stT y ts ts.length).1) (((stT y ts ts.length).2).n3.2.1)).1)] [32] 23,blk b16 [[.bool (((stT y ts ts.length).1).s3.1)],[.int .i64 (((stT y ts ts.length).1).s3.2.1)],bv (((stT y ts ts.length).1).s3.2.2.1),bv (((stT y ts ts.length).1).s3.2.2.2.1),bv (((stT y ts ts.length).1).s3.2.2.2.2)] [1,1,16,32,32] 59,own v82_0 1 ((usedL ((stT y ts ts.length).1)).length) ((usedL ((stT y ts ts.length).1)).flatMap intC),blk b6 [bv (((stT y ts ts.length).2).n0.1),[.string (str ((stT y ts ts.length).2).n0.2.1)],bv (((stT y ts ts.length).2).n0.2.2.1),[.int .i64 (((stT y ts ts.length).2).n0.2.2.2)],bv (((stT y ts ts.length).2).n1.1),[.string (str ((stT y ts ts.length).2).n1.2.1)],bv (((stT y ts ts.length).2).n1.2.2.1),[.int .i64 (((stT y ts ts.length).2).n1.2.2.2)],bv (((stT y ts ts.length).2).n2.1),[.string (str ((stT y ts ts.length).2).n2.2.1)],bv (((stT y ts ts.length).2).n2.2.2.1),[.int .i64 (((stT y ts ts.length).2).n2.2.2.2)],bv (((stT y ts ts.length).2).n3.1),[.string (str ((stT y ts ts.length).2).n3.2.1)],bv (((stT y ts ts.length).2).n3.2.2.1),[.int .i64 (((stT y ts ts.length).2).n3.2.2.2)]] [32,1,16,1,32,1,16,1,32,1,16,1,32,1,16,1] 87,blk b5 [[.int .i64 (((stT y ts ts.length).1).m)],[.int .i64 (((stT y ts ts.length).1).r)],[.bool (((stT y ts ts.length).1).v0.1)],[.int .u64 ((((stT y ts ts.length).1).v0.2.1 : Nat) : Int)],bv (((stT y ts ts.length).1).v0.2.2.1),bv (((stT y ts ts.length).1).v0.2.2.2),[.bool (((stT y ts ts.length).1).v1.1)],[.int .u64 ((((stT y ts ts.length).1).v1.2.1 : Nat) : Int)],bv (((stT y ts ts.length).1).v1.2.2.1),bv (((stT y ts ts.length).1).v1.2.2.2),[.bool (((stT y ts ts.length).1).s0.1)],[.int .i64 (((stT y ts ts.length).1).s0.2.1)],bv (((stT y ts ts.length).1).s0.2.2.1),bv (((stT y ts ts.length).1).s0.2.2.2.1),bv (((stT y ts ts.length).1).s0.2.2.2.2),[.bool (((stT y ts ts.length).1).s1.1)],[.int .i64 (((stT y ts ts.length).1).s1.2.1)],bv (((stT y ts ts.length).1).s1.2.2.1),bv (((stT y ts ts.length).1).s1.2.2.2.1),bv (((stT y ts ts.length).1).s1.2.2.2.2),[.bool (((stT y ts ts.length).1).s2.1)],[.int .i64 (((stT y ts ts.length).1).s2.2.1)],bv (((stT y ts ts.length).1).s2.2.2.1),bv (((stT y ts ts.length).1).s2.2.2.2.1),bv (((stT y ts ts.length).1).s2.2.2.2.2),[.bool (((stT y ts ts.length).1).s3.1)],[.int .i64 (((stT y ts ts.length).1).s3.2.1)],bv (((stT y ts ts.length).1).s3.2.2.1),bv (((stT y ts ts.length).1).s3.2.2.2.1),bv (((stT y ts ts.length).1).s3.2.2.2.2)] [1,1,1,1,32,32,1,1,32,32,1,1,16,32,32,1,1,16,32,32,1,1,16,32,32,1,1,16,32,32] 62,blk b2 [bv y] [32] 23,rd vt 52 ts.length ct (ts.flatMap tnC),glb 1,tabP]) (fun q => k - q) 0 ⟨Nat.zero_le _,hE.sel [1,2,4,5,6,7,14,15,16,17,18,19,20,23,29,86,155] rfl,hM⟩ ?_)))))))
      rintro q a w17 ⟨hq,hE,hM⟩
      refine ww1 fun _ K20=>ww1 fun _ K21=>wpp (sm hE rfl fun a hE=>sm hE rfl fun a hE=>sb hE rfl rfl bin_lss fun a hE=>qa (K21 ?_))
      refine hE.split 158 rfl (fun hb158 hE=>?_) (fun hb158 hE=>?_)
      ·replace hb158 := of_decide_eq_true hb158
       replace hb158 : q < k := by omega
       replace hb158 : q < k := by omega
       refine wct hE rfl (wp_skip (K20 (ww1 fun _ K22=>wp_block (ww1 fun _ K23=>wp_drawnM hM (by kernel_rfl) (fun _ => False) [(0,true),(1,true),(2,true),(3,true),(4,true),(5,true),(6,true),(7,true),(8,true),(9,true),(10,true)] [] (by kernel_rfl) rfl ?_))))
       intro w18 hM' hww18;replace hM := hM'
       refine sm hE rfl fun a hE=>sm hE rfl fun a hE=>?_
       obtain ⟨cx163,hx163⟩ := own_rd (hM.get 2 rfl)
       refine qu (j := q) hE rfl hx163 rfl slt77 (by first | rfl | omega) (by omega) rfl fun a p163 hE hc163 hp163=>?_
       have hlj163 : q < (usedL ((stT y ts ts.length).1)).length := (by omega)
       have hok163 := usedL_lt _ (getD_mem (d := 0) hlj163)
       rw [flat_elem (d := 0) (fun x hx => (show (intC _).length = 1 from rfl)) hlj163] at hc163
       replace hc163 : (cellsAt _ [.int .i64 ((((usedL ((stT y ts ts.length).1)).getD q 0) : Nat) : Int)]).holds _ := hc163
       refine qt hE rfl hc163 one3 (by intro X h;cases h;first | (simp;done) | (intro b hb hx;exact hx.2.2 (rdB_sub (hp100 _ hb)))) rfl fun a hE=>?_
       rcases usedL_four (h := (stT y ts ts.length).1) (i := q) (by omega) with hcas2 | hcas2 | hcas2 | hcas2
       ·have hup := used_up (h := (stT y ts ts.length).1) (q := q) (k := k) (by omega) (by omega)
        rw [hcas2,hcase] at hup
        replace hE := hE.cast 164 rfl (show _ = Value.int .i64 0 from congrArg (fun q : Nat => Value.int .i64 (q : Int)) hcas2)
        have hu2 : (getS (stT y ts ts.length).1 0).1 = true := usedL_getS (by have hm := usedL_mem (h := (stT y ts ts.length).1) (i := q) (by omega);rw [hcas2] at hm;exact hm)
        have hfar := (inv_all (a := y) (ts := ts) ts.length).far 0 3 (by decide) (by decide) hu2 hus
        simp only [getS] at hfar
        refine sf hE rfl fo62_2 fun a hE=>qp (j := 0) hE rfl rfl arr60 rfl (by decide) rfl fun a hE=>?_
        refine sf hE rfl fo59_2 fun a hE=>?_
        refine ql hE rfl (hM.get 4 rfl) row57 rfl (by intro X h;cases h;first | (simp;done) | (intro b hb hx;exact hx.2.2 (rdB_sub (hp100 _ hb)))) rfl fun a hE=>?_
        refine sf hE rfl fo59_2 fun a hE=>?_
        refine ql hE rfl (hM.get 1 rfl) row57 rfl (by intro X h;cases h;first | (simp;done) | (intro b hb hx;exact hx.2.2 (rdB_sub (hp100 _ hb)))) rfl fun a hE=>?_
        refine s_bin hE rfl rfl (eqa57 ((stT_ok hl_y ho_ts ts.length).1).s0.2.1 ((stT_ok hl_y ho_ts ts.length).1).s3.2.1).1 rfl fun a hE=>qa (K23 ?_)
        replace hE := hE.cast 171 rfl (show _ = Value.bool false from (congrArg Value.bool (decide_eq_false (fun e => by have := hfar e;omega))))
        refine wcf hE rfl (wp_skip (qe (K22 (wpp (sm hE rfl fun a hE=>sb hE rfl rfl (show Bin _ _ _ _ _ (.int .i64 ((q + 1 : Nat) : Int)) from bin_add (by rw [wrap_i64 (by omega) (by omega)];omega)) fun a hE=>?_)))))
        refine sas hE rfl fun a hE=>qa ?_
        replace hE := hE.cast 20 rfl (show _ = Value.int .i64 (((q + 1) : Nat) : Int) from (congrArg _ (by omega)))
        replace hM : Mem _ _ w18 [_,_,_,_,_,_,_,_,_] := hM.pick [0,1,2,3,4,5,6,7,8] rfl
        exact ⟨q + 1,⟨by omega,hE.sel [1,2,4,5,6,7,14,15,16,17,18,19,20,23,29,86,155] rfl,hM⟩,by omega⟩
       ·have hup := used_up (h := (stT y ts ts.length).1) (q := q) (k := k) (by omega) (by omega)
        rw [hcas2,hcase] at hup
        replace hE := hE.cast 164 rfl (show _ = Value.int .i64 1 from congrArg (fun q : Nat => Value.int .i64 (q : Int)) hcas2)
        have hu2 : (getS (stT y ts ts.length).1 1).1 = true := usedL_getS (by have hm := usedL_mem (h := (stT y ts ts.length).1) (i := q) (by omega);rw [hcas2] at hm;exact hm)
        have hfar := (inv_all (a := y) (ts := ts) ts.length).far 1 3 (by decide) (by decide) hu2 hus
        simp only [getS] at hfar
        refine sf hE rfl fo62_2 fun a hE=>qp (j := 1) hE rfl rfl arr60 rfl (by decide) rfl fun a hE=>?_
        refine sf hE rfl fo59_2 fun a hE=>?_
        refine ql hE rfl (hM.get 4 rfl) row57 rfl (by intro X h;cases h;first | (simp;done) | (intro b hb hx;exact hx.2.2 (rdB_sub (hp100 _ hb)))) rfl fun a hE=>?_
        refine sf hE rfl fo59_2 fun a hE=>?_
        refine ql hE rfl (hM.get 1 rfl) row57 rfl (by intro X h;cases h;first | (simp;done) | (intro b hb hx;exact hx.2.2 (rdB_sub (hp100 _ hb)))) rfl fun a hE=>?_
        refine s_bin hE rfl rfl (eqa57 ((stT_ok hl_y ho_ts ts.length).1).s1.2.1 ((stT_ok hl_y ho_ts ts.length).1).s3.2.1).1 rfl fun a hE=>qa (K23 ?_)
        replace hE := hE.cast 171 rfl (show _ = Value.bool false from (congrArg Value.bool (decide_eq_false (fun e => by have := hfar e;omega))))
        refine wcf hE rfl (wp_skip (qe (K22 (wpp (sm hE rfl fun a hE=>sb hE rfl rfl (show Bin _ _ _ _ _ (.int .i64 ((q + 1 : Nat) : Int)) from bin_add (by rw [wrap_i64 (by omega) (by omega)];omega)) fun a hE=>?_)))))
        refine sas hE rfl fun a hE=>qa ?_
        replace hE := hE.cast 20 rfl (show _ = Value.int .i64 (((q + 1) : Nat) : Int) from (congrArg _ (by omega)))
        replace hM : Mem _ _ w18 [_,_,_,_,_,_,_,_,_] := hM.pick [0,1,2,3,4,5,6,7,8] rfl
        exact ⟨q + 1,⟨by omega,hE.sel [1,2,4,5,6,7,14,15,16,17,18,19,20,23,29,86,155] rfl,hM⟩,by omega⟩
       ·have hup := used_up (h := (stT y ts ts.length).1) (q := q) (k := k) (by omega) (by omega)
        rw [hcas2,hcase] at hup
        replace hE := hE.cast 164 rfl (show _ = Value.int .i64 2 from congrArg (fun q : Nat => Value.int .i64 (q : Int)) hcas2)
        have hu2 : (getS (stT y ts ts.length).1 2).1 = true := usedL_getS (by have hm := usedL_mem (h := (stT y ts ts.length).1) (i := q) (by omega);rw [hcas2] at hm;exact hm)
        have hfar := (inv_all (a := y) (ts := ts) ts.length).far 2 3 (by decide) (by decide) hu2 hus
        simp only [getS] at hfar
        refine sf hE rfl fo62_2 fun a hE=>qp (j := 2) hE rfl rfl arr60 rfl (by decide) rfl fun a hE=>?_
        refine sf hE rfl fo59_2 fun a hE=>?_
        refine ql hE rfl (hM.get 4 rfl) row57 rfl (by intro X h;cases h;first | (simp;done) | (intro b hb hx;exact hx.2.2 (rdB_sub (hp100 _ hb)))) rfl fun a hE=>?_
        refine sf hE rfl fo59_2 fun a hE=>?_
        refine ql hE rfl (hM.get 1 rfl) row57 rfl (by intro X h;cases h;first | (simp;done) | (intro b hb hx;exact hx.2.2 (rdB_sub (hp100 _ hb)))) rfl fun a hE=>?_
        refine s_bin hE rfl rfl (eqa57 ((stT_ok hl_y ho_ts ts.length).1).s2.2.1 ((stT_ok hl_y ho_ts ts.length).1).s3.2.1).1 rfl fun a hE=>qa (K23 ?_)
        replace hE := hE.cast 171 rfl (show _ = Value.bool false from (congrArg Value.bool (decide_eq_false (fun e => by have := hfar e;omega))))
        refine wcf hE rfl (wp_skip (qe (K22 (wpp (sm hE rfl fun a hE=>sb hE rfl rfl (show Bin _ _ _ _ _ (.int .i64 ((q + 1 : Nat) : Int)) from bin_add (by rw [wrap_i64 (by omega) (by omega)];omega)) fun a hE=>?_)))))
        refine sas hE rfl fun a hE=>qa ?_
        replace hE := hE.cast 20 rfl (show _ = Value.int .i64 (((q + 1) : Nat) : Int) from (congrArg _ (by omega)))
        replace hM : Mem _ _ w18 [_,_,_,_,_,_,_,_,_] := hM.pick [0,1,2,3,4,5,6,7,8] rfl
        exact ⟨q + 1,⟨by omega,hE.sel [1,2,4,5,6,7,14,15,16,17,18,19,20,23,29,86,155] rfl,hM⟩,by omega⟩
       ·have hup := used_up (h := (stT y ts ts.length).1) (q := q) (k := k) (by omega) (by omega)
        rw [hcas2,hcase] at hup
        exact absurd hup (by decide)
      ·replace hb158 := of_decide_eq_false hb158
       replace hb158 : ¬ (q < k) := by omega
       obtain rfl : k = q := by omega
       refine wcf hE rfl (wp_exit (qc (qc (qg (qe (K15 (wpp (sm hE rfl fun a hE=>sb hE rfl rfl (show Bin _ _ _ _ _ (.int .i64 ((k + 1 : Nat) : Int)) from bin_add (by rw [wrap_i64 (by omega) (by omega)];omega)) fun a hE=>?_))))))))
       refine sas hE rfl fun a hE=>qa ?_
       replace hE := hE.cast 15 rfl (show _ = Value.int .i64 (((k + 1) : Nat) : Int) from (congrArg _ (by omega)))
       replace hM : Mem _ _ w17 [_,_,_,_,_,_,_] := hM.pick [2,3,4,5,6,7,8] rfl
       exact ⟨k + 1,⟨by omega,hE.sel [1,2,4,5,6,7,14,15,23,29] rfl,hM⟩,by omega⟩
     ·replace hb150 := of_decide_eq_false hb150
      replace hb150 : ¬ (((unl ((stT y ts ts.length).1) (((stT y ts ts.length).2).n3.2.1)).2.1) = 3) := by omega
      refine gf hE rfl fun a hE=>gf hE rfl fun a hE=>gf hE rfl fun a hE=>gy hE rfl (pkf hE rfl fun a hE=>pkf hE rfl fun a hE=>qa (K18 (wcf hE rfl (wp_skip ?_))))
      refine K17 (ww1 fun _ K19=>wpp (sas hE rfl fun a hE=>qa (K19 (wp_block (c_loop (fun (q : Nat) a w' => q ≤ k ∧ Env a 173 [(1,vt),(2,.pointer (some ⟨b2,0,none⟩)),(4,.bool false),(5,.pointer (some ⟨b5,0,none⟩)),(6,.pointer (some ⟨b6,0,none⟩)),(7,.int .i64 ((ts.length : Nat) : Int)),(14,v82_0),(15,.int .i64 ((k : Nat) : Int)),(16,.pointer (some ⟨b16,0,none⟩)),(17,.pointer (some ⟨b17,0,none⟩)),(18,.int .i64 (((unl ((stT y ts ts.length).1) (((stT y ts ts.length).2).n3.2.1)).2.1 : Nat) : Int)),(19,.int .i64 (((unl ((stT y ts ts.length).1) (((stT y ts ts.length).2).n3.2.1)).2.2 : Nat) : Int)),(20,.int .i64 ((q : Nat) : Int)),(23,.bool false),(29,.bool false),(86,.bool true),(155,.bool false)] ∧ Mem w [] w' [blk b17 [bv ((unl ((stT y ts ts.length).1) (((stT y ts ts.length).2).n3.2.1)).1)] [32] 23,blk b16 [[.bool (((stT y ts ts.length).1).s3.1)],[.int .i64 (((stT y ts ts.length).1).s3.2.1)],bv (((stT y ts ts.length).1).s3.2.2.1),bv (((stT y ts ts.length).1).s3.2.2.2.1),bv (((stT y ts ts.length).1).s3.2.2.2.2)] [1,1,16,32,32] 59,own v82_0 1 ((usedL ((stT y ts ts.length).1)).length) ((usedL ((stT y ts ts.length).1)).flatMap intC),blk b6 [bv (((stT y ts ts.length).2).n0.1),[.string (str ((stT y ts ts.length).2).n0.2.1)],bv (((stT y ts ts.length).2).n0.2.2.1),[.int .i64 (((stT y ts ts.length).2).n0.2.2.2)],bv (((stT y ts ts.length).2).n1.1),[.string (str ((stT y ts ts.length).2).n1.2.1)],bv (((stT y ts ts.length).2).n1.2.2.1),[.int .i64 (((stT y ts ts.length).2).n1.2.2.2)],bv (((stT y ts ts.length).2).n2.1),[.string (str ((stT y ts ts.length).2).n2.2.1)],bv (((stT y ts ts.length).2).n2.2.2.1),[.int .i64 (((stT y ts ts.length).2).n2.2.2.2)],bv (((stT y ts ts.length).2).n3.1),[.string (str ((stT y ts ts.length).2).n3.2.1)],bv (((stT y ts ts.length).2).n3.2.2.1),[.int .i64 (((stT y ts ts.length).2).n3.2.2.2)]] [32,1,16,1,32,1,16,1,32,1,16,1,32,1,16,1] 87,blk b5 [[.int .i64 (((stT y ts ts.length).1).m)],[.int .i64 (((stT y ts ts.length).1).r)],[.bool (((stT y ts ts.length).1).v0.1)],[.int .u64 ((((stT y ts ts.length).1).v0.2.1 : Nat) : Int)],bv (((stT y ts ts.length).1).v0.2.2.1),bv (((stT y ts ts.length).1).v0.2.2.2),[.bool (((stT y ts ts.length).1).v1.1)],[.int .u64 ((((stT y ts ts.length).1).v1.2.1 : Nat) : Int)],bv (((stT y ts ts.length).1).v1.2.2.1),bv (((stT y ts ts.length).1).v1.2.2.2),[.bool (((stT y ts ts.length).1).s0.1)],[.int .i64 (((stT y ts ts.length).1).s0.2.1)],bv (((stT y ts ts.length).1).s0.2.2.1),bv (((stT y ts ts.length).1).s0.2.2.2.1),bv (((stT y ts ts.length).1).s0.2.2.2.2),[.bool (((stT y ts ts.length).1).s1.1)],[.int .i64 (((stT y ts ts.length).1).s1.2.1)],bv (((stT y ts ts.length).1).s1.2.2.1),bv (((stT y ts ts.length).1).s1.2.2.2.1),bv (((stT y ts ts.length).1).s1.2.2.2.2),[.bool (((stT y ts ts.length).1).s2.1)],[.int .i64 (((stT y ts ts.length).1).s2.2.1)],bv (((stT y ts ts.length).1).s2.2.2.1),bv (((stT y ts ts.length).1).s2.2.2.2.1),bv (((stT y ts ts.length).1).s2.2.2.2.2),[.bool (((stT y ts ts.length).1).s3.1)],[.int .i64 (((stT y ts ts.length).1).s3.2.1)],bv (((stT y ts ts.length).1).s3.2.2.1),bv (((stT y ts ts.length).1).s3.2.2.2.1),bv (((stT y ts ts.length).1).s3.2.2.2.2)] [1,1,1,1,32,32,1,1,32,32,1,1,16,32,32,1,1,16,32,32,1,1,16,32,32,1,1,16,32,32] 62,blk b2 [bv y] [32] 23,rd vt 52 ts.length ct (ts.flatMap tnC),glb 1,tabP]) (fun q => k - q) 0 ⟨Nat.zero_le _,hE.sel [1,2,4,5,6,7,14,15,16,17,18,19,20,23,29,86,155] rfl,hM⟩ ?_)))))
      rintro q a w17 ⟨hq,hE,hM⟩
      refine ww1 fun _ K20=>ww1 fun _ K21=>wpp (sm hE rfl fun a hE=>sm hE rfl fun a hE=>sb hE rfl rfl bin_lss fun a hE=>qa (K21 ?_))
      refine hE.split 158 rfl (fun hb158 hE=>?_) (fun hb158 hE=>?_)
      ·replace hb158 := of_decide_eq_true hb158
       replace hb158 : q < k := by omega
       replace hb158 : q < k := by omega
       refine wct hE rfl (wp_skip (K20 (ww1 fun _ K22=>wp_block (ww1 fun _ K23=>wp_drawnM hM (by kernel_rfl) (fun _ => False) [(0,true),(1,true),(2,true),(3,true),(4,true),(5,true),(6,true),(7,true),(8,true),(9,true),(10,true)] [] (by kernel_rfl) rfl ?_))))
       intro w18 hM' hww18;replace hM := hM'
       refine sm hE rfl fun a hE=>sm hE rfl fun a hE=>?_
       obtain ⟨cx163,hx163⟩ := own_rd (hM.get 2 rfl)
       refine qu (j := q) hE rfl hx163 rfl slt77 (by first | rfl | omega) (by omega) rfl fun a p163 hE hc163 hp163=>?_
       have hlj163 : q < (usedL ((stT y ts ts.length).1)).length := (by omega)
       have hok163 := usedL_lt _ (getD_mem (d := 0) hlj163)
       rw [flat_elem (d := 0) (fun x hx => (show (intC _).length = 1 from rfl)) hlj163] at hc163
       replace hc163 : (cellsAt _ [.int .i64 ((((usedL ((stT y ts ts.length).1)).getD q 0) : Nat) : Int)]).holds _ := hc163
       refine qt hE rfl hc163 one3 (by intro X h;cases h;first | (simp;done) | (intro b hb hx;exact hx.2.2 (rdB_sub (hp100 _ hb)))) rfl fun a hE=>?_
       rcases usedL_four (h := (stT y ts ts.length).1) (i := q) (by omega) with hcas2 | hcas2 | hcas2 | hcas2
       ·have hup := used_up (h := (stT y ts ts.length).1) (q := q) (k := k) (by omega) (by omega)
        rw [hcas2,hcase] at hup
        replace hE := hE.cast 164 rfl (show _ = Value.int .i64 0 from congrArg (fun q : Nat => Value.int .i64 (q : Int)) hcas2)
        have hu2 : (getS (stT y ts ts.length).1 0).1 = true := usedL_getS (by have hm := usedL_mem (h := (stT y ts ts.length).1) (i := q) (by omega);rw [hcas2] at hm;exact hm)
        have hfar := (inv_all (a := y) (ts := ts) ts.length).far 0 3 (by decide) (by decide) hu2 hus
        simp only [getS] at hfar
        refine sf hE rfl fo62_2 fun a hE=>qp (j := 0) hE rfl rfl arr60 rfl (by decide) rfl fun a hE=>?_
        refine sf hE rfl fo59_2 fun a hE=>?_
        refine ql hE rfl (hM.get 4 rfl) row57 rfl (by intro X h;cases h;first | (simp;done) | (intro b hb hx;exact hx.2.2 (rdB_sub (hp100 _ hb)))) rfl fun a hE=>?_
        refine sf hE rfl fo59_2 fun a hE=>?_
        refine ql hE rfl (hM.get 1 rfl) row57 rfl (by intro X h;cases h;first | (simp;done) | (intro b hb hx;exact hx.2.2 (rdB_sub (hp100 _ hb)))) rfl fun a hE=>?_
        refine s_bin hE rfl rfl (eqa57 ((stT_ok hl_y ho_ts ts.length).1).s0.2.1 ((stT_ok hl_y ho_ts ts.length).1).s3.2.1).1 rfl fun a hE=>qa (K23 ?_)
        replace hE := hE.cast 171 rfl (show _ = Value.bool false from (congrArg Value.bool (decide_eq_false (fun e => by have := hfar e;omega))))
        refine wcf hE rfl (wp_skip (qe (K22 (wpp (sm hE rfl fun a hE=>sb hE rfl rfl (show Bin _ _ _ _ _ (.int .i64 ((q + 1 : Nat) : Int)) from bin_add (by rw [wrap_i64 (by omega) (by omega)];omega)) fun a hE=>?_)))))
        refine sas hE rfl fun a hE=>qa ?_
        replace hE := hE.cast 20 rfl (show _ = Value.int .i64 (((q + 1) : Nat) : Int) from (congrArg _ (by omega)))
        replace hM : Mem _ _ w18 [_,_,_,_,_,_,_,_,_] := hM.pick [0,1,2,3,4,5,6,7,8] rfl
        exact ⟨q + 1,⟨by omega,hE.sel [1,2,4,5,6,7,14,15,16,17,18,19,20,23,29,86,155] rfl,hM⟩,by omega⟩
       ·have hup := used_up (h := (stT y ts ts.length).1) (q := q) (k := k) (by omega) (by omega)
        rw [hcas2,hcase] at hup
        replace hE := hE.cast 164 rfl (show _ = Value.int .i64 1 from congrArg (fun q : Nat => Value.int .i64 (q : Int)) hcas2)
        have hu2 : (getS (stT y ts ts.length).1 1).1 = true := usedL_getS (by have hm := usedL_mem (h := (stT y ts ts.length).1) (i := q) (by omega);rw [hcas2] at hm;exact hm)
        have hfar := (inv_all (a := y) (ts := ts) ts.length).far 1 3 (by decide) (by decide) hu2 hus
        simp only [getS] at hfar
        refine sf hE rfl fo62_2 fun a hE=>qp (j := 1) hE rfl rfl arr60 rfl (by decide) rfl fun a hE=>?_
        refine sf hE rfl fo59_2 fun a hE=>?_
        refine ql hE rfl (hM.get 4 rfl) row57 rfl (by intro X h;cases h;first | (simp;done) | (intro b hb hx;exact hx.2.2 (rdB_sub (hp100 _ hb)))) rfl fun a hE=>?_
        refine sf hE rfl fo59_2 fun a hE=>?_
        refine ql hE rfl (hM.get 1 rfl) row57 rfl (by intro X h;cases h;first | (simp;done) | (intro b hb hx;exact hx.2.2 (rdB_sub (hp100 _ hb)))) rfl fun a hE=>?_
        refine s_bin hE rfl rfl (eqa57 ((stT_ok hl_y ho_ts ts.length).1).s1.2.1 ((stT_ok hl_y ho_ts ts.length).1).s3.2.1).1 rfl fun a hE=>qa (K23 ?_)
        replace hE := hE.cast 171 rfl (show _ = Value.bool false from (congrArg Value.bool (decide_eq_false (fun e => by have := hfar e;omega))))
        refine wcf hE rfl (wp_skip (qe (K22 (wpp (sm hE rfl fun a hE=>sb hE rfl rfl (show Bin _ _ _ _ _ (.int .i64 ((q + 1 : Nat) : Int)) from bin_add (by rw [wrap_i64 (by omega) (by omega)];omega)) fun a hE=>?_)))))
        refine sas hE rfl fun a hE=>qa ?_
        replace hE := hE.cast 20 rfl (show _ = Value.int .i64 (((q + 1) : Nat) : Int) from (congrArg _ (by omega)))
        replace hM : Mem _ _ w18 [_,_,_,_,_,_,_,_,_] := hM.pick [0,1,2,3,4,5,6,7,8] rfl
        exact ⟨q + 1,⟨by omega,hE.sel [1,2,4,5,6,7,14,15,16,17,18,19,20,23,29,86,155] rfl,hM⟩,by omega⟩
       ·have hup := used_up (h := (stT y ts ts.length).1) (q := q) (k := k) (by omega) (by omega)
        rw [hcas2,hcase] at hup
        replace hE := hE.cast 164 rfl (show _ = Value.int .i64 2 from congrArg (fun q : Nat => Value.int .i64 (q : Int)) hcas2)
        have hu2 : (getS (stT y ts ts.length).1 2).1 = true := usedL_getS (by have hm := usedL_mem (h := (stT y ts ts.length).1) (i := q) (by omega);rw [hcas2] at hm;exact hm)
        have hfar := (inv_all (a := y) (ts := ts) ts.length).far 2 3 (by decide) (by decide) hu2 hus
        simp only [getS] at hfar
        refine sf hE rfl fo62_2 fun a hE=>qp (j := 2) hE rfl rfl arr60 rfl (by decide) rfl fun a hE=>?_
        refine sf hE rfl fo59_2 fun a hE=>?_
        refine ql hE rfl (hM.get 4 rfl) row57 rfl (by intro X h;cases h;first | (simp;done) | (intro b hb hx;exact hx.2.2 (rdB_sub (hp100 _ hb)))) rfl fun a hE=>?_
        refine sf hE rfl fo59_2 fun a hE=>?_
        refine ql hE rfl (hM.get 1 rfl) row57 rfl (by intro X h;cases h;first | (simp;done) | (intro b hb hx;exact hx.2.2 (rdB_sub (hp100 _ hb)))) rfl fun a hE=>?_
        refine s_bin hE rfl rfl (eqa57 ((stT_ok hl_y ho_ts ts.length).1).s2.2.1 ((stT_ok hl_y ho_ts ts.length).1).s3.2.1).1 rfl fun a hE=>qa (K23 ?_)
        replace hE := hE.cast 171 rfl (show _ = Value.bool false from (congrArg Value.bool (decide_eq_false (fun e => by have := hfar e;omega))))
        refine wcf hE rfl (wp_skip (qe (K22 (wpp (sm hE rfl fun a hE=>sb hE rfl rfl (show Bin _ _ _ _ _ (.int .i64 ((q + 1 : Nat) : Int)) from bin_add (by rw [wrap_i64 (by omega) (by omega)];omega)) fun a hE=>?_)))))
        refine sas hE rfl fun a hE=>qa ?_
        replace hE := hE.cast 20 rfl (show _ = Value.int .i64 (((q + 1) : Nat) : Int) from (congrArg _ (by omega)))
        replace hM : Mem _ _ w18 [_,_,_,_,_,_,_,_,_] := hM.pick [0,1,2,3,4,5,6,7,8] rfl
        exact ⟨q + 1,⟨by omega,hE.sel [1,2,4,5,6,7,14,15,16,17,18,19,20,23,29,86,155] rfl,hM⟩,by omega⟩
       ·have hup := used_up (h := (stT y ts ts.length).1) (q := q) (k := k) (by omega) (by omega)
        rw [hcas2,hcase] at hup
        exact absurd hup (by decide)
      ·replace hb158 := of_decide_eq_false hb158
       replace hb158 : ¬ (q < k) := by omega
       obtain rfl : k = q := by omega
       refine wcf hE rfl (wp_exit (qc (qc (qg (qe (K15 (wpp (sm hE rfl fun a hE=>sb hE rfl rfl (show Bin _ _ _ _ _ (.int .i64 ((k + 1 : Nat) : Int)) from bin_add (by rw [wrap_i64 (by omega) (by omega)];omega)) fun a hE=>?_))))))))
       refine sas hE rfl fun a hE=>qa ?_
       replace hE := hE.cast 15 rfl (show _ = Value.int .i64 (((k + 1) : Nat) : Int) from (congrArg _ (by omega)))
       replace hM : Mem _ _ w17 [_,_,_,_,_,_,_] := hM.pick [2,3,4,5,6,7,8] rfl
       exact ⟨k + 1,⟨by omega,hE.sel [1,2,4,5,6,7,14,15,23,29] rfl,hM⟩,by omega⟩
   ·replace hb86 := of_decide_eq_false hb86
    replace hb86 : ¬ (k < ((usedL ((stT y ts ts.length).1)).length)) := by omega
    obtain rfl : (usedL (stT y ts ts.length).1).length = k := by omega
    refine wcf hE rfl (wp_exit (qc (qc (qg (K11 (ww1 fun _ K15=>wpp (qn hE rfl Tryd.call28 (awake25_c  _ (hM.get 5 rfl) (hM.get 6 rfl)) rfl ?_)))))))
    rintro e w9 ⟨rfl,hN⟩
    refine ⟨_,rfl,trivial,fun a hE=>?_⟩
    replace hM : Mem _ _ w9 [_,_,_,_,_,_,_] := hM.call0 hN trivial;clear hN
    exact sas hE rfl fun a hE=>qa (K15 (wp_ret (qi hE rfl rfl ⟨(by first | rfl | (simp;done)),hM.pick [] rfl⟩)))
end Go.Proofs.YtniekapfoaiieaaDoor
