/- SlotsUnlocks of casematelaw25 returns true for whatever header and passphrase. No condition. -/
import Derived.Test.YtniekapfoaiieaaDoorLq
import Derived.Test.YtniekapfoaiieaaDoorTie
import Derived.Test.YtniekapfoaiieaaDoorCards
set_option linter.unusedSimpArgs false
set_option linter.unusedVariables false
namespace Go.Proofs.YtniekapfoaiieaaDoor
open Go Go.Kx
open Go.ChangeShapes Go.WideShapes Go.ChangeAt Go.RowKit

theorem hd_cells (x : Hd) : hdC x = ([[.int .i64 x.m],[.int .i64 x.r],[.bool x.v0.1],[.int .u64 ((x.v0.2.1 : Nat) : Int)],bv x.v0.2.2.1,bv x.v0.2.2.2,[.bool x.v1.1],[.int .u64 ((x.v1.2.1 : Nat) : Int)],bv x.v1.2.2.1,bv x.v1.2.2.2,[.bool x.s0.1],[.int .i64 x.s0.2.1],bv x.s0.2.2.1,bv x.s0.2.2.2.1,bv x.s0.2.2.2.2,[.bool x.s1.1],[.int .i64 x.s1.2.1],bv x.s1.2.2.1,bv x.s1.2.2.2.1,bv x.s1.2.2.2.2,[.bool x.s2.1],[.int .i64 x.s2.2.1],bv x.s2.2.2.1,bv x.s2.2.2.2.1,bv x.s2.2.2.2.2,[.bool x.s3.1],[.int .i64 x.s3.2.1],bv x.s3.2.2.1,bv x.s3.2.2.2.1,bv x.s3.2.2.2.2] : List (List Value)).flatten := by simp [hdC,volC,slotC,boxC]
set_option maxHeartbeats 4000000 in
theorem slotsUnlocks_c (h : Hd) (p : List UInt8) (w : World) (hG : (glb 1).holds w) (hT : tabP.holds w) (hk_h : OkHd h) : Calls Tryd.prog 13 #[.agg ([[.int .i64 h.m],[.int .i64 h.r],[.bool h.v0.1],[.int .u64 ((h.v0.2.1 : Nat) : Int)],bv h.v0.2.2.1,bv h.v0.2.2.2,[.bool h.v1.1],[.int .u64 ((h.v1.2.1 : Nat) : Int)],bv h.v1.2.2.1,bv h.v1.2.2.2,[.bool h.s0.1],[.int .i64 h.s0.2.1],bv h.s0.2.2.1,bv h.s0.2.2.2.1,bv h.s0.2.2.2.2,[.bool h.s1.1],[.int .i64 h.s1.2.1],bv h.s1.2.2.1,bv h.s1.2.2.2.1,bv h.s1.2.2.2.2,[.bool h.s2.1],[.int .i64 h.s2.2.1],bv h.s2.2.2.1,bv h.s2.2.2.2.1,bv h.s2.2.2.2.2,[.bool h.s3.1],[.int .i64 h.s3.2.1],bv h.s3.2.2.1,bv h.s3.2.2.2.1,bv h.s3.2.2.2.2] : List (List Value)).flatten.toArray,.string (str p)] w fun e w' => e = .returned (.bool true) ∧ Mem w [] w' [] := by
 have hul := usedL_len (h := h)
 have hM : Mem w [] w [glb 1,tabP] := Mem.startR w (fun g hg => by
  simp only [List.mem_cons,List.not_mem_nil,or_false] at hg
  rcases hg with rfl | rfl
  ·exact ⟨hG,rfl⟩
  ·exact ⟨hT,rfl⟩)
 refine f_enter 79 Tryd.func13 rfl rfl rfl ?_
 intro a hE
 replace hE : Env a 79 [(0,_),(1,_)] := hE
 refine wp_seq_k fun K1 hK1=>wp_plain [false,true] rfl rfl ?_
 have hbl2_4 : h.v0.2.2.1.length = 32 := hk_h.v0.2.1
 have hbl2_5 : h.v0.2.2.2.length = 32 := hk_h.v0.2.2
 have hbl2_8 : h.v1.2.2.1.length = 32 := hk_h.v1.2.1
 have hbl2_9 : h.v1.2.2.2.length = 32 := hk_h.v1.2.2
 have hbl2_12 : h.s0.2.2.1.length = 16 := hk_h.s0.2.1
 have hbl2_13 : h.s0.2.2.2.1.length = 32 := hk_h.s0.2.2.1
 have hbl2_14 : h.s0.2.2.2.2.length = 32 := hk_h.s0.2.2.2
 have hbl2_17 : h.s1.2.2.1.length = 16 := hk_h.s1.2.1
 have hbl2_18 : h.s1.2.2.2.1.length = 32 := hk_h.s1.2.2.1
 have hbl2_19 : h.s1.2.2.2.2.length = 32 := hk_h.s1.2.2.2
 have hbl2_22 : h.s2.2.2.1.length = 16 := hk_h.s2.2.1
 have hbl2_23 : h.s2.2.2.2.1.length = 32 := hk_h.s2.2.2.1
 have hbl2_24 : h.s2.2.2.2.2.length = 32 := hk_h.s2.2.2.2
 have hbl2_27 : h.s3.2.2.1.length = 16 := hk_h.s3.2.1
 have hbl2_28 : h.s3.2.2.2.1.length = 32 := hk_h.s3.2.2.1
 have hbl2_29 : h.s3.2.2.2.2.length = 32 := hk_h.s3.2.2.2
 refine s_box (ss := [[.int .i64 h.m],[.int .i64 h.r],[.bool h.v0.1],[.int .u64 ((h.v0.2.1 : Nat) : Int)],bv h.v0.2.2.1,bv h.v0.2.2.2,[.bool h.v1.1],[.int .u64 ((h.v1.2.1 : Nat) : Int)],bv h.v1.2.2.1,bv h.v1.2.2.2,[.bool h.s0.1],[.int .i64 h.s0.2.1],bv h.s0.2.2.1,bv h.s0.2.2.2.1,bv h.s0.2.2.2.2,[.bool h.s1.1],[.int .i64 h.s1.2.1],bv h.s1.2.2.1,bv h.s1.2.2.2.1,bv h.s1.2.2.2.2,[.bool h.s2.1],[.int .i64 h.s2.2.1],bv h.s2.2.2.1,bv h.s2.2.2.2.1,bv h.s2.2.2.2.2,[.bool h.s3.1],[.int .i64 h.s3.2.1],bv h.s3.2.2.1,bv h.s3.2.2.2.1,bv h.s3.2.2.2.2]) [1,1,1,1,32,32,1,1,32,32,1,1,16,32,32,1,1,16,32,32,1,1,16,32,32,1,1,16,32,32] hE hM rfl rfl (by simp only [List.map_cons,List.map_nil,bv_length,List.length_cons,List.length_nil,List.length_replicate,hbl2_4,hbl2_5,hbl2_8,hbl2_9,hbl2_12,hbl2_13,hbl2_14,hbl2_17,hbl2_18,hbl2_19,hbl2_22,hbl2_23,hbl2_24,hbl2_27,hbl2_28,hbl2_29]) rfl ?_;intro a b2 w1 hE hM'
 replace hM := hM'
 refine s_assign hE rfl rfl fun a hE=>q_nil ?_
 replace hE : Env a 79 [(1,_),(2,_),(4,_)] := hE.sl rfl
 refine hK1 _ _ (wp_seq_k fun K2 hK2=>wp_seq_k fun K3 hK3=>wp_plain [true,true,false] rfl rfl (s_loadN hE rfl (hM.get 0 rfl) row62 rfl (by intro X h;cases h) rfl fun a hE=>?_))
 replace hE := hE.cast 14 rfl (show _ = Value.agg ([[.int .i64 h.m],[.int .i64 h.r],[.bool h.v0.1],[.int .u64 ((h.v0.2.1 : Nat) : Int)],bv h.v0.2.2.1,bv h.v0.2.2.2,[.bool h.v1.1],[.int .u64 ((h.v1.2.1 : Nat) : Int)],bv h.v1.2.2.1,bv h.v1.2.2.2,[.bool h.s0.1],[.int .i64 h.s0.2.1],bv h.s0.2.2.1,bv h.s0.2.2.2.1,bv h.s0.2.2.2.2,[.bool h.s1.1],[.int .i64 h.s1.2.1],bv h.s1.2.2.1,bv h.s1.2.2.2.1,bv h.s1.2.2.2.2,[.bool h.s2.1],[.int .i64 h.s2.2.1],bv h.s2.2.2.1,bv h.s2.2.2.2.1,bv h.s2.2.2.2.2,[.bool h.s3.1],[.int .i64 h.s3.2.1],bv h.s3.2.2.1,bv h.s3.2.2.2.1,bv h.s3.2.2.2.2] : List (List Value)).flatten.toArray from (by first | rfl | simp only [List.flatten_cons,List.flatten_nil,List.append_nil,List.append_assoc]))
 refine s_move hE rfl rfl fun a hE=>s_call hE rfl Tryd.call27 (large25_c h p 1 _ hk_h) rfl ?_
 rintro e w2 ⟨rfl,hN⟩
 refine ⟨_,rfl,trivial,fun a hE=>?_⟩
 replace hM : Mem _ _ w2 [_,_,_] := hM.call0 hN trivial;clear hN
 refine q_nil ?_
 replace hE : Env a 79 [(1,_),(2,_),(4,_),(16,_)] := hE.sl rfl
 refine hK3 _ _ ?_
 refine hE.split 16 rfl (fun hb16 hE=>?_) (fun hb16 hE=>?_)
 ·refine wp_cond_true (hE.eval rfl) (wp_seq_k fun K4 hK4=>wp_plain [false,true] rfl rfl (s_call hE rfl Tryd.call28 (awake25_c  _ (hM.get 1 rfl) (hM.get 2 rfl)) rfl ?_))
  rintro e w3 ⟨rfl,hN⟩
  refine ⟨_,rfl,trivial,fun a hE=>?_⟩
  replace hM : Mem _ _ w3 [_,_,_] := hM.call0 hN trivial;clear hN
  refine s_assign hE rfl rfl fun a hE=>q_nil ?_
  replace hE : Env a 79 [(1,_),(2,_),(4,_),(16,_)] := hE.sl rfl
  exact hK4 _ _ (wp_ret (q_then_r (f_ret1 hE rfl rfl ⟨(by first | rfl | (simp;done)),hM.pick [] rfl⟩)))
 ·refine wp_cond_false (hE.eval rfl) (wp_skip (hK2 _ _ (wp_seq_k fun K4 hK4=>wp_plain [true,true,false,true,true,true,true,false,false,true,true] rfl rfl (s_loadN hE rfl (hM.get 0 rfl) row62 rfl (by intro X h;cases h) rfl fun a hE=>?_))))
  replace hE := hE.cast 19 rfl (show _ = Value.agg ([[.int .i64 h.m],[.int .i64 h.r],[.bool h.v0.1],[.int .u64 ((h.v0.2.1 : Nat) : Int)],bv h.v0.2.2.1,bv h.v0.2.2.2,[.bool h.v1.1],[.int .u64 ((h.v1.2.1 : Nat) : Int)],bv h.v1.2.2.1,bv h.v1.2.2.2,[.bool h.s0.1],[.int .i64 h.s0.2.1],bv h.s0.2.2.1,bv h.s0.2.2.2.1,bv h.s0.2.2.2.2,[.bool h.s1.1],[.int .i64 h.s1.2.1],bv h.s1.2.2.1,bv h.s1.2.2.2.1,bv h.s1.2.2.2.2,[.bool h.s2.1],[.int .i64 h.s2.2.1],bv h.s2.2.2.1,bv h.s2.2.2.2.1,bv h.s2.2.2.2.2,[.bool h.s3.1],[.int .i64 h.s3.2.1],bv h.s3.2.2.1,bv h.s3.2.2.2.1,bv h.s3.2.2.2.2] : List (List Value)).flatten.toArray from (by first | rfl | simp only [List.flatten_cons,List.flatten_nil,List.append_nil,List.append_assoc]))
  refine s_move hE rfl rfl fun a hE=>s_call hE rfl Tryd.call29 (unlock_c h p _ (hM.get 1 rfl) (hM.get 2 rfl) hk_h) rfl ?_
  rintro e w3 ⟨rfl,hN⟩
  refine ⟨_,rfl,trivial,fun a hE=>?_⟩
  replace hM : Mem _ _ w3 [_,_,_] := hM.call0 hN trivial;clear hN
  refine s_move hE rfl rfl fun a hE=>s_extract hE rfl rfl rfl fun a hE=>s_extract hE rfl rfl rfl fun a hE=>s_extract hE rfl rfl rfl fun a hE=>?_
  refine s_alloc [32] hE hM zero23 rfl rfl ?_;intro a b5 w4 hE hM'
  replace hM := hM'
  refine s_storeSeg 0 hE rfl rfl hM rfl sz23 ((bv_length _).trans (unl_len hk_h p)) (bv_one _) rfl ((bv_length _).trans (by first | (simp;done) | (simp [*];done) | (simp;omega))) rfl (by intro X h;cases h) ?_;intro w5 hM';replace hM := hM'
  simp only [List.set_cons_zero,List.set_cons_succ] at hM
  refine s_assign hE rfl rfl fun a hE=>s_assign hE rfl rfl fun a hE=>q_nil ?_
  replace hE : Env a 79 [(1,_),(2,_),(4,_),(5,_),(6,_),(7,_),(16,_)] := hE.sl rfl
  refine hK4 _ _ (wp_seq_k fun K5 hK5=>wp_plain [true,true,false,true,true,true,true,false,false,true,true] rfl rfl (s_loadN hE rfl (hM.get 1 rfl) row62 rfl (by intro X h;cases h) rfl fun a hE=>?_))
  replace hE := hE.cast 26 rfl (show _ = Value.agg ([[.int .i64 h.m],[.int .i64 h.r],[.bool h.v0.1],[.int .u64 ((h.v0.2.1 : Nat) : Int)],bv h.v0.2.2.1,bv h.v0.2.2.2,[.bool h.v1.1],[.int .u64 ((h.v1.2.1 : Nat) : Int)],bv h.v1.2.2.1,bv h.v1.2.2.2,[.bool h.s0.1],[.int .i64 h.s0.2.1],bv h.s0.2.2.1,bv h.s0.2.2.2.1,bv h.s0.2.2.2.2,[.bool h.s1.1],[.int .i64 h.s1.2.1],bv h.s1.2.2.1,bv h.s1.2.2.2.1,bv h.s1.2.2.2.2,[.bool h.s2.1],[.int .i64 h.s2.2.1],bv h.s2.2.2.1,bv h.s2.2.2.2.1,bv h.s2.2.2.2.2,[.bool h.s3.1],[.int .i64 h.s3.2.1],bv h.s3.2.2.1,bv h.s3.2.2.2.1,bv h.s3.2.2.2.2] : List (List Value)).flatten.toArray from (by first | rfl | simp only [List.flatten_cons,List.flatten_nil,List.append_nil,List.append_assoc]))
  refine s_move hE rfl rfl fun a hE=>s_call hE rfl Tryd.call40 (runlock_c h p _ hk_h) rfl ?_
  rintro e w6 ⟨rfl,hN⟩
  refine ⟨_,rfl,trivial,fun a hE=>?_⟩
  replace hM : Mem _ _ w6 [_,_,_,_] := hM.call0 hN trivial;clear hN
  refine s_move hE rfl rfl fun a hE=>s_extract hE rfl rfl rfl fun a hE=>s_extract hE rfl rfl rfl fun a hE=>s_extract hE rfl rfl rfl fun a hE=>?_
  refine s_alloc [32] hE hM zero23 rfl rfl ?_;intro a b8 w7 hE hM'
  replace hM := hM'
  refine s_storeSeg 0 hE rfl rfl hM rfl sz23 ((bv_length _).trans (unl_len hk_h p)) (bv_one _) rfl ((bv_length _).trans (by first | (simp;done) | (simp [*];done) | (simp;omega))) rfl (by intro X h;cases h) ?_;intro w8 hM';replace hM := hM'
  simp only [List.set_cons_zero,List.set_cons_succ] at hM
  refine s_assign hE rfl rfl fun a hE=>s_assign hE rfl rfl fun a hE=>q_nil ?_
  replace hE : Env a 79 [(1,_),(2,_),(4,_),(5,_),(6,_),(7,_),(8,_),(9,_),(10,_),(16,_)] := hE.sl rfl
  refine hK5 _ _ (wp_seq_k fun K6 hK6=>wp_plain [true,false,true] rfl rfl (s_loadN hE rfl (hM.get 2 rfl) row62 rfl (by intro X h;cases h) rfl fun a hE=>?_))
  replace hE := hE.cast 32 rfl (show _ = Value.agg ([[.int .i64 h.m],[.int .i64 h.r],[.bool h.v0.1],[.int .u64 ((h.v0.2.1 : Nat) : Int)],bv h.v0.2.2.1,bv h.v0.2.2.2,[.bool h.v1.1],[.int .u64 ((h.v1.2.1 : Nat) : Int)],bv h.v1.2.2.1,bv h.v1.2.2.2,[.bool h.s0.1],[.int .i64 h.s0.2.1],bv h.s0.2.2.1,bv h.s0.2.2.2.1,bv h.s0.2.2.2.2,[.bool h.s1.1],[.int .i64 h.s1.2.1],bv h.s1.2.2.1,bv h.s1.2.2.2.1,bv h.s1.2.2.2.2,[.bool h.s2.1],[.int .i64 h.s2.2.1],bv h.s2.2.2.1,bv h.s2.2.2.2.1,bv h.s2.2.2.2.2,[.bool h.s3.1],[.int .i64 h.s3.2.1],bv h.s3.2.2.1,bv h.s3.2.2.2.1,bv h.s3.2.2.2.2] : List (List Value)).flatten.toArray from (by first | rfl | simp only [List.flatten_cons,List.flatten_nil,List.append_nil,List.append_assoc]))
  refine s_call hE rfl Tryd.call35 (used_c h _ hk_h) rfl ?_
  rintro e w9 ⟨v33_0,rfl,hN⟩
  refine ⟨_,rfl,trivial,fun a hE=>?_⟩
  replace hM : Mem _ _ w9 [_,_,_,_,_,_] := hM.call0 hN ⟨rfl,trivial⟩;clear hN
  refine s_assign hE rfl rfl fun a hE=>q_nil ?_
  replace hE : Env a 79 [(1,_),(2,_),(4,_),(5,_),(6,_),(7,_),(8,_),(9,_),(10,_),(11,_),(16,_)] := hE.sl rfl
  refine hK6 _ _ (wp_seq_k fun K7 hK7=>wp_plain [true] rfl rfl (s_assign hE rfl rfl fun a hE=>q_nil (hK7 _ _ (wp_seq_k fun K8 hK8=>wp_seq_k fun K9 hK9=>wp_plain [true] rfl rfl (s_assign hE rfl rfl fun a hE=>?_)))))
  refine q_nil (hK9 _ _ (wp_block (wp_loop_rounds 5 ?_)))
  refine c_roundsJ (fun a w' => True ∧ Env a 79 [(1,.string (str p)),(2,.pointer (some ⟨b2,0,none⟩)),(4,.bool false),(5,.pointer (some ⟨b5,0,none⟩)),(6,.int .i64 (((unl h p).2.1 : Nat) : Int)),(7,.int .i64 (((unl h p).2.2 : Nat) : Int)),(8,.pointer (some ⟨b8,0,none⟩)),(9,.int .i64 (((unl h p).2.1 : Nat) : Int)),(10,.int .i64 (((unl h p).2.2 : Nat) : Int)),(11,v33_0),(12,.int .i64 ((cntU h 1 : Nat) : Int)),(13,.int .i64 1),(16,.bool false)] ∧ Mem w [] w' [own v33_0 1 ((usedL h).length) ((usedL h).flatMap intC),blk b8 [bv ((unl h p).1)] [32] 23,blk b5 [bv ((unl h p).1)] [32] 23,blk b2 [[.int .i64 h.m],[.int .i64 h.r],[.bool h.v0.1],[.int .u64 ((h.v0.2.1 : Nat) : Int)],bv h.v0.2.2.1,bv h.v0.2.2.2,[.bool h.v1.1],[.int .u64 ((h.v1.2.1 : Nat) : Int)],bv h.v1.2.2.1,bv h.v1.2.2.2,[.bool h.s0.1],[.int .i64 h.s0.2.1],bv h.s0.2.2.1,bv h.s0.2.2.2.1,bv h.s0.2.2.2.2,[.bool h.s1.1],[.int .i64 h.s1.2.1],bv h.s1.2.2.1,bv h.s1.2.2.2.1,bv h.s1.2.2.2.2,[.bool h.s2.1],[.int .i64 h.s2.2.1],bv h.s2.2.2.1,bv h.s2.2.2.2.1,bv h.s2.2.2.2.2,[.bool h.s3.1],[.int .i64 h.s3.2.1],bv h.s3.2.2.1,bv h.s3.2.2.2.1,bv h.s3.2.2.2.2] [1,1,1,1,32,32,1,1,32,32,1,1,16,32,32,1,1,16,32,32,1,1,16,32,32,1,1,16,32,32] 62,glb 1,tabP]) ?_ ?_
  ·skip
   refine wp_seq_k fun K10 hK10=>wp_seq_k fun K11 hK11=>wp_plain [true,true] rfl rfl (s_move hE rfl rfl fun a hE=>s_bin hE rfl rfl bin_lss rfl fun a hE=>?_)
   replace hE := hE.cast 35 rfl (show _ = Value.bool true from (congrArg Value.bool (by decide)))
   refine q_nil ?_
   replace hE : Env a 79 [(1,_),(2,_),(4,_),(5,_),(6,_),(7,_),(8,_),(9,_),(10,_),(11,_),(12,_),(13,_),(16,_),(35,_)] := hE.sl rfl
   refine hK11 _ _ (wp_cond_true (hE.eval rfl) (wp_skip (hK10 _ _ (wp_seq_k fun K12 hK12=>wp_block (wp_seq_k fun K13 hK13=>wp_plain [true,true,true,true,true] rfl rfl (s_move hE rfl rfl fun a hE=>s_fieldAddr hE rfl fo62_2 rfl fun a hE=>?_))))))
   refine s_indexArr (j := 0) hE rfl rfl arr60 rfl (by decide) rfl fun a hE=>?_
   refine s_fieldAddr hE rfl fo59_0 rfl fun a hE=>s_load1 hE rfl (hM.get 3 rfl) rfl one4 (by intro X h;cases h) rfl fun a hE=>?_
   refine q_nil ?_
   replace hE : Env a 79 [(1,_),(2,_),(4,_),(5,_),(6,_),(7,_),(8,_),(9,_),(10,_),(11,_),(12,_),(13,_),(16,_),(35,_),(42,_)] := hE.sl rfl
   refine hK13 _ _ ?_
   refine hE.split 42 rfl (fun hb42 hE=>?_) (fun hb42 hE=>?_)
   ·obtain ⟨c1,c2⟩ := cnt_at (h := h) (j := 0) (by decide) hb42
    replace c1 : 0 < (usedL h).length := c1
    replace c2 : (usedL h).getD 0 0 = 0 := c2
    refine wp_cond_true (hE.eval rfl) (wp_seq_k fun K14 hK14=>wp_seq_k fun K15 hK15=>wp_plain [true,true,true,true,true,true,true,true,true,true,true,true] rfl rfl (s_move hE rfl rfl fun a hE=>s_move hE rfl rfl fun a hE=>s_len hE rfl Tryd.underlying77 (own_slice (hM.get 0 rfl)) rfl fun a hE=>s_bin hE rfl rfl bin_geq rfl fun a hE=>s_move hE rfl rfl fun a hE=>?_))
    replace hE := hE.cast 47 rfl (show _ = Value.bool false from (congrArg Value.bool (decide_eq_false (by omega))))
    refine g_yes hE rfl rfl (s_move hE rfl rfl fun a hE=>g_yes hE rfl rfl (s_move hE rfl rfl fun a hE=>g_yes hE rfl rfl ?_))
    obtain ⟨cx50,hx50⟩ := own_rd (hM.get 0 rfl)
    refine s_indexRd (j := 0) hE rfl hx50 rfl slt77 (by first | rfl | omega) (by omega) rfl ?_;intro a p50 hE hc50 hp50
    have hlj50 : 0 < (usedL h).length := (by omega)
    have hok50 := usedL_lt _ (getD_mem (d := 0) hlj50)
    rw [flat_elem (d := 0) (fun x hx => (show (intC _).length = 1 from rfl)) hlj50] at hc50
    refine g_yes hE rfl rfl ?_
    replace hc50 : (cellsAt _ [.int .i64 ((((usedL h).getD 0 0) : Nat) : Int)]).holds _ := hc50
    refine s_loadAt1 hE rfl hc50 one3 (by intro X h;cases h) rfl fun a hE=>?_
    refine g_yes hE rfl rfl (s_move hE rfl rfl fun a hE=>g_yes hE rfl rfl (s_bin hE rfl rfl bin_neq rfl fun a hE=>s_pickf hE rfl rfl rfl fun a hE=>q_nil ?_))
    replace hE : Env a 79 [(1,_),(2,_),(4,_),(5,_),(6,_),(7,_),(8,_),(9,_),(10,_),(11,_),(12,_),(13,_),(16,_),(35,_),(42,_),(54,_)] := hE.sl rfl
    refine hK15 _ _ ?_
    replace hE := hE.cast 54 rfl (show _ = Value.bool false from (congrArg Value.bool (by rw [c2];rfl)))
    refine wp_cond_false (hE.eval rfl) (wp_skip (hK14 _ _ (wp_plain [true,true,true] rfl rfl (s_move hE rfl rfl fun a hE=>s_bin hE rfl rfl (show Bin _ _ _ _ _ (.int .i64 1) from bin_add (by rw [wrap_i64 (by omega) (by omega)];omega)) rfl fun a hE=>?_))))
    refine s_assign hE rfl rfl fun a hE=>q_nil ?_
    replace hE : Env a 79 [(1,_),(2,_),(4,_),(5,_),(6,_),(7,_),(8,_),(9,_),(10,_),(11,_),(12,_),(13,_),(16,_),(35,_),(42,_),(54,_)] := hE.sl rfl
    refine q_block_n (hK12 _ _ (wp_plain [true,true,true] rfl rfl (s_move hE rfl rfl fun a hE=>s_bin hE rfl rfl (show Bin _ _ _ _ _ (.int .i64 1) from bin_add (by rw [wrap_i64 (by omega) (by omega)];omega)) rfl fun a hE=>?_)))
    refine s_assign hE rfl rfl fun a hE=>q_nil ?_
    replace hE : Env a 79 [(1,_),(2,_),(4,_),(5,_),(6,_),(7,_),(8,_),(9,_),(10,_),(11,_),(12,_),(13,_),(16,_),(35,_),(42,_),(54,_)] := hE.sl rfl
    replace hM : Mem _ _ w9 [_,_,_,_,_,_] := hM.pick [0,1,2,3,4,5] rfl
    replace hE := hE.cast 12 rfl (show _ = Value.int .i64 ((cntU h 1 : Nat) : Int) from (by simp [cntU,getS,hb42]))
    refine q_then_n ⟨trivial,hE.sel [1,2,4,5,6,7,8,9,10,11,12,13,16] rfl,hM⟩
   ·refine wp_cond_false (hE.eval rfl) (wp_skip (q_block_n (hK12 _ _ (wp_plain [true,true,true] rfl rfl (s_move hE rfl rfl fun a hE=>s_bin hE rfl rfl (show Bin _ _ _ _ _ (.int .i64 1) from bin_add (by rw [wrap_i64 (by omega) (by omega)];omega)) rfl fun a hE=>?_)))))
    refine s_assign hE rfl rfl fun a hE=>q_nil ?_
    replace hE : Env a 79 [(1,_),(2,_),(4,_),(5,_),(6,_),(7,_),(8,_),(9,_),(10,_),(11,_),(12,_),(13,_),(16,_),(35,_),(42,_)] := hE.sl rfl
    replace hM : Mem _ _ w9 [_,_,_,_,_,_] := hM.pick [0,1,2,3,4,5] rfl
    replace hE := hE.cast 12 rfl (show _ = Value.int .i64 ((cntU h 1 : Nat) : Int) from (by simp [cntU,getS,hb42]))
    refine q_then_n ⟨trivial,hE.sel [1,2,4,5,6,7,8,9,10,11,12,13,16] rfl,hM⟩
  rintro a w10 ⟨hJ8_0,hE,hM⟩
  refine c_roundsJ (fun a w' => True ∧ Env a 79 [(1,.string (str p)),(2,.pointer (some ⟨b2,0,none⟩)),(4,.bool false),(5,.pointer (some ⟨b5,0,none⟩)),(6,.int .i64 (((unl h p).2.1 : Nat) : Int)),(7,.int .i64 (((unl h p).2.2 : Nat) : Int)),(8,.pointer (some ⟨b8,0,none⟩)),(9,.int .i64 (((unl h p).2.1 : Nat) : Int)),(10,.int .i64 (((unl h p).2.2 : Nat) : Int)),(11,v33_0),(12,.int .i64 ((cntU h 2 : Nat) : Int)),(13,.int .i64 2),(16,.bool false)] ∧ Mem w [] w' [own v33_0 1 ((usedL h).length) ((usedL h).flatMap intC),blk b8 [bv ((unl h p).1)] [32] 23,blk b5 [bv ((unl h p).1)] [32] 23,blk b2 [[.int .i64 h.m],[.int .i64 h.r],[.bool h.v0.1],[.int .u64 ((h.v0.2.1 : Nat) : Int)],bv h.v0.2.2.1,bv h.v0.2.2.2,[.bool h.v1.1],[.int .u64 ((h.v1.2.1 : Nat) : Int)],bv h.v1.2.2.1,bv h.v1.2.2.2,[.bool h.s0.1],[.int .i64 h.s0.2.1],bv h.s0.2.2.1,bv h.s0.2.2.2.1,bv h.s0.2.2.2.2,[.bool h.s1.1],[.int .i64 h.s1.2.1],bv h.s1.2.2.1,bv h.s1.2.2.2.1,bv h.s1.2.2.2.2,[.bool h.s2.1],[.int .i64 h.s2.2.1],bv h.s2.2.2.1,bv h.s2.2.2.2.1,bv h.s2.2.2.2.2,[.bool h.s3.1],[.int .i64 h.s3.2.1],bv h.s3.2.2.1,bv h.s3.2.2.2.1,bv h.s3.2.2.2.2] [1,1,1,1,32,32,1,1,32,32,1,1,16,32,32,1,1,16,32,32,1,1,16,32,32,1,1,16,32,32] 62,glb 1,tabP]) ?_ ?_
  ·skip
   refine wp_seq_k fun K10 hK10=>wp_seq_k fun K11 hK11=>wp_plain [true,true] rfl rfl (s_move hE rfl rfl fun a hE=>s_bin hE rfl rfl bin_lss rfl fun a hE=>?_)
   replace hE := hE.cast 35 rfl (show _ = Value.bool true from (congrArg Value.bool (by decide)))
   refine q_nil ?_
   replace hE : Env a 79 [(1,_),(2,_),(4,_),(5,_),(6,_),(7,_),(8,_),(9,_),(10,_),(11,_),(12,_),(13,_),(16,_),(35,_)] := hE.sl rfl
   refine hK11 _ _ (wp_cond_true (hE.eval rfl) (wp_skip (hK10 _ _ (wp_seq_k fun K12 hK12=>wp_block (wp_seq_k fun K13 hK13=>wp_plain [true,true,true,true,true] rfl rfl (s_move hE rfl rfl fun a hE=>s_fieldAddr hE rfl fo62_2 rfl fun a hE=>?_))))))
   refine s_indexArr (j := 1) hE rfl rfl arr60 rfl (by decide) rfl fun a hE=>?_
   refine s_fieldAddr hE rfl fo59_0 rfl fun a hE=>s_load1 hE rfl (hM.get 3 rfl) rfl one4 (by intro X h;cases h) rfl fun a hE=>?_
   refine q_nil ?_
   replace hE : Env a 79 [(1,_),(2,_),(4,_),(5,_),(6,_),(7,_),(8,_),(9,_),(10,_),(11,_),(12,_),(13,_),(16,_),(35,_),(42,_)] := hE.sl rfl
   refine hK13 _ _ ?_
   refine hE.split 42 rfl (fun hb42 hE=>?_) (fun hb42 hE=>?_)
   ·obtain ⟨c1,c2⟩ := cnt_at (h := h) (j := 1) (by decide) hb42
    refine wp_cond_true (hE.eval rfl) (wp_seq_k fun K14 hK14=>wp_seq_k fun K15 hK15=>wp_plain [true,true,true,true,true,true,true,true,true,true,true,true] rfl rfl (s_move hE rfl rfl fun a hE=>s_move hE rfl rfl fun a hE=>s_len hE rfl Tryd.underlying77 (own_slice (hM.get 0 rfl)) rfl fun a hE=>s_bin hE rfl rfl bin_geq rfl fun a hE=>s_move hE rfl rfl fun a hE=>?_))
    replace hE := hE.cast 47 rfl (show _ = Value.bool false from (congrArg Value.bool (decide_eq_false (by omega))))
    refine g_yes hE rfl rfl (s_move hE rfl rfl fun a hE=>g_yes hE rfl rfl (s_move hE rfl rfl fun a hE=>g_yes hE rfl rfl ?_))
    obtain ⟨cx50,hx50⟩ := own_rd (hM.get 0 rfl)
    refine s_indexRd (j := cntU h 1) hE rfl hx50 rfl slt77 (by first | rfl | omega) (by omega) rfl ?_;intro a p50 hE hc50 hp50
    have hlj50 : cntU h 1 < (usedL h).length := (by omega)
    have hok50 := usedL_lt _ (getD_mem (d := 0) hlj50)
    rw [flat_elem (d := 0) (fun x hx => (show (intC _).length = 1 from rfl)) hlj50] at hc50
    refine g_yes hE rfl rfl ?_
    replace hc50 : (cellsAt _ [.int .i64 ((((usedL h).getD (cntU h 1) 0) : Nat) : Int)]).holds _ := hc50
    refine s_loadAt1 hE rfl hc50 one3 (by intro X h;cases h) rfl fun a hE=>?_
    refine g_yes hE rfl rfl (s_move hE rfl rfl fun a hE=>g_yes hE rfl rfl (s_bin hE rfl rfl bin_neq rfl fun a hE=>s_pickf hE rfl rfl rfl fun a hE=>q_nil ?_))
    replace hE : Env a 79 [(1,_),(2,_),(4,_),(5,_),(6,_),(7,_),(8,_),(9,_),(10,_),(11,_),(12,_),(13,_),(16,_),(35,_),(42,_),(54,_)] := hE.sl rfl
    refine hK15 _ _ ?_
    replace hE := hE.cast 54 rfl (show _ = Value.bool false from (congrArg Value.bool (by rw [c2];rfl)))
    refine wp_cond_false (hE.eval rfl) (wp_skip (hK14 _ _ (wp_plain [true,true,true] rfl rfl (s_move hE rfl rfl fun a hE=>s_bin hE rfl rfl (show Bin _ _ _ _ _ (.int .i64 (((cntU h 1) + 1 : Nat) : Int)) from bin_add (by rw [wrap_i64 (by omega) (by omega)];omega)) rfl fun a hE=>?_))))
    refine s_assign hE rfl rfl fun a hE=>q_nil ?_
    replace hE : Env a 79 [(1,_),(2,_),(4,_),(5,_),(6,_),(7,_),(8,_),(9,_),(10,_),(11,_),(12,_),(13,_),(16,_),(35,_),(42,_),(54,_)] := hE.sl rfl
    refine q_block_n (hK12 _ _ (wp_plain [true,true,true] rfl rfl (s_move hE rfl rfl fun a hE=>s_bin hE rfl rfl (show Bin _ _ _ _ _ (.int .i64 2) from bin_add (by rw [wrap_i64 (by omega) (by omega)];omega)) rfl fun a hE=>?_)))
    refine s_assign hE rfl rfl fun a hE=>q_nil ?_
    replace hE : Env a 79 [(1,_),(2,_),(4,_),(5,_),(6,_),(7,_),(8,_),(9,_),(10,_),(11,_),(12,_),(13,_),(16,_),(35,_),(42,_),(54,_)] := hE.sl rfl
    replace hM : Mem _ _ w10 [_,_,_,_,_,_] := hM.pick [0,1,2,3,4,5] rfl
    replace hE := hE.cast 12 rfl (show _ = Value.int .i64 ((cntU h 2 : Nat) : Int) from (by simp [cntU,getS,hb42]))
    refine q_then_n ⟨trivial,hE.sel [1,2,4,5,6,7,8,9,10,11,12,13,16] rfl,hM⟩
   ·refine wp_cond_false (hE.eval rfl) (wp_skip (q_block_n (hK12 _ _ (wp_plain [true,true,true] rfl rfl (s_move hE rfl rfl fun a hE=>s_bin hE rfl rfl (show Bin _ _ _ _ _ (.int .i64 2) from bin_add (by rw [wrap_i64 (by omega) (by omega)];omega)) rfl fun a hE=>?_)))))
    refine s_assign hE rfl rfl fun a hE=>q_nil ?_
    replace hE : Env a 79 [(1,_),(2,_),(4,_),(5,_),(6,_),(7,_),(8,_),(9,_),(10,_),(11,_),(12,_),(13,_),(16,_),(35,_),(42,_)] := hE.sl rfl
    replace hM : Mem _ _ w10 [_,_,_,_,_,_] := hM.pick [0,1,2,3,4,5] rfl
    replace hE := hE.cast 12 rfl (show _ = Value.int .i64 ((cntU h 2 : Nat) : Int) from (by simp [cntU,getS,hb42]))
    refine q_then_n ⟨trivial,hE.sel [1,2,4,5,6,7,8,9,10,11,12,13,16] rfl,hM⟩
  rintro a w11 ⟨hJ8_1,hE,hM⟩
  refine c_roundsJ (fun a w' => True ∧ Env a 79 [(1,.string (str p)),(2,.pointer (some ⟨b2,0,none⟩)),(4,.bool false),(5,.pointer (some ⟨b5,0,none⟩)),(6,.int .i64 (((unl h p).2.1 : Nat) : Int)),(7,.int .i64 (((unl h p).2.2 : Nat) : Int)),(8,.pointer (some ⟨b8,0,none⟩)),(9,.int .i64 (((unl h p).2.1 : Nat) : Int)),(10,.int .i64 (((unl h p).2.2 : Nat) : Int)),(11,v33_0),(12,.int .i64 ((cntU h 3 : Nat) : Int)),(13,.int .i64 3),(16,.bool false)] ∧ Mem w [] w' [own v33_0 1 ((usedL h).length) ((usedL h).flatMap intC),blk b8 [bv ((unl h p).1)] [32] 23,blk b5 [bv ((unl h p).1)] [32] 23,blk b2 [[.int .i64 h.m],[.int .i64 h.r],[.bool h.v0.1],[.int .u64 ((h.v0.2.1 : Nat) : Int)],bv h.v0.2.2.1,bv h.v0.2.2.2,[.bool h.v1.1],[.int .u64 ((h.v1.2.1 : Nat) : Int)],bv h.v1.2.2.1,bv h.v1.2.2.2,[.bool h.s0.1],[.int .i64 h.s0.2.1],bv h.s0.2.2.1,bv h.s0.2.2.2.1,bv h.s0.2.2.2.2,[.bool h.s1.1],[.int .i64 h.s1.2.1],bv h.s1.2.2.1,bv h.s1.2.2.2.1,bv h.s1.2.2.2.2,[.bool h.s2.1],[.int .i64 h.s2.2.1],bv h.s2.2.2.1,bv h.s2.2.2.2.1,bv h.s2.2.2.2.2,[.bool h.s3.1],[.int .i64 h.s3.2.1],bv h.s3.2.2.1,bv h.s3.2.2.2.1,bv h.s3.2.2.2.2] [1,1,1,1,32,32,1,1,32,32,1,1,16,32,32,1,1,16,32,32,1,1,16,32,32,1,1,16,32,32] 62,glb 1,tabP]) ?_ ?_
  ·skip
   refine wp_seq_k fun K10 hK10=>wp_seq_k fun K11 hK11=>wp_plain [true,true] rfl rfl (s_move hE rfl rfl fun a hE=>s_bin hE rfl rfl bin_lss rfl fun a hE=>?_)
   replace hE := hE.cast 35 rfl (show _ = Value.bool true from (congrArg Value.bool (by decide)))
   refine q_nil ?_
   replace hE : Env a 79 [(1,_),(2,_),(4,_),(5,_),(6,_),(7,_),(8,_),(9,_),(10,_),(11,_),(12,_),(13,_),(16,_),(35,_)] := hE.sl rfl
   refine hK11 _ _ (wp_cond_true (hE.eval rfl) (wp_skip (hK10 _ _ (wp_seq_k fun K12 hK12=>wp_block (wp_seq_k fun K13 hK13=>wp_plain [true,true,true,true,true] rfl rfl (s_move hE rfl rfl fun a hE=>s_fieldAddr hE rfl fo62_2 rfl fun a hE=>?_))))))
   refine s_indexArr (j := 2) hE rfl rfl arr60 rfl (by decide) rfl fun a hE=>?_
   refine s_fieldAddr hE rfl fo59_0 rfl fun a hE=>s_load1 hE rfl (hM.get 3 rfl) rfl one4 (by intro X h;cases h) rfl fun a hE=>?_
   refine q_nil ?_
   replace hE : Env a 79 [(1,_),(2,_),(4,_),(5,_),(6,_),(7,_),(8,_),(9,_),(10,_),(11,_),(12,_),(13,_),(16,_),(35,_),(42,_)] := hE.sl rfl
   refine hK13 _ _ ?_
   refine hE.split 42 rfl (fun hb42 hE=>?_) (fun hb42 hE=>?_)
   ·obtain ⟨c1,c2⟩ := cnt_at (h := h) (j := 2) (by decide) hb42
    refine wp_cond_true (hE.eval rfl) (wp_seq_k fun K14 hK14=>wp_seq_k fun K15 hK15=>wp_plain [true,true,true,true,true,true,true,true,true,true,true,true] rfl rfl (s_move hE rfl rfl fun a hE=>s_move hE rfl rfl fun a hE=>s_len hE rfl Tryd.underlying77 (own_slice (hM.get 0 rfl)) rfl fun a hE=>s_bin hE rfl rfl bin_geq rfl fun a hE=>s_move hE rfl rfl fun a hE=>?_))
    replace hE := hE.cast 47 rfl (show _ = Value.bool false from (congrArg Value.bool (decide_eq_false (by omega))))
    refine g_yes hE rfl rfl (s_move hE rfl rfl fun a hE=>g_yes hE rfl rfl (s_move hE rfl rfl fun a hE=>g_yes hE rfl rfl ?_))
    obtain ⟨cx50,hx50⟩ := own_rd (hM.get 0 rfl)
    refine s_indexRd (j := cntU h 2) hE rfl hx50 rfl slt77 (by first | rfl | omega) (by omega) rfl ?_;intro a p50 hE hc50 hp50
    have hlj50 : cntU h 2 < (usedL h).length := (by omega)
    have hok50 := usedL_lt _ (getD_mem (d := 0) hlj50)
    rw [flat_elem (d := 0) (fun x hx => (show (intC _).length = 1 from rfl)) hlj50] at hc50
    refine g_yes hE rfl rfl ?_
    replace hc50 : (cellsAt _ [.int .i64 ((((usedL h).getD (cntU h 2) 0) : Nat) : Int)]).holds _ := hc50
    refine s_loadAt1 hE rfl hc50 one3 (by intro X h;cases h) rfl fun a hE=>?_
    refine g_yes hE rfl rfl (s_move hE rfl rfl fun a hE=>g_yes hE rfl rfl (s_bin hE rfl rfl bin_neq rfl fun a hE=>s_pickf hE rfl rfl rfl fun a hE=>q_nil ?_))
    replace hE : Env a 79 [(1,_),(2,_),(4,_),(5,_),(6,_),(7,_),(8,_),(9,_),(10,_),(11,_),(12,_),(13,_),(16,_),(35,_),(42,_),(54,_)] := hE.sl rfl
    refine hK15 _ _ ?_
    replace hE := hE.cast 54 rfl (show _ = Value.bool false from (congrArg Value.bool (by rw [c2];rfl)))
    refine wp_cond_false (hE.eval rfl) (wp_skip (hK14 _ _ (wp_plain [true,true,true] rfl rfl (s_move hE rfl rfl fun a hE=>s_bin hE rfl rfl (show Bin _ _ _ _ _ (.int .i64 (((cntU h 2) + 1 : Nat) : Int)) from bin_add (by rw [wrap_i64 (by omega) (by omega)];omega)) rfl fun a hE=>?_))))
    refine s_assign hE rfl rfl fun a hE=>q_nil ?_
    replace hE : Env a 79 [(1,_),(2,_),(4,_),(5,_),(6,_),(7,_),(8,_),(9,_),(10,_),(11,_),(12,_),(13,_),(16,_),(35,_),(42,_),(54,_)] := hE.sl rfl
    refine q_block_n (hK12 _ _ (wp_plain [true,true,true] rfl rfl (s_move hE rfl rfl fun a hE=>s_bin hE rfl rfl (show Bin _ _ _ _ _ (.int .i64 3) from bin_add (by rw [wrap_i64 (by omega) (by omega)];omega)) rfl fun a hE=>?_)))
    refine s_assign hE rfl rfl fun a hE=>q_nil ?_
    replace hE : Env a 79 [(1,_),(2,_),(4,_),(5,_),(6,_),(7,_),(8,_),(9,_),(10,_),(11,_),(12,_),(13,_),(16,_),(35,_),(42,_),(54,_)] := hE.sl rfl
    replace hM : Mem _ _ w11 [_,_,_,_,_,_] := hM.pick [0,1,2,3,4,5] rfl
    replace hE := hE.cast 12 rfl (show _ = Value.int .i64 ((cntU h 3 : Nat) : Int) from (by simp [cntU,getS,hb42]))
    refine q_then_n ⟨trivial,hE.sel [1,2,4,5,6,7,8,9,10,11,12,13,16] rfl,hM⟩
   ·refine wp_cond_false (hE.eval rfl) (wp_skip (q_block_n (hK12 _ _ (wp_plain [true,true,true] rfl rfl (s_move hE rfl rfl fun a hE=>s_bin hE rfl rfl (show Bin _ _ _ _ _ (.int .i64 3) from bin_add (by rw [wrap_i64 (by omega) (by omega)];omega)) rfl fun a hE=>?_)))))
    refine s_assign hE rfl rfl fun a hE=>q_nil ?_
    replace hE : Env a 79 [(1,_),(2,_),(4,_),(5,_),(6,_),(7,_),(8,_),(9,_),(10,_),(11,_),(12,_),(13,_),(16,_),(35,_),(42,_)] := hE.sl rfl
    replace hM : Mem _ _ w11 [_,_,_,_,_,_] := hM.pick [0,1,2,3,4,5] rfl
    replace hE := hE.cast 12 rfl (show _ = Value.int .i64 ((cntU h 3 : Nat) : Int) from (by simp [cntU,getS,hb42]))
    refine q_then_n ⟨trivial,hE.sel [1,2,4,5,6,7,8,9,10,11,12,13,16] rfl,hM⟩
  rintro a w12 ⟨hJ8_2,hE,hM⟩
  refine c_roundsJ (fun a w' => True ∧ Env a 79 [(1,.string (str p)),(2,.pointer (some ⟨b2,0,none⟩)),(4,.bool false),(5,.pointer (some ⟨b5,0,none⟩)),(6,.int .i64 (((unl h p).2.1 : Nat) : Int)),(7,.int .i64 (((unl h p).2.2 : Nat) : Int)),(8,.pointer (some ⟨b8,0,none⟩)),(9,.int .i64 (((unl h p).2.1 : Nat) : Int)),(10,.int .i64 (((unl h p).2.2 : Nat) : Int)),(11,v33_0),(12,.int .i64 ((cntU h 4 : Nat) : Int)),(13,.int .i64 4),(16,.bool false)] ∧ Mem w [] w' [own v33_0 1 ((usedL h).length) ((usedL h).flatMap intC),blk b8 [bv ((unl h p).1)] [32] 23,blk b5 [bv ((unl h p).1)] [32] 23,blk b2 [[.int .i64 h.m],[.int .i64 h.r],[.bool h.v0.1],[.int .u64 ((h.v0.2.1 : Nat) : Int)],bv h.v0.2.2.1,bv h.v0.2.2.2,[.bool h.v1.1],[.int .u64 ((h.v1.2.1 : Nat) : Int)],bv h.v1.2.2.1,bv h.v1.2.2.2,[.bool h.s0.1],[.int .i64 h.s0.2.1],bv h.s0.2.2.1,bv h.s0.2.2.2.1,bv h.s0.2.2.2.2,[.bool h.s1.1],[.int .i64 h.s1.2.1],bv h.s1.2.2.1,bv h.s1.2.2.2.1,bv h.s1.2.2.2.2,[.bool h.s2.1],[.int .i64 h.s2.2.1],bv h.s2.2.2.1,bv h.s2.2.2.2.1,bv h.s2.2.2.2.2,[.bool h.s3.1],[.int .i64 h.s3.2.1],bv h.s3.2.2.1,bv h.s3.2.2.2.1,bv h.s3.2.2.2.2] [1,1,1,1,32,32,1,1,32,32,1,1,16,32,32,1,1,16,32,32,1,1,16,32,32,1,1,16,32,32] 62,glb 1,tabP]) ?_ ?_
  ·skip
   refine wp_seq_k fun K10 hK10=>wp_seq_k fun K11 hK11=>wp_plain [true,true] rfl rfl (s_move hE rfl rfl fun a hE=>s_bin hE rfl rfl bin_lss rfl fun a hE=>?_)
   replace hE := hE.cast 35 rfl (show _ = Value.bool true from (congrArg Value.bool (by decide)))
   refine q_nil ?_
   replace hE : Env a 79 [(1,_),(2,_),(4,_),(5,_),(6,_),(7,_),(8,_),(9,_),(10,_),(11,_),(12,_),(13,_),(16,_),(35,_)] := hE.sl rfl
   refine hK11 _ _ (wp_cond_true (hE.eval rfl) (wp_skip (hK10 _ _ (wp_seq_k fun K12 hK12=>wp_block (wp_seq_k fun K13 hK13=>wp_plain [true,true,true,true,true] rfl rfl (s_move hE rfl rfl fun a hE=>s_fieldAddr hE rfl fo62_2 rfl fun a hE=>?_))))))
   refine s_indexArr (j := 3) hE rfl rfl arr60 rfl (by decide) rfl fun a hE=>?_
   refine s_fieldAddr hE rfl fo59_0 rfl fun a hE=>s_load1 hE rfl (hM.get 3 rfl) rfl one4 (by intro X h;cases h) rfl fun a hE=>?_
   refine q_nil ?_
   replace hE : Env a 79 [(1,_),(2,_),(4,_),(5,_),(6,_),(7,_),(8,_),(9,_),(10,_),(11,_),(12,_),(13,_),(16,_),(35,_),(42,_)] := hE.sl rfl
   refine hK13 _ _ ?_
   refine hE.split 42 rfl (fun hb42 hE=>?_) (fun hb42 hE=>?_)
   ·obtain ⟨c1,c2⟩ := cnt_at (h := h) (j := 3) (by decide) hb42
    refine wp_cond_true (hE.eval rfl) (wp_seq_k fun K14 hK14=>wp_seq_k fun K15 hK15=>wp_plain [true,true,true,true,true,true,true,true,true,true,true,true] rfl rfl (s_move hE rfl rfl fun a hE=>s_move hE rfl rfl fun a hE=>s_len hE rfl Tryd.underlying77 (own_slice (hM.get 0 rfl)) rfl fun a hE=>s_bin hE rfl rfl bin_geq rfl fun a hE=>s_move hE rfl rfl fun a hE=>?_))
    replace hE := hE.cast 47 rfl (show _ = Value.bool false from (congrArg Value.bool (decide_eq_false (by omega))))
    refine g_yes hE rfl rfl (s_move hE rfl rfl fun a hE=>g_yes hE rfl rfl (s_move hE rfl rfl fun a hE=>g_yes hE rfl rfl ?_))
    obtain ⟨cx50,hx50⟩ := own_rd (hM.get 0 rfl)
    refine s_indexRd (j := cntU h 3) hE rfl hx50 rfl slt77 (by first | rfl | omega) (by omega) rfl ?_;intro a p50 hE hc50 hp50
    have hlj50 : cntU h 3 < (usedL h).length := (by omega)
    have hok50 := usedL_lt _ (getD_mem (d := 0) hlj50)
    rw [flat_elem (d := 0) (fun x hx => (show (intC _).length = 1 from rfl)) hlj50] at hc50
    refine g_yes hE rfl rfl ?_
    replace hc50 : (cellsAt _ [.int .i64 ((((usedL h).getD (cntU h 3) 0) : Nat) : Int)]).holds _ := hc50
    refine s_loadAt1 hE rfl hc50 one3 (by intro X h;cases h) rfl fun a hE=>?_
    refine g_yes hE rfl rfl (s_move hE rfl rfl fun a hE=>g_yes hE rfl rfl (s_bin hE rfl rfl bin_neq rfl fun a hE=>s_pickf hE rfl rfl rfl fun a hE=>q_nil ?_))
    replace hE : Env a 79 [(1,_),(2,_),(4,_),(5,_),(6,_),(7,_),(8,_),(9,_),(10,_),(11,_),(12,_),(13,_),(16,_),(35,_),(42,_),(54,_)] := hE.sl rfl
    refine hK15 _ _ ?_
    replace hE := hE.cast 54 rfl (show _ = Value.bool false from (congrArg Value.bool (by rw [c2];rfl)))
    refine wp_cond_false (hE.eval rfl) (wp_skip (hK14 _ _ (wp_plain [true,true,true] rfl rfl (s_move hE rfl rfl fun a hE=>s_bin hE rfl rfl (show Bin _ _ _ _ _ (.int .i64 (((cntU h 3) + 1 : Nat) : Int)) from bin_add (by rw [wrap_i64 (by omega) (by omega)];omega)) rfl fun a hE=>?_))))
    refine s_assign hE rfl rfl fun a hE=>q_nil ?_
    replace hE : Env a 79 [(1,_),(2,_),(4,_),(5,_),(6,_),(7,_),(8,_),(9,_),(10,_),(11,_),(12,_),(13,_),(16,_),(35,_),(42,_),(54,_)] := hE.sl rfl
    refine q_block_n (hK12 _ _ (wp_plain [true,true,true] rfl rfl (s_move hE rfl rfl fun a hE=>s_bin hE rfl rfl (show Bin _ _ _ _ _ (.int .i64 4) from bin_add (by rw [wrap_i64 (by omega) (by omega)];omega)) rfl fun a hE=>?_)))
    refine s_assign hE rfl rfl fun a hE=>q_nil ?_
    replace hE : Env a 79 [(1,_),(2,_),(4,_),(5,_),(6,_),(7,_),(8,_),(9,_),(10,_),(11,_),(12,_),(13,_),(16,_),(35,_),(42,_),(54,_)] := hE.sl rfl
    replace hM : Mem _ _ w12 [_,_,_,_,_,_] := hM.pick [0,1,2,3,4,5] rfl
    replace hE := hE.cast 12 rfl (show _ = Value.int .i64 ((cntU h 4 : Nat) : Int) from (by simp [cntU,getS,hb42]))
    refine q_then_n ⟨trivial,hE.sel [1,2,4,5,6,7,8,9,10,11,12,13,16] rfl,hM⟩
   ·refine wp_cond_false (hE.eval rfl) (wp_skip (q_block_n (hK12 _ _ (wp_plain [true,true,true] rfl rfl (s_move hE rfl rfl fun a hE=>s_bin hE rfl rfl (show Bin _ _ _ _ _ (.int .i64 4) from bin_add (by rw [wrap_i64 (by omega) (by omega)];omega)) rfl fun a hE=>?_)))))
    refine s_assign hE rfl rfl fun a hE=>q_nil ?_
    replace hE : Env a 79 [(1,_),(2,_),(4,_),(5,_),(6,_),(7,_),(8,_),(9,_),(10,_),(11,_),(12,_),(13,_),(16,_),(35,_),(42,_)] := hE.sl rfl
    replace hM : Mem _ _ w12 [_,_,_,_,_,_] := hM.pick [0,1,2,3,4,5] rfl
    replace hE := hE.cast 12 rfl (show _ = Value.int .i64 ((cntU h 4 : Nat) : Int) from (by simp [cntU,getS,hb42]))
    refine q_then_n ⟨trivial,hE.sel [1,2,4,5,6,7,8,9,10,11,12,13,16] rfl,hM⟩
  rintro a w13 ⟨hJ8_3,hE,hM⟩
  refine c_rounds (wp_seq_k fun K10 hK10=>wp_seq_k fun K11 hK11=>wp_plain [true,true] rfl rfl (s_move hE rfl rfl fun a hE=>s_bin hE rfl rfl bin_lss rfl fun a hE=>?_))
  replace hE := hE.cast 35 rfl (show _ = Value.bool false from (congrArg Value.bool (by decide)))
  refine q_nil ?_
  replace hE : Env a 79 [(1,_),(2,_),(4,_),(5,_),(6,_),(7,_),(8,_),(9,_),(10,_),(11,_),(12,_),(13,_),(16,_),(35,_)] := hE.sl rfl
  refine hK11 _ _ (wp_cond_false (hE.eval rfl) (wp_exit (q_then_e (q_then_e (q_block_x (hK8 _ _ (wp_seq_k fun K12 hK12=>wp_plain [true,true,true,true,true,true,true,true,true,true,true,true,true,true,true,true,true,true,true,true,false,true,true] rfl rfl (s_loadN hE rfl (hM.get 2 rfl) row23 rfl (by intro X h;cases h) rfl fun a hE=>?_))))))))
  refine s_loadN hE rfl (hM.get 1 rfl) row23 rfl (by intro X h;cases h) rfl fun a hE=>?_
  refine s_bin hE rfl rfl (eqa23 (unl_len hk_h p) (unl_len hk_h p)).1 rfl fun a hE=>s_move hE rfl rfl fun a hE=>?_
  replace hE := hE.cast 60 rfl (show _ = Value.bool true from (congrArg Value.bool (by first | (with_reducible exact decide_eq_true rfl) | (with_reducible exact decide_eq_true ⟨rfl,rfl⟩) | (simp;done))))
  refine g_yes hE rfl rfl (s_move hE rfl rfl fun a hE=>g_yes hE rfl rfl (s_move hE rfl rfl fun a hE=>g_yes hE rfl rfl (s_bin hE rfl rfl bin_eql rfl fun a hE=>s_pickt hE rfl rfl rfl fun a hE=>s_move hE rfl rfl fun a hE=>?_)))
  replace hE := hE.cast 65 rfl (show _ = Value.bool true from (congrArg Value.bool (by first | (with_reducible exact decide_eq_true rfl) | (with_reducible exact decide_eq_true ⟨rfl,rfl⟩) | (simp;done))))
  refine g_yes hE rfl rfl (s_move hE rfl rfl fun a hE=>g_yes hE rfl rfl (s_move hE rfl rfl fun a hE=>g_yes hE rfl rfl (s_bin hE rfl rfl bin_eql rfl fun a hE=>s_pickt hE rfl rfl rfl fun a hE=>s_move hE rfl rfl fun a hE=>?_)))
  replace hE := hE.cast 70 rfl (show _ = Value.bool true from (congrArg Value.bool (by first | (with_reducible exact decide_eq_true rfl) | (with_reducible exact decide_eq_true ⟨rfl,rfl⟩) | (simp;done))))
  refine g_yes hE rfl rfl (s_move hE rfl rfl fun a hE=>g_yes hE rfl rfl (s_move hE rfl rfl fun a hE=>g_yes hE rfl rfl (s_len hE rfl Tryd.underlying77 (own_slice (hM.get 0 rfl)) rfl fun a hE=>g_yes hE rfl rfl (s_bin hE rfl rfl bin_eql rfl fun a hE=>s_pickt hE rfl rfl rfl fun a hE=>s_move hE rfl rfl fun a hE=>?_))))
  replace hE := hE.cast 76 rfl (show _ = Value.bool true from (congrArg Value.bool (by rw [cnt_all];simp)))
  refine g_yes hE rfl rfl (s_call hE rfl Tryd.call28 (awake25_c  _ (hM.get 4 rfl) (hM.get 5 rfl)) rfl ?_)
  rintro e w14 ⟨rfl,hN⟩
  refine ⟨_,rfl,trivial,fun a hE=>?_⟩
  replace hM : Mem _ _ w14 [_,_,_,_,_,_] := hM.call0 hN trivial;clear hN
  refine s_pickt hE rfl rfl rfl fun a hE=>s_assign hE rfl rfl fun a hE=>q_nil ?_
  replace hE : Env a 79 [(1,_),(2,_),(4,_),(5,_),(8,_),(11,_),(12,_),(13,_),(16,_),(35,_)] := hE.sl rfl
  exact hK12 _ _ (wp_ret (f_ret1 hE rfl rfl ⟨(by first | rfl | (simp;done)),hM.pick [] rfl⟩))
set_option maxRecDepth 100000 in
theorem slotsUnlocks_lifted (os : Os) (started : os.Started) (H : Type) (enc : TypeId × Value → H) :
  ReturnsInHanded {} Tryd.checked os 13 .any (fun w args => (Rows.slotsUnlocksSpec.pre enc Tryd.prog Tryd.f13 [] false w args ∧ laidMetH Tryd.prog Rows.slotsUnlocksRow.laid w) ∧ sizedMet enc Tryd.prog Tryd.f13 (OpenSpec.ofChange Rows.slotsUnlocksSpec) false w args) (Rows.slotsUnlocksSpec.post enc Tryd.prog Tryd.f13 false true false false) := by
 refine law_liftedL (C := Tryd.checked) (fn := Tryd.f13) (l := Rows.slotsUnlocksRow.laid) (by kernel_rfl) started (by kernel_rfl) Tryd.func13 rfl (fun ds hl => ?_) rfl Tryd.underlying4 (by kernel_rfl) (of_decide_eq_true (by kernel_rfl)) (by kernel_rfl)
  (ChangeSpec.witness_shaped (enc := enc) (C := Tryd.checked) (os := os) (X := fun w _ => laidMetH Tryd.prog Rows.slotsUnlocksRow.laid w) false (World.laidAll Tryd.prog os Rows.slotsUnlocksRow.laid) #[.agg ([[.int .i64 0],[.int .i64 0]] ++ [[.bool false],[.int .u64 0],bv (List.replicate 64 0)] ++ [[.bool false],[.int .u64 0],bv (List.replicate 64 0)] ++ (List.replicate 4 [[.bool false],[.int .i64 0],bv (List.replicate 80 0)]).flatten : List (List Value)).flatten.toArray,Value.string .empty] 8 (World.laidAll_os _ _ _) (World.shaped_of_ZipB (by kernel_rfl) (by kernel_rfl)) (by kernel_rfl) (by kernel_rfl) (by kernel_rfl) (by rw [MakeChecks.laidMetH_plain _ _ _ (by kernel_rfl)];exact laidMet_laidAll _ (by kernel_rfl) (by kernel_rfl))) ?_
 ·rw [Tryd.params13] at hl
  match ds,hl with
  | [_,_],_ => rfl
 ·intro W base args ds ps hval hA hw hL
  have hG := glb_of_laid (P := Tryd.prog) (g := 1) (t := 170) (e := 129) (by kernel_rfl) (by kernel_rfl) Tryd.underlying170 Tryd.underlying129 (by kernel_rfl) (by kernel_rfl) (by kernel_rfl) (show laidMet Tryd.prog (_ :: _) W from (laidMet_tail (laidMet_tail (laidMet_tail hL))))
  have hT : tabP.holds W := tabE_of_laid (P := Tryd.prog) (g := 0) (t := 163) (e := 24) (n := 20) (by kernel_rfl) (by kernel_rfl) Tryd.underlying163 Tryd.underlying24 (by kernel_rfl) (by kernel_rfl) (by kernel_rfl) (show laidMet Tryd.prog (_ :: _) W from (laidMet_tail (laidMet_tail hL)))
  rw [Tryd.params13] at hA hval hw
  obtain ⟨v0,vs0,d0,ds0,p0,q0,hargs,rfl,rfl,h0,r0⟩ := trodAll_cons hA
  obtain ⟨v1,vs1,d1,ds1,p1,q1,rfl,rfl,rfl,h1,r1⟩ := trodAll_cons r0
  obtain ⟨rfl,rfl,rfl⟩ := trodAll_nil r1
  obtain rfl : args = #[v0,v1] := by cases args;simp_all
  obtain ⟨hd0,rfl,hk0⟩ := arg_hd (⟨62,52,55,54,60,59,29,23,27,57,3,4,24,5,_,_,_,_,_,Tryd.underlying62,Tryd.underlying52,Tryd.underlying55,Tryd.underlying54,Tryd.underlying60,Tryd.underlying59,Tryd.underlying29,Tryd.underlying23,Tryd.underlying27,Tryd.underlying57,Tryd.underlying3,Tryd.underlying4,Tryd.underlying24,Tryd.underlying5,by kernel_rfl,by kernel_rfl,by kernel_rfl,by kernel_rfl,by kernel_rfl,by kernel_rfl,by kernel_rfl,by kernel_rfl,by kernel_rfl,by kernel_rfl,by kernel_rfl,by kernel_rfl,by kernel_rfl,by kernel_rfl,by kernel_rfl,by kernel_rfl⟩ : HdT Tryd.prog) (hval 0 62 v0 rfl rfl) h0 (fun m hm => hw m (by simp only [DataW.weightsEach,List.mem_append];exact .inl hm))
  rw [hd_cells hd0]
  obtain ⟨s1,rfl,hs1⟩ := arg_string Tryd.underlying9 (hval 1 9 v1 rfl rfl) h1 (fun m hm => hw m (by simp only [DataW.weightsEach,List.mem_append];exact .inr (.inl hm)))
  obtain ⟨p,rfl⟩ := str_of s1
  exact slotsUnlocks_c hd0 p W hG hT hk0

/-- The row's statement. -/
theorem slotsUnlocks_row : Rows.SlotsUnlocksSaid :=
 OpenClaim.holds_of_wide 13 Tryd.f13 rfl rfl rfl rfl rfl rfl rfl ⟨rfl,rfl,rfl,rfl,rfl⟩ rfl rfl rfl rfl rfl (by kernel_rfl) Tryd.func13 (by kernel_rfl)
  (of_decide_eq_true (by kernel_rfl)) (by unfold Func.isWrapper;first | (rw [if_pos (by decide +kernel)];kernel_rfl) | (rw [if_neg (by decide +kernel)];exact ⟨rfl,rfl⟩))
  (fun os started H enc _ => slotsUnlocks_lifted os started H enc)

/-- The statement: the row, its listed variable tied to the program's text. -/
theorem slotsUnlocks_holds : Rows.SlotsUnlocksCardSaid :=
 Claim7.holds_tied_plain_at .later [] [.data, .data, .data, .data] true (true, "260fdf816069b3bf8e1fff31512b0488977d0f5c26e19155cc996da54a266071") false
  slotsUnlocks_row (fun _ h => by cases h) (by kernel_rfl) (fun _ h => by cases h) slotsUnlocks_row_tie rfl ⟨rfl,rfl⟩ (by kernel_rfl) rfl
  (fun f fn hf hfn => by
   obtain rfl : f = 13 := Option.some.inj ((show Tryd.prog.funcNamed "casemate/casematelaw25.SlotsUnlocks" = some 13 by kernel_rfl).symm.trans hf) |>.symm
   obtain rfl : fn = Tryd.f13 := (Option.some.inj (Tryd.func13.symm.trans hfn)).symm
   exact ⟨by kernel_rfl,fun j t ht => by
    rw [Tryd.params13] at ht
    have h : t ∈ [62,9] := by
     rcases j with _ | _ | j
     ·simp at ht;simp [ht]
     ·simp at ht;simp [ht]
     ·simp at ht
    simp only [List.mem_cons,List.not_mem_nil,or_false] at h
    rcases h with rfl | rfl
    ·exact (show Tryd.prog.wantsStandIn 62 = false by kernel_rfl)
    ·exact (show Tryd.prog.wantsStandIn 9 = false by kernel_rfl)⟩)
  (by kernel_rfl)
#print axioms slotsUnlocks_holds
end Go.Proofs.YtniekapfoaiieaaDoor
