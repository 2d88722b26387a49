/- Walks of functions of the given program that the claim reaches. -/
import Derived.Test.YtniekapfoaiieaaDoorLs
set_option linter.unusedSimpArgs false
set_option linter.unusedVariables false
namespace Go.Proofs.YtniekapfoaiieaaDoor
open Go Go.Kx
theorem zero122 : Zero Tryd.prog 122 [bv (List.replicate 64 0)] := ⟨.agg ([bv (List.replicate 64 0)] : List (List Value)).flatten.toArray,by kernel_rfl,by kernel_rfl⟩
theorem arr122 : arrT Tryd.prog 122 = some (64,1) := by kernel_rfl
theorem row122 : RowT Tryd.prog 122 64 := RowT.of Tryd.underlying122 rfl (by kernel_rfl)
theorem sz122 : (Tryd.prog.info? 122).map (·.size) = some 64 := by kernel_rfl
theorem slt117 : slT Tryd.prog 117 = some 1 := by kernel_rfl
theorem one42 : OneT Tryd.prog 42 := OneT.of Tryd.underlying42 rfl (by kernel_rfl)
theorem sl117 : SlT Tryd.prog 117 42 1 24 := ⟨Tryd.underlying117,by kernel_rfl,by kernel_rfl,.slice none 0 0,by kernel_rfl,rfl⟩
theorem pad_c (v : Value) (key : List UInt8) (c : Nat) (x : UInt8) (w : World) (hG : (glb 1).holds w) (hr : (rd v 1 key.length c (bv key)).holds w) (hk : key.length ≤ 1099511627776) : Calls Tryd.prog 79 #[v,bV x] w fun e w' => e = .returned (.agg (bv (padW key x)).toArray) ∧ Mem w [] w' [] := by
 have hM := Mem.startR2 hr hG rfl rfl
 refine ve 28 Tryd.func79 rfl rfl rfl ?_
 intro a hE
 replace hE : Env a 28 [(0,_),(1,_)] := hE
 refine ww1 fun _ K1=>wpp (qo [64] hE hM zero122 rfl rfl fun a b4 w1 hE hM=>qa (K1 (ww1 fun _ K2=>wpp (qo [64] hE hM zero122 rfl rfl fun a b5 w2 hE hM=>qa (K2 ?_)))))
 refine ww1 fun _ K3=>ww1 fun _ K4=>wpp (sm hE rfl fun a hE=>s_len hE rfl Tryd.underlying42 (rd_slice (hM.get 2 rfl)) rfl fun a hE=>sb hE rfl rfl bin_gtr fun a hE=>qa (K4 ?_))
 refine hE.split 10 rfl (fun hb10 hE=>?_) (fun hb10 hE=>?_)
 ·replace hb10 := of_decide_eq_true hb10
  replace hb10 : 64 < key.length := by omega
  refine wct hE rfl (ww1 fun _ K5=>wpp (sm hE rfl fun a hE=>qn hE rfl Tryd.call80 (sha_c v key c _ (hM.get 3 rfl) (hM.get 2 rfl) hk) rfl ?_))
  rintro e w3 ⟨rfl,hN⟩
  refine ⟨_,rfl,trivial,fun a hE=>?_⟩
  replace hM : Mem _ _ w3 [_,_,_,_] := hM.call0 hN trivial;clear hN
  refine qo [32] hE hM zero27 rfl rfl fun a b6 w4 hE hM=>qr 0 hE rfl rfl hM rfl sz27 (by simp) (vc _) rfl (by simp) rfl (by intro X h;cases h) fun w5 hM=>?_
  simp only [List.set_cons_zero,List.set_cons_succ] at hM
  refine qa (K5 (wpp (s_sliceArr (l := 0) (h := 32) (mx' := 32) hE rfl arr27 rfl rfl rfl (by simp) (by omega) (by omega) (by omega) rfl fun a hE=>?_)))
  replace hE := hE.cast 13 rfl (show _ = Value.slice (some ⟨b6,0,none⟩) 32 32 from rfl)
  refine sas hE rfl fun a hE=>qa (K3 (ww1 fun _ K6=>wpp (s_sliceArr (l := 0) (h := 64) (mx' := 64) hE rfl arr122 rfl rfl rfl (by simp) (by omega) (by omega) (by omega) rfl fun a hE=>?_)))
  replace hE := hE.cast 14 rfl (show _ = Value.slice (some ⟨b5,0,none⟩) 64 64 from rfl)
  refine sm hE rfl fun a hE=>?_
  replace hM : Mem _ _ w5 [_,_,_,_,_] := hM.pick [1,0,2,3,4] rfl
  refine s_copyArr (l := 64) hE rfl rfl hM (rd_of_arr (hM.get 1 rfl) (by simp)) (vc _) sl42 (by intro X h;cases h) rfl fun a w6 hE hM=>?_
  rw [show (bv (shaW key)).take (min (shaW key).length 64) ++ (bv (List.replicate 64 0)).drop (min (shaW key).length 64) = bv (padI (blockW key) x 0) from by rw [bv_take,bv_drop,← bv_append];unfold blockW;rw [if_pos hb10];simp [padI,List.take_of_length_le]] at hM
  refine qa (K6 (ww1 fun _ K7=>ww1 fun _ K8=>wpp (sm hE rfl fun a hE=>qa (K8 (wp_block ?_)))))
  replace hM : Mem _ _ w6 [_,_,_,_,_] := hM.pick [0,2,1,3,4] rfl
  replace hM : Mem _ _ w6 [_,_] := hM.pick [0,1] rfl
  refine c_loop (fun (i : Nat) a w' => i ≤ 64 ∧ Env a 28 [(1,bV x),(4,.pointer (some ⟨b4,0,none⟩)),(5,.pointer (some ⟨b5,0,none⟩)),(17,.int .i64 (i : Int))] ∧ Mem w [] w' [blk b5 [bv (padI (blockW key) x i)] [64] 122,blk b4 [bv (List.replicate 64 0)] [64] 122]) (fun i => 64 - i) 0 ⟨Nat.zero_le _,hE.sel [1,4,5,17] rfl,hM⟩ ?_
  rintro i a w7 ⟨hi,hE,hM⟩
  refine ww1 fun _ K9=>wpp (sb hE rfl rfl bin_lss fun a hE=>qa (K9 (ww1 fun _ K10=>?_)))
  refine hE.split 18 rfl (fun hb18 hE=>?_) (fun hb18 hE=>?_)
  ·replace hb18 := of_decide_eq_true hb18
   replace hb18 : i < 64 := by omega
   refine wct hE rfl (wp_skip (K10 (ww1 fun _ K11=>wp_block (ww1 fun _ K12=>wpp (sm hE rfl fun a hE=>sas hE rfl fun a hE=>qa ?_)))))
   refine K12 (wpp (sm hE rfl fun a hE=>qp (j := i) hE rfl rfl arr122 (by first | rfl | omega) (by first | omega | decide) rfl fun a hE=>?_))
   refine qy (j := i) hE rfl (by omega) (hM.get 0 rfl) (bv_get (by simp only [vh,padI_length,blockW_length];exact hb18)) one5 (by intro X h;cases h) rfl fun a hE=>?_
   refine sm hE rfl fun a hE=>sb hE rfl rfl bin_xor8 fun a hE=>qp (j := i) hE rfl rfl arr122 (by first | rfl | omega) (by first | omega | decide) rfl fun a hE=>?_
   refine s_storeIdx (j := i) hE rfl (by omega) rfl hM rfl rfl sz5 (by simp only [vh,padI_length,blockW_length];exact hb18) (by intro X h;cases h) fun w8 hM=>?_
   first | rw [bv_set'] at hM | rw [bv_setI] at hM
   refine qa (qe (K11 (wpp (sb hE rfl rfl (bin_add (wrap_i64 (by omega) (by omega))) fun a hE=>?_))))
   refine sm hE rfl fun a hE=>qa ?_
   replace hE := hE.cast 17 rfl (show _ = Value.int .i64 ((i + 1 : Nat) : Int) from congrArg _ (by omega))
   rw [padI_get (by rw [blockW_length];exact hb18),padI_set (by rw [blockW_length];exact hb18)] at hM
   exact ⟨i + 1,⟨by omega,hE.sel [1,4,5,17] rfl,hM⟩,by omega⟩
  ·replace hb18 := of_decide_eq_false hb18
   replace hb18 : ¬ i < 64 := by omega
   obtain rfl : i = 64 := by omega
   refine wcf hE rfl (wp_exit (qc (qc (qg (K7 (ww1 fun _ K11=>wpp (ql hE rfl (hM.get 0 rfl) row122 rfl (by intro X h;cases h) rfl fun a hE=>?_)))))))
   replace hM : Mem _ _ w7 [_,_] := hM.pick [1,0] rfl
   refine qr 0 hE rfl rfl hM rfl sz122 (by simp [padI_length,blockW_length]) (vc _) rfl (by simp) rfl (by intro X h;cases h) fun w8 hM=>?_
   simp only [List.set_cons_zero,List.set_cons_succ] at hM
   exact qa (K11 (wp_ret (qi hE rfl (res_cellN rfl (hM.get 0 rfl) row122 rfl) ⟨by rw [padI_all],hM.nil⟩)))
 ·replace hb10 := of_decide_eq_false hb10
  replace hb10 : ¬ 64 < key.length := by omega
  refine wcf hE rfl (wp_skip (K3 (ww1 fun _ K5=>wpp (s_sliceArr (l := 0) (h := 64) (mx' := 64) hE rfl arr122 rfl rfl rfl (by simp) (by omega) (by omega) (by omega) rfl fun a hE=>?_))))
  replace hE := hE.cast 14 rfl (show _ = Value.slice (some ⟨b5,0,none⟩) 64 64 from rfl)
  refine sm hE rfl fun a hE=>s_copyArr (l := 64) hE rfl rfl hM (hM.get 2 rfl) (vc _) sl42 (by intro X h;cases h) rfl fun a w3 hE hM=>?_
  rw [show (bv (key)).take (min key.length 64) ++ (bv (List.replicate 64 0)).drop (min key.length 64) = bv (padI (blockW key) x 0) from by rw [bv_take,bv_drop,← bv_append];unfold blockW;rw [if_neg hb10,Nat.min_eq_left (by omega)];simp only [padI,List.take_length,List.drop_replicate,List.take_zero,List.map_nil,List.nil_append,List.drop_zero]] at hM
  refine qa (K5 (ww1 fun _ K6=>ww1 fun _ K7=>wpp (sm hE rfl fun a hE=>qa (K7 (wp_block ?_)))))
  replace hM : Mem _ _ w3 [_,_] := hM.pick [0,1] rfl
  refine c_loop (fun (i : Nat) a w' => i ≤ 64 ∧ Env a 28 [(1,bV x),(4,.pointer (some ⟨b4,0,none⟩)),(5,.pointer (some ⟨b5,0,none⟩)),(17,.int .i64 (i : Int))] ∧ Mem w [] w' [blk b5 [bv (padI (blockW key) x i)] [64] 122,blk b4 [bv (List.replicate 64 0)] [64] 122]) (fun i => 64 - i) 0 ⟨Nat.zero_le _,hE.sel [1,4,5,17] rfl,hM⟩ ?_
  rintro i a w4 ⟨hi,hE,hM⟩
  refine ww1 fun _ K8=>wpp (sb hE rfl rfl bin_lss fun a hE=>qa (K8 (ww1 fun _ K9=>?_)))
  refine hE.split 18 rfl (fun hb18 hE=>?_) (fun hb18 hE=>?_)
  ·replace hb18 := of_decide_eq_true hb18
   replace hb18 : i < 64 := by omega
   refine wct hE rfl (wp_skip (K9 (ww1 fun _ K10=>wp_block (ww1 fun _ K11=>wpp (sm hE rfl fun a hE=>sas hE rfl fun a hE=>qa ?_)))))
   refine K11 (wpp (sm hE rfl fun a hE=>qp (j := i) hE rfl rfl arr122 (by first | rfl | omega) (by first | omega | decide) rfl fun a hE=>?_))
   refine qy (j := i) hE rfl (by omega) (hM.get 0 rfl) (bv_get (by simp only [vh,padI_length,blockW_length];exact hb18)) one5 (by intro X h;cases h) rfl fun a hE=>?_
   refine sm hE rfl fun a hE=>sb hE rfl rfl bin_xor8 fun a hE=>qp (j := i) hE rfl rfl arr122 (by first | rfl | omega) (by first | omega | decide) rfl fun a hE=>?_
   refine s_storeIdx (j := i) hE rfl (by omega) rfl hM rfl rfl sz5 (by simp only [vh,padI_length,blockW_length];exact hb18) (by intro X h;cases h) fun w5 hM=>?_
   first | rw [bv_set'] at hM | rw [bv_setI] at hM
   refine qa (qe (K10 (wpp (sb hE rfl rfl (bin_add (wrap_i64 (by omega) (by omega))) fun a hE=>?_))))
   refine sm hE rfl fun a hE=>qa ?_
   replace hE := hE.cast 17 rfl (show _ = Value.int .i64 ((i + 1 : Nat) : Int) from congrArg _ (by omega))
   rw [padI_get (by rw [blockW_length];exact hb18),padI_set (by rw [blockW_length];exact hb18)] at hM
   exact ⟨i + 1,⟨by omega,hE.sel [1,4,5,17] rfl,hM⟩,by omega⟩
  ·replace hb18 := of_decide_eq_false hb18
   replace hb18 : ¬ i < 64 := by omega
   obtain rfl : i = 64 := by omega
   refine wcf hE rfl (wp_exit (qc (qc (qg (K6 (ww1 fun _ K10=>wpp (ql hE rfl (hM.get 0 rfl) row122 rfl (by intro X h;cases h) rfl fun a hE=>?_)))))))
   replace hM : Mem _ _ w4 [_,_] := hM.pick [1,0] rfl
   refine qr 0 hE rfl rfl hM rfl sz122 (by simp [padI_length,blockW_length]) (vc _) rfl (by simp) rfl (by intro X h;cases h) fun w5 hM=>?_
   simp only [List.set_cons_zero,List.set_cons_succ] at hM
   exact qa (K10 (wp_ret (qi hE rfl (res_cellN rfl (hM.get 0 rfl) row122 rfl) ⟨by rw [padI_all],hM.nil⟩)))
theorem same_c (x y : List UInt8) (w : World) (hx : x.length = 32) (hy : y.length = 32) : Calls Tryd.prog 43 #[.agg (bv x).toArray,.agg (bv y).toArray] w fun e w' => e = .returned (.bool (decide (x = y))) ∧ Mem w [] w' [] := by
 have hM := Mem.start0 w
 refine ve 22 Tryd.func43 rfl rfl rfl ?_
 intro a hE
 replace hE : Env a 22 [(0,_),(1,_)] := hE
 refine ww1 fun _ K1=>wpp (s_box (ss := [bv x]) [32] hE hM rfl (by simp [Value.cells]) (by simp [hx,hy]) rfl fun a b2 w1 hE hM=>?_)
 refine s_box (ss := [bv y]) [32] hE hM rfl (by simp [Value.cells]) (by simp [hx,hy]) rfl fun a b3 w2 hE hM=>?_
 refine sas hE rfl fun a hE=>qa (K1 (ww1 fun _ K2=>wpp (sas hE rfl fun a hE=>qa (K2 (ww1 fun _ K3=>ww1 fun _ K4=>?_)))))
 refine wpp (sm hE rfl fun a hE=>qa (K4 (wp_block ?_)))
 replace hM : Mem _ _ w2 [_,_] := hM.pick [1,0] rfl
 refine c_loop (fun (i : Nat) a w' => i ≤ 32 ∧ Env a 22 [(2,.pointer (some ⟨b2,0,none⟩)),(3,.pointer (some ⟨b3,0,none⟩)),(5,bV (diffW x y i)),(7,.int .i64 (i : Int))] ∧ Mem w [] w' [blk b2 [bv x] [32] 27,blk b3 [bv y] [32] 27]) (fun i => 32 - i) 0 ⟨Nat.zero_le _,hE.sel [2,3,5,7] rfl,hM⟩ ?_
 rintro i a w3 ⟨hi,hE,hM⟩
 refine ww1 fun _ K5=>wpp (sb hE rfl rfl bin_lss fun a hE=>qa (K5 (ww1 fun _ K6=>?_)))
 refine hE.split 8 rfl (fun hb8 hE=>?_) (fun hb8 hE=>?_)
 ·replace hb8 := of_decide_eq_true hb8
  replace hb8 : i < 32 := by omega
  refine wct hE rfl (wp_skip (K6 (ww1 fun _ K7=>wp_block (ww1 fun _ K8=>wpp (sm hE rfl fun a hE=>sas hE rfl fun a hE=>qa ?_)))))
  refine K8 (wp_drawnM hM (by kernel_rfl) (fun _ => False) [(0,true),(1,true),(2,true),(3,true),(4,true),(5,true),(6,true),(7,true),(8,true),(9,true)] [] (by kernel_rfl) rfl ?_)
  intro w4 hM' hww4;replace hM := hM'
  refine sm hE rfl fun a hE=>sm hE rfl fun a hE=>qp (j := i) hE rfl rfl arr27 (by first | rfl | omega) (by first | omega | decide) rfl fun a hE=>?_
  refine qy (j := i) hE rfl (by omega) (hM.get 0 rfl) (bv_get (by omega)) one5 (by intro X h;cases h;simp) rfl fun a hE=>?_
  refine sm hE rfl fun a hE=>qp (j := i) hE rfl rfl arr27 (by first | rfl | omega) (by first | omega | decide) rfl fun a hE=>?_
  refine qy (j := i) hE rfl (by omega) (hM.get 1 rfl) (bv_get (by omega)) one5 (by intro X h;cases h;simp) rfl fun a hE=>?_
  refine sb hE rfl rfl bin_xor8 fun a hE=>sb hE rfl rfl bin_or8 fun a hE=>sas hE rfl fun a hE=>qa (qe (K7 (wpp (sb hE rfl rfl (bin_add (wrap_i64 (by omega) (by omega))) fun a hE=>?_))))
  refine sm hE rfl fun a hE=>qa ?_
  replace hE := hE.cast 7 rfl (show _ = Value.int .i64 ((i + 1 : Nat) : Int) from congrArg _ (by omega))
  exact ⟨i + 1,⟨by omega,hE.sel [2,3,5,7] rfl,hM⟩,by omega⟩
 ·replace hb8 := of_decide_eq_false hb8
  replace hb8 : ¬ i < 32 := by omega
  obtain rfl : i = 32 := by omega
  refine wcf hE rfl (wp_exit (qc (qc (qg (K3 (ww1 fun _ K7=>wpp (sm hE rfl fun a hE=>sb hE rfl rfl bin_eql fun a hE=>?_)))))))
  refine sas hE rfl fun a hE=>qa (K7 (wp_ret (qi hE rfl rfl ?_)))
  refine ⟨?_,hM.nil⟩
  refine congrArg _ (congrArg Value.bool (decide_eq_decide.2 ?_))
  rw [← getD_all_eq (by omega),hx,← diffW_zero 32,← UInt8.toNat_inj]
  simp
theorem parts_c (v u : Value) (key : List UInt8) (ps : List (List UInt8)) (us : List Value) (bb : List Nat) (c cu : Nat) (w : World) (hG : (glb 1).holds w) (hr : (rd v 1 key.length c (bv key)).holds w) (hu : (rd u 1 ps.length cu us).holds w) (hp : (rdv bb us ps).holds w) (hk : key.length ≤ 1099511627776) (hf : ps.flatten.length ≤ 549755813888) (hpl : ps.length ≤ 140737488355328) : Calls Tryd.prog 66 #[v,u] w fun e w' => e = .returned (.agg (bv (hmacW key ps.flatten)).toArray) ∧ Mem w [] w' [] := by
 have hM : Mem w [] w [rd v 1 key.length c (bv key),rd u 1 ps.length cu us,rdv bb us ps,glb 1] := Mem.startR w (fun g hg => by
  simp only [List.mem_cons,List.not_mem_nil,or_false] at hg
  rcases hg with rfl | rfl | rfl | rfl
  ·exact ⟨hr,rfl⟩
  ·exact ⟨hu,rfl⟩
  ·exact ⟨hp,rfl⟩
  ·exact ⟨hG,rfl⟩)
 have hul : us.length = ps.length := hp.2.1
 refine ve 32 Tryd.func66 rfl rfl rfl ?_
 intro a hE
 replace hE : Env a 32 [(0,_),(1,_)] := hE
 refine ww1 fun _ K1=>wpp (qo [32] hE hM zero27 rfl rfl fun a b4 w1 hE hM=>qa (K1 (ww1 fun _ K2=>wpp (sm hE rfl fun a hE=>qn hE rfl Tryd.call79 (pad_c v key c 54 _ (hM.get 4 rfl) (hM.get 1 rfl) hk) rfl ?_))))
 rintro e w2 ⟨rfl,hN⟩
 refine ⟨_,rfl,trivial,fun a hE=>?_⟩
 replace hM : Mem _ _ w2 [_,_,_,_,_] := hM.call0 hN trivial;clear hN
 refine sm hE rfl fun a hE=>qn hE rfl Tryd.call79 (pad_c v key c 92 _ (hM.get 4 rfl) (hM.get 1 rfl) hk) rfl ?_
 rintro e w3 ⟨rfl,hN⟩
 refine ⟨_,rfl,trivial,fun a hE=>?_⟩
 replace hM : Mem _ _ w3 [_,_,_,_,_] := hM.call0 hN trivial;clear hN
 refine qo [64] hE hM zero122 rfl rfl fun a b5 w4 hE hM=>qo [64] hE hM zero122 rfl rfl fun a b6 w5 hE hM=>?_
 replace hM : Mem _ _ w5 [_,_,_,_,_,_,_] := hM.pick [1,0,2,3,4,5,6] rfl
 refine qr 0 hE rfl rfl hM rfl sz122 (by simp) (vc _) rfl (by simp) rfl (by intro X h;cases h) fun w6 hM=>?_
 simp only [List.set_cons_zero,List.set_cons_succ] at hM
 replace hM : Mem _ _ w6 [_,_,_,_,_,_,_] := hM.pick [1,0,2,3,4,5,6] rfl
 refine qr 0 hE rfl rfl hM rfl sz122 (by simp) (vc _) rfl (by simp) rfl (by intro X h;cases h) fun w7 hM=>?_
 simp only [List.set_cons_zero,List.set_cons_succ] at hM
 refine qa (K2 (ww1 fun _ K3=>wpp (s_sliceArr (l := 0) (h := 64) (mx' := 64) hE rfl arr122 rfl rfl rfl (by simp) (by omega) (by omega) (by omega) rfl fun a hE=>?_)))
 replace hE := hE.cast 15 rfl (show _ = Value.slice (some ⟨b5,0,none⟩) 64 64 from rfl)
 replace hM : Mem _ _ w7 [_,_,_,_,_,_,_] := hM.pick [1,0,2,3,4,5,6] rfl
 replace hM := hM.blkOwn (k := 64) (es := 1) rfl (by decide)
 refine sas hE rfl fun a hE=>qa (K3 (ww1 fun _ K4=>ww1 fun _ K5=>wpp (sm hE rfl fun a hE=>s_len hE rfl Tryd.underlying117 (rd_slice (hM.get 4 rfl)) rfl fun a hE=>sm hE rfl fun a hE=>qa ?_)))
 refine K5 (wp_block ?_)
 replace hM : Mem _ _ w7 [_,_,_,_,_,_,_] := hM.pick [0,1,2,4,5,6,3] rfl
 replace hM : Mem _ _ w7 [_,_,_,_,_,_] := hM.pick [0,1,2,3,4,5] rfl
 refine c_loop (fun (i : Nat) a w' => i ≤ ps.length ∧ ∃ vo,Env a 32 [(4,.pointer (some ⟨b4,0,none⟩)),(6,.pointer (some ⟨b6,0,none⟩)),(7,vo),(16,u),(17,.int .i64 ps.length),(18,.int .i64 (i : Int))] ∧ Mem w [] w' [own vo 1 (padW key 54 ++ (ps.take i).flatten).length (bv (padW key 54 ++ (ps.take i).flatten)),blk b6 [bv (padW key 92)] [64] 122,blk b4 [bv (List.replicate 32 0)] [32] 27,rd u 1 ps.length cu us,rdv bb us ps,glb 1]) (fun i => ps.length - i) 0 ⟨Nat.zero_le _,_,hE.sel [4,6,7,16,17,18] rfl,by simpa using hM⟩ ?_
 rintro i a w8 ⟨hi,vo,hE,hM⟩
 refine ww1 fun _ K6=>wpp (sb hE rfl rfl bin_lss fun a hE=>qa (K6 (ww1 fun _ K7=>?_)))
 refine hE.split 19 rfl (fun hb19 hE=>?_) (fun hb19 hE=>?_)
 ·replace hb19 := of_decide_eq_true hb19
  replace hb19 : i < ps.length := by omega
  refine wct hE rfl (wp_skip (K7 (ww1 fun _ K8=>wp_block (ww1 fun _ K9=>wpp (qu (j := i) hE rfl (hM.get 3 rfl) rfl slt117 (by first | rfl | omega) (by first | omega | (simp;omega) | decide) rfl fun a p20 hE hc20 hp20=>?_)))))
  rw [elem1 (by omega)] at hc20
  refine qt hE rfl hc20 one42 (by intro X h;cases h) rfl fun a hE=>?_
  refine sas hE rfl fun a hE=>qa (K9 (wpp (sm hE rfl fun a hE=>sm hE rfl fun a hE=>?_)))
  obtain ⟨ca,hpi⟩ := rdv_get (hM.get 4 rfl) (i := i) hb19
  have hle := flat_le ps (i + 1)
  rw [flat_succ hb19,List.length_append] at hle
  refine qw hE rfl rfl hM sl42 (Src.rd Tryd.underlying42 hpi (vc _)) (len47 (by simp only [List.length_append,padW_length];omega)) (by simp only [List.length_append,padW_length];omega) (by intro X h;cases h) rfl ?_;clear hpi;intro a v24 w9 hE hM
  replace hM := hM.ownEq (m' := (padW key 54 ++ (ps.take (i + 1)).flatten).length) (cs' := bv (padW key 54 ++ (ps.take (i + 1)).flatten)) (by rw [flat_succ hb19];simp [Nat.add_assoc]) (by rw [flat_succ hb19,← bv_append,List.append_assoc])
  refine sas hE rfl fun a hE=>qa (qe (K8 (wpp (sb hE rfl rfl (bin_add (wrap_i64 (by omega) (by omega))) fun a hE=>?_))))
  refine sm hE rfl fun a hE=>qa ?_
  replace hE := hE.cast 18 rfl (show _ = Value.int .i64 ((i + 1 : Nat) : Int) from congrArg _ (by omega))
  exact ⟨i + 1,⟨by omega,_,hE.sel [4,6,7,16,17,18] rfl,hM⟩,by omega⟩
 ·replace hb19 := of_decide_eq_false hb19
  replace hb19 : ¬ i < ps.length := by omega
  obtain rfl : i = ps.length := by omega
  rw [List.take_length] at hM
  refine wcf hE rfl (wp_exit (qc (qc (qg (K4 (ww1 fun _ K8=>wpp (sm hE rfl fun a hE=>?_)))))))
  obtain ⟨cl,hl⟩ := own_rd (hM.get 0 rfl)
  refine qn hE rfl Tryd.call80 (sha_c _ (padW key 54 ++ ps.flatten) _ _ (hM.get 5 rfl) hl (by simp only [List.length_append,padW_length];omega)) rfl ?_
  rintro e w9 ⟨rfl,hN⟩
  refine ⟨_,rfl,trivial,fun a hE=>?_⟩
  replace hM : Mem _ _ w9 [_,_,_,_,_,_] := hM.call0 hN trivial;clear hN
  refine qo [32] hE hM zero27 rfl rfl fun a b10 w10 hE hM=>qr 0 hE rfl rfl hM rfl sz27 (by simp) (vc _) rfl (by simp) rfl (by intro X h;cases h) fun w11 hM=>?_
  simp only [List.set_cons_zero,List.set_cons_succ] at hM
  refine qa (K8 (ww1 fun _ K9=>wp_drawnM2 hM (by kernel_rfl) (fun _ => True) (fun _ => True) [(0,true),(1,true)] [(2,false),(3,false),(4,false)] [(2,[(3,2),(4,2)]),(3,[(4,3)]),(4,[]),(0,[(2,0),(3,2),(4,0)]),(1,[(2,1),(3,2),(4,1)])] (by kernel_rfl) (by kernel_rfl) rfl rfl ?_))
  intro w12 hM' hww12;replace hM := hM'
  refine s_sliceArr (l := 0) (h := 64) (mx' := 64) hE rfl arr122 rfl rfl rfl (by simp) (by omega) (by omega) (by omega) rfl fun a hE=>?_
  replace hE := hE.cast 28 rfl (show _ = Value.slice (some ⟨b6,0,none⟩) 64 64 from rfl)
  replace hM : Mem _ _ w12 [_,_,_,_,_,_,_] := hM.pick [2,0,1,3,4,5,6] rfl
  replace hM := hM.blkOwn (k := 64) (es := 1) rfl (by decide)
  refine s_sliceArr (l := 0) (h := 32) (mx' := 32) hE rfl arr27 rfl rfl rfl (by simp) (by omega) (by omega) (by omega) rfl fun a hE=>?_
  replace hE := hE.cast 29 rfl (show _ = Value.slice (some ⟨b10,0,none⟩) 32 32 from rfl)
  refine qw hE rfl rfl hM sl42 (Src.rd Tryd.underlying42 (rd_of_arr (hM.get 1 rfl) (by simp)) (vc _)) (len47 (by simp)) (by simp) (by intro X h;cases h;simp) rfl fun a v30 w13 hE hM=>?_
  replace hM := hM.ownEq (m' := (padW key 92 ++ shaW (padW key 54 ++ ps.flatten)).length) (cs' := bv (padW key 92 ++ shaW (padW key 54 ++ ps.flatten))) (by simp) (by rw [bv_append])
  obtain ⟨cl,hl⟩ := own_rd (hM.get 0 rfl)
  refine qn hE rfl Tryd.call80 (sha_c _ (padW key 92 ++ shaW (padW key 54 ++ ps.flatten)) _ _ (hM.get 6 rfl) hl (by simp)) rfl ?_
  rintro e w14 ⟨rfl,hN⟩
  refine ⟨_,rfl,hN.sta0 _,fun a hE=>?_⟩
  replace hM : Mem _ _ w14 [_,_,_,_,_,_,_] := hM.call0 hN trivial;clear hN
  replace hM : Mem _ _ w14 [_,_,_,_,_,_,_] := hM.pick [3,0,1,2,4,5,6] rfl
  refine qr 0 hE rfl rfl hM rfl sz27 (by simp) (vc _) rfl (by simp) rfl (by intro X h;cases h;first | (simp;done) | simp [valBlocks]) fun w15 hM=>?_
  simp only [List.set_cons_zero,List.set_cons_succ] at hM
  exact qa (K9 (wp_ret (qi hE rfl (res_cellN rfl (hM.get 0 rfl) row27 rfl) ⟨rfl,hM.nil⟩)))
theorem of_c (v u : Value) (key msg : List UInt8) (c cu : Nat) (w : World) (hG : (glb 1).holds w) (hr : (rd v 1 key.length c (bv key)).holds w) (hu : (rd u 1 msg.length cu (bv msg)).holds w) (hk : key.length ≤ 1099511627776) (hf : msg.length ≤ 549755813888) : Calls Tryd.prog 45 #[v,u] w fun e w' => e = .returned (.agg (bv (hmacW key msg)).toArray) ∧ Mem w [] w' [] := by
 have hM : Mem w [] w [rd v 1 key.length c (bv key),rd u 1 msg.length cu (bv msg),glb 1] := Mem.startR w (fun g hg => by
  simp only [List.mem_cons,List.not_mem_nil,or_false] at hg
  rcases hg with rfl | rfl | rfl
  ·exact ⟨hr,rfl⟩
  ·exact ⟨hu,rfl⟩
  ·exact ⟨hG,rfl⟩)
 refine ve 9 Tryd.func45 rfl rfl rfl ?_
 intro a hE
 replace hE : Env a 9 [(0,_),(1,_)] := hE
 refine ww1 fun _ K1=>wpp (qo [32] hE hM zero27 rfl rfl fun a b4 w1 hE hM=>qa (K1 (ww1 fun _ K2=>wpp (sm hE rfl fun a hE=>sm hE rfl fun a hE=>qv (xs := [.tmp 6]) ([u]) hE hM sl117 rfl rfl rfl (by intro v hv;rw [List.mem_singleton.1 hv];rw [(rd_one hu).1];rfl) (by simp [(rd_one hu).1]) rfl rfl rfl fun a v7 w2 hE hM=>?_))))
 obtain ⟨cl,hl⟩ := own_rd (hM.get 0 rfl)
 refine qn hE rfl Tryd.call66 ((by have h := parts_c v _ key [msg] _ _ c _ _ (hM.get 4 rfl) (hM.get 2 rfl) hl (rdv_cons (hM.get 3 rfl) (rdv_nil _)) hk (by simpa using hf) (by simp);rwa [List.flatten_singleton] at h)) rfl ?_
 rintro e w3 ⟨rfl,hN⟩
 refine ⟨_,rfl,trivial,fun a hE=>?_⟩
 replace hM : Mem _ _ w3 [_,_,_,_,_] := hM.call0 hN trivial;clear hN
 replace hM : Mem _ _ w3 [_,_,_,_,_] := hM.pick [1,0,2,3,4] rfl
 refine qr 0 hE rfl rfl hM rfl sz27 (by simp) (vc _) rfl (by simp) rfl (by intro X h;cases h) fun w4 hM=>?_
 simp only [List.set_cons_zero,List.set_cons_succ] at hM
 exact qa (K2 (wp_ret (qi hE rfl (res_cellN rfl (hM.get 0 rfl) row27 rfl) ⟨rfl,hM.nil⟩)))
end Go.Proofs.YtniekapfoaiieaaDoor
