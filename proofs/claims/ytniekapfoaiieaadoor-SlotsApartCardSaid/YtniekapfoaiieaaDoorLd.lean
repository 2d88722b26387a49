/- Walks of functions of the given program that the claim reaches. -/
import Derived.Test.YtniekapfoaiieaaDoorLp
import Derived.Test.YtniekapfoaiieaaDoorSh
set_option linter.unusedSimpArgs false
set_option linter.unusedVariables false
namespace Go.Proofs.YtniekapfoaiieaaDoor
open Go Go.Kx
theorem zero23 : Zero Tryd.prog 23 [bv (List.replicate 32 0)] := ⟨.agg ([bv (List.replicate 32 0)] : List (List Value)).flatten.toArray,by kernel_rfl,by kernel_rfl⟩
theorem arr23 : arrT Tryd.prog 23 = some (32,1) := by kernel_rfl
theorem sz23 : (Tryd.prog.info? 23).map (·.size) = some 32 := by kernel_rfl
theorem row23 : RowT Tryd.prog 23 32 := RowT.of Tryd.underlying23 rfl (by kernel_rfl)
theorem blay_c (v : Value) (bs : List UInt8) (k m : Nat) (w : World) (hv : (own v 1 bs.length (bv bs)).holds w) (hk : k ≤ 8) (hlen : bs.length + k ≤ 140737488355328) : Calls Tryd.prog 78 #[v,.int .i64 k,.int .u64 m] w fun e w' => ∃ v',e = .returned v' ∧ Mem w (valBlocks v) w' [own v' 1 (bs.length + k) (bv (bs ++ laid k m))] := by
 have hM := Mem.start1 hv
 refine ve 25 Tryd.func78 rfl rfl rfl ?_
 intro a hE
 replace hE : Env a 25 [(0,_),(1,_),(2,_)] := hE
 refine ww1 fun _ K1=>wpp (sas hE rfl fun a hE=>qa (K1 (ww1 fun _ K2=>ww1 fun _ K3=>wpp (sm hE rfl fun a hE=>sm hE rfl fun a hE=>?_))))
 refine qa (K3 (wp_block (c_loop (fun (i : Nat) a w' => i ≤ k ∧ ∃ v',Env a 25 [(0,v'),(1,.int .i64 k),(2,.int .u64 m),(8,.int .i64 k),(9,.int .i64 i)] ∧ Mem w (valBlocks v) w' [own v' 1 (bs.length + i) (bv (bs ++ (laid k m).take i))]) (fun i => k - i) 0 ⟨Nat.zero_le _,_,hE.sel [0,1,2,8,9] rfl,by simpa using hM⟩ ?_)))
 rintro i a w2 ⟨hi,v2,hE,hM⟩
 refine ww1 fun _ K4=>wpp (sb hE rfl rfl bin_lss fun a hE=>qa (K4 (ww1 fun _ K5=>?_)))
 refine hE.split 10 rfl (fun hb10 hE=>?_) (fun hb10 hE=>?_)
 ·replace hb10 := of_decide_eq_true hb10
  refine wct hE rfl (wp_skip (K5 (ww1 fun _ K6=>wp_block (ww1 fun _ K7=>wpp (sm hE rfl fun a hE=>sas hE rfl fun a hE=>qa ?_)))))
  refine K7 (wpp (sm hE rfl fun a hE=>sm hE rfl fun a hE=>sm hE rfl fun a hE=>sb hE rfl rfl (bin_sub (wrap_i64 (by omega) (by omega))) fun a hE=>?_))
  refine sm hE rfl fun a hE=>sb hE rfl rfl (bin_sub (wrap_i64 (by omega) (by omega))) fun a hE=>?_
  refine sb hE rfl rfl (bin_mul (q := ((8 * (k - 1 - i) : Nat) : Int)) (by rw [wrap_i64 (by omega) (by omega)];omega)) fun a hE=>?_
  refine sb hE rfl rfl (bin_shr_nat rfl (by show _ ≤ 64;omega)) fun a hE=>?_
  refine qx hE rfl (cnv_int Tryd.underlying24 Tryd.underlying5 (wrap_u8_ofNat _)) rfl fun a hE=>qv (xs := [.tmp 20]) (bv [UInt8.ofNat (m / 2 ^ (8 * (k - 1 - i)))]) hE hM sl42 rfl rfl rfl (by intro v hv;simp at hv;subst hv;rfl) rfl rfl rfl rfl fun a v21 w1 hE hM=>?_
  replace hM : Mem _ _ w1 [_,_] := hM.pick [1,0] rfl
  obtain ⟨cy,hy⟩ := own_rd (hM.get 1 rfl)
  refine qw hE rfl rfl hM sl42 (Src.rd Tryd.underlying42 hy (vc _)) (len47 (by omega)) (by omega) (by intro X h;cases h) rfl ?_;clear hy;intro a v22 w2 hE hM
  replace hM : Mem _ _ w2 [_] := hM.pick [0] rfl
  refine sas hE rfl fun a hE=>qa (qe (K6 (wpp (sb hE rfl rfl (bin_add (wrap_i64 (by omega) (by omega))) fun a hE=>?_))))
  refine sm hE rfl fun a hE=>qa ?_
  replace hE := hE.cast 9 rfl (show _ = Value.int .i64 ((i + 1 : Nat) : Int) from congrArg _ (by omega))
  refine ⟨i + 1,⟨by omega,_,hE.sel [0,1,2,8,9] rfl,?_⟩,by omega⟩
  rw [laid_take_succ (by omega),← List.append_assoc,bv_append];exact hM
 ·replace hb10 := of_decide_eq_false hb10
  obtain rfl : i = k := by omega
  refine wcf hE rfl (wp_exit (qc (qc (qg (K2 (ww1 fun _ K6=>wpp (sm hE rfl fun a hE=>sas hE rfl fun a hE=>?_)))))))
  refine qa (K6 (wp_ret (qi hE rfl rfl (⟨_,rfl,?_⟩))))
  rw [List.take_of_length_le (by simp)] at hM;exact hM
theorem brow_c (dm : UInt8) (bb : List Nat) (ps : List (List UInt8)) (v : Value) (vs : List Value) (c : Nat) (w : World) (hv : (rd v 1 ps.length c vs).holds w) (hp : (rdv bb vs ps).holds w) (hlen : rowBytes ps ≤ 140737488355328) : Calls Tryd.prog 64 #[.int .u8 dm.toNat,v] w fun e w' => ∃ v',e = .returned (.tuple #[v',.int .i64 (((pRow dm ps).2 : Nat) : Int)]) ∧ Mem w [] w' [own v' 1 (pRow dm ps).1.length (bv (pRow dm ps).1)] := by
 have hM := Mem.startR2 hv hp rfl rfl
 have hvl : vs.length = ps.length := by have := hv.1;omega
 refine ve 32 Tryd.func64 rfl rfl rfl ?_
 intro a hE
 replace hE : Env a 32 [(0,_),(1,_)] := hE
 refine ww1 fun _ K1=>wpp (sas hE rfl fun a hE=>sas hE rfl fun a hE=>qa (K1 (ww1 fun _ K2=>ww1 fun _ K3=>wpp (sm hE rfl fun a hE=>?_))))
 refine s_len hE rfl Tryd.underlying117 (rd_slice (hM.get 0 rfl)) rfl fun a hE=>sb hE rfl rfl bin_gtr fun a hE=>qa (K3 ?_)
 refine hE.split 11 rfl (fun hb11 hE=>?_) (fun hb11 hE=>?_)
 ·replace hb11 := of_decide_eq_true hb11
  refine wct hE rfl (ww1 fun _ K4=>wpp (sas hE rfl fun a hE=>sas hE rfl fun a hE=>qa (K4 (wp_ret (qb (qj hE rfl rfl rfl ?_))))))
  have hq : pRow dm ps = ([],3) := by unfold pRow;rw [if_pos (by omega)]
  rw [hq];exact ⟨_,rfl,hM.nil.addNil 1⟩
 ·replace hb11 := of_decide_eq_false hb11
  refine wcf hE rfl (wp_skip (K2 (ww1 fun _ K4=>wpp (sm hE rfl fun a hE=>sm hE rfl fun a hE=>s_len hE rfl Tryd.underlying117 (rd_slice (hM.get 0 rfl)) rfl fun a hE=>qx hE rfl (cnv_int Tryd.underlying3 Tryd.underlying5 (wrap_u8_ofNat _)) rfl fun a hE=>qv (xs := [.tmp 12,.tmp 15]) (bv [dm,UInt8.ofNat ps.length]) hE hM sl42 rfl rfl rfl (by intro v hv;simp at hv;rcases hv with rfl | rfl <;> rfl) rfl rfl rfl rfl fun a v16 w1 hE hM=>?_))))
  refine sas hE rfl fun a hE=>qa (K4 (ww1 fun _ K5=>ww1 fun _ K6=>wpp (sm hE rfl fun a hE=>s_len hE rfl Tryd.underlying117 (rd_slice (hM.get 1 rfl)) rfl fun a hE=>sm hE rfl fun a hE=>qa ?_)))
  refine K6 (wp_block (c_loop (fun (i : Nat) a w' => i ≤ ps.length ∧ ∃ vo,Env a 32 [(1,v),(6,vo),(17,v),(18,.int .i64 ps.length),(19,.int .i64 i)] ∧ Mem w [] w' [own vo 1 (rowBs dm ps i).length (bv (rowBs dm ps i)),rd v 1 ps.length c vs,rdv bb vs ps]) (fun i => ps.length - i) 0 ⟨Nat.zero_le _,_,hE.sel [1,6,17,18,19] rfl,hM⟩ ?_))
  rintro i a w9 ⟨hi,vo,hE,hM⟩
  refine ww1 fun _ K7=>wpp (sb hE rfl rfl bin_lss fun a hE=>qa (K7 (ww1 fun _ K8=>?_)))
  refine hE.split 20 rfl (fun hb20 hE=>?_) (fun hb20 hE=>?_)
  ·replace hb20 := of_decide_eq_true hb20
   have hle := rowBs_le dm ps (i + 1)
   rw [rowBs_succ (by omega)] at hle
   simp only [List.length_append,laid_length] at hle
   refine wct hE rfl (wp_skip (K8 (ww1 fun _ K9=>wp_block (ww1 fun _ K10=>wpp (qu (j := i) hE rfl (hM.get 1 rfl) rfl slt117 (by first | rfl | omega) (by first | omega | (simp;omega) | decide) rfl fun a p21 hE hc21 hp21=>?_)))))
   rw [elem1 (by omega)] at hc21
   refine qt hE rfl hc21 one42 (by intro X h;cases h) rfl fun a hE=>?_
   refine sas hE rfl fun a hE=>qa (K10 (wpp (sm hE rfl fun a hE=>sm hE rfl fun a hE=>s_len hE rfl Tryd.underlying42 (rd_slice (Exists.choose_spec (rdv_get (hM.get 2 rfl) (i := i) (by omega)))) rfl fun a hE=>?_)))
   refine qx hE rfl (cnv_int Tryd.underlying3 Tryd.underlying24 (wrap_u64 (by omega) (by omega))) rfl fun a hE=>?_
   obtain ⟨cl,hpi⟩ := rdv_get (hM.get 2 rfl) (i := i) (by omega)
   refine qn hE rfl Tryd.call78 (blay_c vo (rowBs dm ps i) 4 (ps.getD i []).length _ (hM.get 0 rfl) (by omega) (by omega)) rfl ?_
   rintro e w10 ⟨vl,rfl,hN⟩
   refine ⟨_,rfl,trivial,fun a hE=>?_⟩
   replace hM : Mem _ _ w10 [_,_,_] := hM.call1' hN ⟨rfl,trivial⟩;clear hN
   refine sm hE rfl fun a hE=>?_
   obtain ⟨ca,hpi2⟩ := rdv_get (hM.get 2 rfl) (i := i) (by omega)
   refine qw hE rfl rfl hM sl42 (Src.rd Tryd.underlying42 hpi2 (vc _)) (len47 (by omega)) (by omega) (by intro X h;cases h) rfl ?_;clear hpi2;intro a v29 w11 hE hM
   refine sas hE rfl fun a hE=>qa (qe (K9 (wpp (sb hE rfl rfl (bin_add (wrap_i64 (by omega) (by omega))) fun a hE=>?_))))
   refine sm hE rfl fun a hE=>qa ?_
   replace hE := hE.cast 19 rfl (show _ = Value.int .i64 ((i + 1 : Nat) : Int) from congrArg _ (by omega))
   refine ⟨i + 1,⟨by omega,_,hE.sel [1,6,17,18,19] rfl,?_⟩,by omega⟩
   rw [rowBs_succ (by omega)];simpa [Nat.add_assoc] using hM
  ·replace hb20 := of_decide_eq_false hb20
   obtain rfl : i = ps.length := by omega
   refine wcf hE rfl (wp_exit (qc (qc (qg (K5 (ww1 fun _ K9=>wpp (sm hE rfl fun a hE=>sas hE rfl fun a hE=>?_)))))))
   refine sas hE rfl fun a hE=>qa (K9 (wp_ret (qj hE rfl rfl rfl ?_)))
   have hq : pRow dm ps = (rowBs dm ps ps.length,0) := by unfold pRow;rw [if_neg (by omega)]
   rw [hq];exact ⟨_,rfl,hM.pick [0] rfl⟩
theorem under_c (key : List UInt8) (w : World) (hk : key.length = 32) : Calls Tryd.prog 44 #[.agg (bv key).toArray] w fun e w' => ∃ bk,e = .returned (.func (.func 65) #[] #[.pointer (some ⟨bk,0,none⟩)]) ∧ Mem w [] w' [blk bk [bv key] [32] 23] := by
 have hM := Mem.start0 w
 refine ve 4 Tryd.func44 rfl rfl rfl ?_
 intro a hE
 replace hE : Env a 4 [(0,_)] := hE
 refine ww1 fun _ K1=>wpp (s_box (ss := [bv key]) [32] hE hM rfl (by simp [Value.cells]) (by simp [hk]) rfl fun a b1 w1 hE hM=>?_)
 refine sas hE rfl fun a hE=>qa (K1 (ww1 fun _ K2=>wpp (s_makeFn hE rfl rfl fun a hE=>sas hE rfl fun a hE=>qa (K2 (wp_ret ?_)))))
 exact qi hE rfl rfl ⟨_,rfl,hM⟩
theorem dsub_c (bk : Nat) (key : List UInt8) (s : ByteArray) (w : World) (hG : (glb 1).holds w) (hB : (blk bk [bv key] [32] 23).holds w) (hk : key.length = 32) (hs : s.size ≤ 1000000) : Calls Tryd.prog 65 #[.string s,.pointer (some ⟨bk,0,none⟩)] w fun e w' => e = .returned (.agg (bv (subW key s.data.toList)).toArray) ∧ Mem w [] w' [] := by
 have hM := Mem.startR2 (e := blkR bk [bv key] [32] 23) hB hG rfl rfl
 have hsz : s.data.toList.length = s.size := rfl
 refine ve 16 Tryd.func65 rfl rfl rfl ?_
 intro a hE
 replace hE : Env a 16 [(0,_),(1,_)] := hE
 refine ww1 fun _ K1=>wpp (qo [32] hE hM zero23 rfl rfl fun a b3 w1 hE hM=>qa (K1 (ww1 fun _ K2=>wp_plain [true,false,false,false,true,true,true,true,true] rfl rfl (sm hE rfl fun a hE=>s_ofStr hE rfl hM Tryd.underlying9 Tryd.underlying42 Tryd.underlying5 (len47 (by omega)) rfl fun a v8 w2 hE hM=>?_))))
 have h8 := own_one (hM.get 0 rfl)
 refine qv (xs := [.tmp 8]) ([v8]) hE hM sl117 rfl rfl rfl (by intro v hv;rw [List.mem_singleton.1 hv,h8.1];rfl) (by simp [h8.1]) rfl rfl rfl fun a v9 w3 hE hM=>?_
 obtain ⟨cl,hl⟩ := own_rd (hM.get 0 rfl)
 obtain ⟨cb,hb8⟩ := own_rd (hM.get 1 rfl)
 refine qn hE rfl Tryd.call64 ((by have h := brow_c 68 _ [s.data.toList] _ _ _ _ hl (rdv_cons (p := s.data.toList) hb8 (rdv_nil _)) (by simp [rowBytes,hsz];omega);rw [rowL_ok] at h;exact h)) rfl ?_
 rintro e w4 ⟨vr,rfl,hN⟩
 refine ⟨_,rfl,trivial,fun a hE=>?_⟩
 replace hM : Mem _ _ w4 [_,_,_,_,_,_] := hM.call0 hN ⟨rfl,trivial⟩;clear hN
 refine sm hE rfl fun a hE=>sx hE rfl fun a hE=>sx hE rfl fun a hE=>sas hE rfl fun a hE=>sas hE rfl fun a hE=>qa (K2 (ww1 fun _ K3=>wpp (s_sliceArr (l := 0) (h := 32) (mx' := 32) hE rfl arr23 rfl rfl rfl (by simp) (by omega) (by omega) (by omega) rfl fun a hE=>?_)))
 replace hE := hE.cast 13 rfl (show _ = Value.slice (some ⟨bk,0,none⟩) 32 32 from rfl)
 refine sm hE rfl fun a hE=>?_
 obtain ⟨cr,hr⟩ := own_rd (hM.get 0 rfl)
 refine qn hE rfl Tryd.call45 (of_c _ _ key (rowL s.data.toList) _ _ _ (hM.get 5 rfl) (rd_of_arr (blkR_blk (hM.get 4 rfl)) hk) hr (by omega) (by rw [rowL_eq];simp [hsz];omega)) rfl ?_
 rintro e w5 ⟨rfl,hN⟩
 refine ⟨_,rfl,trivial,fun a hE=>?_⟩
 replace hM : Mem _ _ w5 [_,_,_,_,_,_] := hM.call0 hN trivial;clear hN
 replace hM : Mem _ _ w5 [_,_,_,_,_,_] := hM.pick [3,0,1,2,4,5] rfl
 refine qr 0 hE rfl rfl hM rfl sz23 (by simp) (vc _) rfl (by simp) rfl (by intro X h;cases h) fun w6 hM=>?_
 simp only [List.set_cons_zero,List.set_cons_succ] at hM
 exact qa (K3 (wp_ret (qi hE rfl (res_cellN rfl (hM.get 0 rfl) row23 rfl) ⟨rfl,hM.nil⟩)))
theorem sub_c (key : List UInt8) (s : ByteArray) (w : World) (hG : (glb 1).holds w) (hk : key.length = 32) (hs : s.size ≤ 1000000) : Calls Tryd.prog 18 #[.agg (bv key).toArray,.string s] w fun e w' => e = .returned (.agg (bv (subW key s.data.toList)).toArray) ∧ Mem w [] w' [] := by
 have hM := Mem.startR1 hG rfl
 refine ve 9 Tryd.func18 rfl rfl rfl ?_
 intro a hE
 replace hE : Env a 9 [(0,_),(1,_)] := hE
 refine ww1 fun _ K1=>wpp (s_box (ss := [bv key]) [32] hE hM rfl (by simp [Value.cells]) (by simp [hk]) rfl fun a b2 w1 hE hM=>?_)
 refine qo [32] hE hM zero23 rfl rfl fun a b4 w2 hE hM=>qa (K1 (ww1 fun _ K2=>wpp (ql hE rfl (hM.get 1 rfl) row23 rfl (by intro X h;cases h) rfl fun a hE=>?_)))
 refine qn hE rfl Tryd.call44 (under_c key _ hk) rfl ?_
 rintro e w3 ⟨bk,rfl,hN⟩
 refine ⟨_,rfl,trivial,fun a hE=>?_⟩
 replace hM : Mem _ _ w3 [_,_,_,_] := hM.call0 hN ⟨rfl,trivial⟩;clear hN
 refine sm hE rfl fun a hE=>s_calldynL hE rfl rfl Tryd.call65 (dsub_c bk key s _ (hM.get 3 rfl) (hM.get 0 rfl) hk hs) rfl ?_
 rintro e w4 ⟨rfl,hN⟩
 refine ⟨_,rfl,trivial,fun a hE=>?_⟩
 replace hM : Mem _ _ w4 [_,_,_,_] := hM.call0 hN trivial;clear hN
 replace hM : Mem _ _ w4 [_,_,_,_] := hM.pick [1,0,2,3] rfl
 refine qr 0 hE rfl rfl hM rfl sz23 (by simp) (vc _) rfl (by simp) rfl (by intro X h;cases h) fun w5 hM=>?_
 simp only [List.set_cons_zero,List.set_cons_succ] at hM
 exact qa (K2 (wp_ret (qi hE rfl (res_cellN rfl (hM.get 0 rfl) row23 rfl) ⟨rfl,hM.nil⟩)))
end Go.Proofs.YtniekapfoaiieaaDoor
