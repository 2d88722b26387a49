/- Walks of functions of the given program that the claim reaches. -/
import Derived.Test.YtniekapfoaiieaaGreatDoorLf
set_option linter.unusedSimpArgs false
set_option linter.unusedVariables false
namespace Go.Proofs.YtniekapfoaiieaaGreatDoor
open Go Go.Kx

theorem rblk_c (v u : Value) (pass salt : List UInt8) (c cu r q : Nat) (w : World) (hr : (rd v 1 pass.length c (bv pass)).holds w) (hu : (rd u 1 salt.length cu (bv salt)).holds w) (hk : pass.length ≤ 100000) (hf : salt.length ≤ 100000) (h1 : 1 ≤ r) (hrr : r ≤ 4096) (hq : q ≤ 4) : Calls Tryz.prog 51 #[v,u,.int .i64 (r : Int),.int .i64 (q : Int)] w fun e w' => ∃ v',e = .returned v' ∧ Mem w [] w' [own v' 1 (oW pass salt (UInt8.ofNat q) r).length (bv (oW pass salt (UInt8.ofNat q) r))] := by
 have hM := Mem.startR2 hr hu rfl rfl
 refine vf 63 Tryz.func51 rfl rfl rfl ?_
 intro a hE
 replace hE : Env a 63 [(0,_),(1,_),(2,_),(3,_)] := hE
 refine ww1 fun _ K1=>wpp (sas hE rfl fun a hE=>qa (K1 (ww1 fun _ K2=>wpp (sas hE rfl fun a hE=>qa (K2 ?_)))))
 refine ww1 fun _ K3=>wpp (sm hE rfl fun a hE=>sm hE rfl fun a hE=>?_)
 replace hM := hM.addNil 1
 replace hM := hM.ownEq (m' := ([] : List UInt8).length) (cs' := bv []) rfl rfl
 refine qw hE rfl rfl hM sl66 (Src.rd Tryz.underlying66 (hM.get 2 rfl) (ve _)) (len47 (by have hl_x : ([] : List UInt8).length = 0 := (by first | (simp;done) | (simp [*];done) | (simp;omega));first | omega | (simp;done) | (simp;omega))) (by have hl_x : ([] : List UInt8).length = 0 := (by first | (simp;done) | (simp [*];done) | (simp;omega));first | omega | (simp;done) | (simp;omega)) (by intro X h;cases h) rfl ?_;intro a v17 w1 hE hM
 replace hM := Mem.ownNil (q := salt) hM rfl (by first | rfl | (simp;done))
 refine sas hE rfl fun a hE=>qa (K3 (ww1 fun _ K4=>wpp (sm hE rfl fun a hE=>sm hE rfl fun a hE=>sb hE rfl rfl (bin_quo_nat (m := q) (s := 16777216) (by decide) (wrap_i64 (by omega) (by omega))) fun a hE=>?_)))
 refine qx hE rfl (cnv_int Tryz.underlying3 Tryz.underlying5 (wrap_u8_ofNat (q / 16777216))) rfl fun a hE=>sm hE rfl fun a hE=>sb hE rfl rfl (bin_quo_nat (m := q) (s := 65536) (by decide) (wrap_i64 (by omega) (by omega))) fun a hE=>?_
 refine qx hE rfl (cnv_int Tryz.underlying3 Tryz.underlying5 (wrap_u8_ofNat (q / 65536))) rfl fun a hE=>sm hE rfl fun a hE=>sb hE rfl rfl (bin_quo_nat (m := q) (s := 256) (by decide) (wrap_i64 (by omega) (by omega))) fun a hE=>?_
 refine qx hE rfl (cnv_int Tryz.underlying3 Tryz.underlying5 (wrap_u8_ofNat (q / 256))) rfl fun a hE=>sm hE rfl fun a hE=>qx hE rfl (cnv_int Tryz.underlying3 Tryz.underlying5 (wrap_u8_ofNat (q))) rfl fun a hE=>?_
 refine qv (xs := [.tmp 21,.tmp 24,.tmp 27,.tmp 29]) (bv [UInt8.ofNat (q / 16777216),UInt8.ofNat (q / 65536),UInt8.ofNat (q / 256),UInt8.ofNat q]) hE hM sl66 rfl rfl rfl (by intro v hv;first | (cases hv;done) | (obtain ⟨x,_,rfl⟩ := List.mem_map.1 (show v ∈ bv [UInt8.ofNat (q / 16777216),UInt8.ofNat (q / 65536),UInt8.ofNat (q / 256),UInt8.ofNat q] from hv);rfl)) rfl rfl rfl rfl ?_;intro a v30 w2 hE hM
 replace hM := hM.ownEq (m' := [UInt8.ofNat (q / 16777216),UInt8.ofNat (q / 65536),UInt8.ofNat (q / 256),UInt8.ofNat q].length) (cs' := bv [UInt8.ofNat (q / 16777216),UInt8.ofNat (q / 65536),UInt8.ofNat (q / 256),UInt8.ofNat q]) rfl rfl
 replace hM : Mem _ _ w2 [_,_,_,_] := hM.pick [1,0,2,3] rfl
 obtain ⟨cq1,hq1⟩ := own_rd (hM.get 1 rfl)
 refine qw hE rfl rfl hM sl66 (Src.rd Tryz.underlying66 hq1 (ve _)) (len47 (by have hl_y : [UInt8.ofNat (q / 16777216),UInt8.ofNat (q / 65536),UInt8.ofNat (q / 256),UInt8.ofNat q].length = 4 := (by first | (simp;done) | (simp [*];done) | (simp;omega));first | omega | (simp;done) | (simp;omega))) (by have hl_y : [UInt8.ofNat (q / 16777216),UInt8.ofNat (q / 65536),UInt8.ofNat (q / 256),UInt8.ofNat q].length = 4 := (by first | (simp;done) | (simp [*];done) | (simp;omega));first | omega | (simp;done) | (simp;omega)) (by intro X h;cases h) rfl ?_;intro a v31 w3 hE hM
 replace hM := Mem.ownApp (p := salt) (q := [UInt8.ofNat (q / 16777216),UInt8.ofNat (q / 65536),UInt8.ofNat (q / 256),UInt8.ofNat q]) hM (by first | rfl | (simp;done))
 replace hM : Mem _ _ w3 [_,_,_] := hM.pick [0,2,3] rfl
 refine sas hE rfl fun a hE=>qa (K4 (ww1 fun _ K5=>wpp (sm hE rfl fun a hE=>sm hE rfl fun a hE=>?_)))
 obtain ⟨cq2,hq2⟩ := own_rd (hM.get 0 rfl)
 refine qn hE rfl Tryz.call32 (rof_c _ _ pass (salt ++ [UInt8.ofNat (q / 16777216),UInt8.ofNat (q / 65536),UInt8.ofNat (q / 256),UInt8.ofNat q]) _ _ _ (hM.get 1 rfl) hq2 (by first | omega | assumption | (simp;done) | (simp;omega) | decide) (by have hl_q : (salt ++ [UInt8.ofNat (q / 16777216),UInt8.ofNat (q / 65536),UInt8.ofNat (q / 256),UInt8.ofNat q]).length = salt.length + 4 := (by first | (simp;done) | (simp [*];done) | (simp;omega));first | omega | assumption | (simp;done) | (simp;omega) | decide)) rfl ?_
 rintro e w4 ⟨rfl,hN⟩
 refine ⟨_,rfl,trivial,fun a hE=>?_⟩
 replace hM : Mem _ _ w4 [_,_,_] := hM.call0 hN trivial;clear hN
 refine qo [32] hE hM zero27 rfl rfl fun a b10 w5 hE hM=>qr 0 hE rfl rfl hM rfl sz27 (by simp) (ve _) rfl (by simp) rfl (by intro X h;cases h) fun w6 hM=>?_
 simp only [List.set_cons_zero,List.set_cons_succ] at hM
 replace hM := Mem.blkB (p := hmacW pass (salt ++ [UInt8.ofNat (q / 16777216),UInt8.ofNat (q / 65536),UInt8.ofNat (q / 256),UInt8.ofNat q])) (q := uW pass salt (UInt8.ofNat q) 0) hM (by rw [show UInt8.ofNat (q / 16777216) = 0 from by rw [show q / 16777216 = 0 by omega];rfl,show UInt8.ofNat (q / 65536) = 0 from by rw [show q / 65536 = 0 by omega];rfl,show UInt8.ofNat (q / 256) = 0 from by rw [show q / 256 = 0 by omega];rfl];exact uW_zero ..)
 refine qa (K5 (ww1 fun _ K6=>wpp (ql hE rfl (hM.get 0 rfl) row27 rfl (by intro X h;cases h) rfl fun a hE=>?_)))
 refine qn hE rfl Tryz.call65 (rbytes_c (uW pass salt (UInt8.ofNat q) 0) _ (by first | omega | assumption | (simp;done) | (simp;omega) | decide)) rfl ?_
 rintro e w7 ⟨v36,rfl,hN⟩
 refine ⟨_,rfl,trivial,fun a hE=>?_⟩
 replace hM : Mem _ _ w7 [_,_,_,_,_] := hM.call0 hN ⟨rfl,trivial⟩;clear hN
 refine sas hE rfl fun a hE=>qa (K6 (ww1 fun _ K7=>ww1 fun _ K8=>wpp (sas hE rfl fun a hE=>qa (K8 (wp_block ?_)))))
 replace hM : Mem _ _ w7 [_,_,_] := hM.pick [0,1,3] rfl
 replace hM := Mem.ownB (p := uW pass salt (UInt8.ofNat q) 0) (q := oW pass salt (UInt8.ofNat q) (0 + 1)) hM (by rw [show (0 + 1) = 1 from rfl,oW_one])
 replace hM : Mem _ _ w7 [_,_,_] := hM.pick [1,0,2] rfl
 replace hM : Mem _ _ w7 [_,_,_] := hM.pick [1,0,2] rfl
 replace hE := hE.cast 12 rfl (show _ = Value.int .i64 ((0 + 2 : Nat) : Int) from (by first | rfl | simp))
 refine c_loop (fun (i : Nat) a w' => i ≤ (r - 1) ∧ Env a 63 [(0,v),(2,.int .i64 ((r : Nat) : Int)),(8,.slice none 0 0),(9,v31),(10,.pointer (some ⟨b10,0,none⟩)),(11,v36),(12,.int .i64 ((i + 2 : Nat) : Int))] ∧ Mem w [] w' [own v36 1 (oW pass salt (UInt8.ofNat q) (i + 1)).length (bv (oW pass salt (UInt8.ofNat q) (i + 1))),blk b10 [bv (uW pass salt (UInt8.ofNat q) i)] [32] 27,rd v 1 pass.length c (bv pass)]) (fun i => (r - 1) - i) 0 ⟨Nat.zero_le _,hE.sel [0,2,8,9,10,11,12] rfl,hM⟩ ?_
 rintro i a w8 ⟨hi,hE,hM⟩
 refine ww1 fun _ K9=>ww1 fun _ K10=>wpp (sm hE rfl fun a hE=>sm hE rfl fun a hE=>sb hE rfl rfl bin_leq fun a hE=>qa (K10 ?_))
 refine hE.split 39 rfl (fun hb39 hE=>?_) (fun hb39 hE=>?_)
 ·replace hb39 := of_decide_eq_true hb39
  replace hb39 : (i + 2) ≤ r := by omega
  replace hb39 : i < (r - 1) := by omega
  refine wct hE rfl (wp_skip (K9 (ww1 fun _ K11=>wp_block (ww1 fun _ K12=>wpp (ql hE rfl (hM.get 1 rfl) row27 rfl (by intro X h;cases h) rfl fun a hE=>?_)))))
  refine qn hE rfl Tryz.call65 (rbytes_c (uW pass salt (UInt8.ofNat q) i) _ (by first | omega | assumption | (simp;done) | (simp;omega) | decide)) rfl ?_
  rintro e w9 ⟨v43,rfl,hN⟩
  refine ⟨_,rfl,trivial,fun a hE=>?_⟩
  replace hM : Mem _ _ w9 [_,_,_,_] := hM.call0 hN ⟨rfl,trivial⟩;clear hN
  refine sas hE rfl fun a hE=>qa (K12 (ww1 fun _ K13=>wpp (sm hE rfl fun a hE=>sm hE rfl fun a hE=>?_)))
  obtain ⟨cq3,hq3⟩ := own_rd (hM.get 0 rfl)
  refine qn hE rfl Tryz.call32 (rof_c _ _ pass (uW pass salt (UInt8.ofNat q) i) _ _ _ (hM.get 3 rfl) hq3 (by first | omega | assumption | (simp;done) | (simp;omega) | decide) (by have hl_q : (uW pass salt (UInt8.ofNat q) i).length = 32 := (by first | (simp;done) | (simp [*];done) | (simp;omega));first | omega | assumption | (simp;done) | (simp;omega) | decide)) rfl ?_
  rintro e w10 ⟨rfl,hN⟩
  refine ⟨_,rfl,trivial,fun a hE=>?_⟩
  replace hM : Mem _ _ w10 [_,_,_,_] := hM.call0 hN trivial;clear hN
  replace hM : Mem _ _ w10 [_,_,_,_] := hM.pick [2,0,1,3] rfl
  refine qr 0 hE rfl rfl hM rfl sz27 (by simp) (ve _) rfl (by simp) rfl (by intro X h;cases h) fun w11 hM=>?_
  simp only [List.set_cons_zero,List.set_cons_succ] at hM
  replace hM := Mem.blkB (p := hmacW pass (uW pass salt (UInt8.ofNat q) i)) (q := uW pass salt (UInt8.ofNat q) (i + 1)) hM rfl
  refine qa (K13 (ww1 fun _ K14=>wpp (sas hE rfl fun a hE=>qa (K14 (wp_block ?_)))))
  replace hM : Mem _ _ w11 [_,_,_,_] := hM.pick [2,0,1,3] rfl
  replace hM := Mem.ownB (p := oW pass salt (UInt8.ofNat q) (i + 1)) (q := xorI (oW pass salt (UInt8.ofNat q) (i + 1)) (uW pass salt (UInt8.ofNat q) (i + 1)) 0) hM (by rw [xorI_zero])
  replace hM : Mem _ _ w11 [_,_,_,_] := hM.pick [1,2,0,3] rfl
  refine c_loop (fun (k : Nat) a w' => k ≤ 32 ∧ Env a 63 [(0,v),(2,.int .i64 ((r : Nat) : Int)),(8,.slice none 0 0),(9,v31),(10,.pointer (some ⟨b10,0,none⟩)),(11,v36),(12,.int .i64 ((i + 2 : Nat) : Int)),(13,v43),(14,.int .i64 ((k : Nat) : Int)),(39,.bool true)] ∧ Mem w [] w' [blk b10 [bv (uW pass salt (UInt8.ofNat q) (i + 1))] [32] 27,own v43 1 (uW pass salt (UInt8.ofNat q) i).length (bv (uW pass salt (UInt8.ofNat q) i)),own v36 1 (xorI (oW pass salt (UInt8.ofNat q) (i + 1)) (uW pass salt (UInt8.ofNat q) (i + 1)) k).length (bv (xorI (oW pass salt (UInt8.ofNat q) (i + 1)) (uW pass salt (UInt8.ofNat q) (i + 1)) k)),rd v 1 pass.length c (bv pass)]) (fun k => 32 - k) 0 ⟨Nat.zero_le _,hE.sel [0,2,8,9,10,11,12,13,14,39] rfl,hM⟩ ?_
  rintro k a w12 ⟨hk,hE,hM⟩
  refine ww1 fun _ K15=>ww1 fun _ K16=>wpp (sm hE rfl fun a hE=>sb hE rfl rfl bin_lss fun a hE=>qa (K16 ?_))
  refine hE.split 48 rfl (fun hb48 hE=>?_) (fun hb48 hE=>?_)
  ·replace hb48 := of_decide_eq_true hb48
   replace hb48 : k < 32 := by omega
   replace hb48 : k < 32 := by omega
   refine wct hE rfl (wp_skip (K15 (ww1 fun _ K17=>wp_block (qz hM (by kernel_rfl) (fun _ => True) (fun _ => True) (.re [(0,true),(1,true),(2,true),(3,true),(4,true),(6,true),(7,true),(5,true),(8,true),(9,true),(10,true),(11,false)] (.fl 7 (.weak (.fl 4 (.cut (.or 11 (.cut (.re [] (.weak (.leaf 0)))) (.stop))))))) [(0,true),(1,true),(2,true),(3,true),(4,true),(6,true),(7,true),(5,true),(8,true),(9,true),(10,true),(11,false)] [(4,[(5,4),(9,5),(10,4),(11,4)]),(5,[(9,5),(10,5),(11,5)]),(7,[(8,7),(9,8),(10,7),(11,7)]),(8,[(9,8),(10,8),(11,8)]),(9,[(10,9),(11,9)]),(10,[(11,10)]),(11,[])] (by kernel_rfl) ?_))))
   intro w13 hM' hww13;replace hM := hM'
   refine o_re (o_fl rfl (sm hE rfl fun a hE=>sm hE rfl fun a hE=>sm hE rfl fun a hE=>sm hE rfl fun a hE=>?_))
   obtain ⟨cx55,hx55⟩ := own_rd (hM.get 2 rfl)
   refine qu (j := k) hE rfl hx55 rfl slt66 (by first | rfl | omega) (by have hl_ : (xorI (oW pass salt (UInt8.ofNat q) (i + 1)) (uW pass salt (UInt8.ofNat q) (i + 1)) k).length = 32 := ((xorI_length (by simp) _).trans (by simp));first | omega | (rw [vj];omega) | (simp;omega)) rfl ?_;intro a p55 hE hc55 hp55
   refine sm hE rfl fun a hE=>qp (j := k) hE rfl rfl arr27 (by first | rfl | omega) (by first | omega | decide) rfl fun a hE=>?_
   refine qa (qh (vc (fun _ => False) (fun _ _ => trivial) (o_fl rfl ?_)))
   rw [bv_elem (by have hl_ : (xorI (oW pass salt (UInt8.ofNat q) (i + 1)) (uW pass salt (UInt8.ofNat q) (i + 1)) k).length = 32 := ((xorI_length (by simp) _).trans (by simp));first | omega | (rw [vj];omega) | (simp;omega))] at hc55
   refine qt hE rfl hc55 one5 (by intro X h;cases h;simp) rfl fun a hE=>?_
   refine qy (j := k) hE rfl (by omega) (hM.get 0 rfl) (bv_get (by have hl_ : (uW pass salt (UInt8.ofNat q) (i + 1)).length = 32 := (by first | (simp;done) | (simp [*];done) | (simp;omega));first | omega | (rw [vj];omega) | (simp;omega))) one5 (by intro X h;cases h;simp) rfl fun a hE=>?_
   refine sb hE rfl rfl (bin_xor8 (x := (xorI (oW pass salt (UInt8.ofNat q) (i + 1)) (uW pass salt (UInt8.ofNat q) (i + 1)) k).getD k 0) (y := (uW pass salt (UInt8.ofNat q) (i + 1)).getD k 0)) fun a hE=>?_
   refine s_indexOwn (j := k) hE rfl (hM.get 2 rfl) rfl slt66 (by first | rfl | omega) (by have hl_ : (xorI (oW pass salt (UInt8.ofNat q) (i + 1)) (uW pass salt (UInt8.ofNat q) (i + 1)) k).length = 32 := ((xorI_length (by simp) _).trans (by simp));first | omega | (rw [vj];omega) | (simp;omega)) rfl ?_;intro a hE hc61
   refine qa (qh (o_cut (fun b => b ∈ valBlocks v36) ?_))
   refine o_or rfl ?_ ?_
   ·replace hM : Mem _ _ w13 [_,_,_,_] := hM.pick [2,0,1,3] rfl
    refine s_storeOwn (vs := [_]) hE rfl rfl hM rfl sz5 rfl (one1 rfl) (by have hl_ : (xorI (oW pass salt (UInt8.ofNat q) (i + 1)) (uW pass salt (UInt8.ofNat q) (i + 1)) k).length = 32 := ((xorI_length (by simp) _).trans (by simp));first | omega | (simp;omega)) (by have hl_ : (xorI (oW pass salt (UInt8.ofNat q) (i + 1)) (uW pass salt (UInt8.ofNat q) (i + 1)) k).length = 32 := ((xorI_length (by simp) _).trans (by simp));first | omega | (simp;omega)) (by intro X h;cases h;exact fun _ hb => hb) ?_;intro w14 hM
    replace hM := Mem.ownSet (p := xorI (oW pass salt (UInt8.ofNat q) (i + 1)) (uW pass salt (UInt8.ofNat q) (i + 1)) k) (j := k) (b := ((xorI (oW pass salt (UInt8.ofNat q) (i + 1)) (uW pass salt (UInt8.ofNat q) (i + 1)) k).getD k 0) ^^^ ((uW pass salt (UInt8.ofNat q) (i + 1)).getD k 0)) hM (by have hl_ : (xorI (oW pass salt (UInt8.ofNat q) (i + 1)) (uW pass salt (UInt8.ofNat q) (i + 1)) k).length = 32 := ((xorI_length (by simp) _).trans (by simp));first | omega | (rw [vj];omega) | (simp;omega))
    refine qa (qh (o_cut (fun _ => True) (o_re (vc (fun _ => False) (fun _ _ => trivial) (va rfl rfl (qa (q_ph (qa (qe (K17 (wpp (sm hE rfl fun a hE=>?_))))))))))))
    refine sb hE rfl rfl (show Bin _ _ _ _ _ (.int .i64 ((k + 1 : Nat) : Int)) from bin_add (by rw [wrap_i64 (by omega) (by omega)];omega)) fun a hE=>?_
    refine sas hE rfl fun a hE=>qa ?_
    replace hE := hE.cast 14 rfl (show _ = Value.int .i64 (((k + 1) : Nat) : Int) from (congrArg _ (by omega)))
    replace hM := Mem.ownB (p := (xorI (oW pass salt (UInt8.ofNat q) (i + 1)) (uW pass salt (UInt8.ofNat q) (i + 1)) k).set k (((xorI (oW pass salt (UInt8.ofNat q) (i + 1)) (uW pass salt (UInt8.ofNat q) (i + 1)) k).getD k 0) ^^^ ((uW pass salt (UInt8.ofNat q) (i + 1)).getD k 0))) (q := xorI (oW pass salt (UInt8.ofNat q) (i + 1)) (uW pass salt (UInt8.ofNat q) (i + 1)) (k + 1)) hM (by rw [xorI_get (by simp) (by simp;omega)];exact xorI_set (by simp) (by simp;omega))
    replace hM : Mem _ _ w14 [_,_,_,_] := hM.pick [0,1,2,3] rfl
    replace hM : Mem _ _ w14 [_,_,_,_] := hM.pick [1,2,0,3] rfl
    exact ⟨k + 1,⟨by omega,hE.sel [0,2,8,9,10,11,12,13,14,39] rfl,hM⟩,by omega⟩
   trivial
  ·replace hb48 := of_decide_eq_false hb48
   replace hb48 : ¬ (k < 32) := by omega
   obtain rfl : 32 = k := by omega
   replace hM : Mem _ _ w12 [_,_,_,_] := hM.pick [2,0,1,3] rfl
   replace hM := Mem.ownB (p := xorI (oW pass salt (UInt8.ofNat q) (i + 1)) (uW pass salt (UInt8.ofNat q) (i + 1)) 32) (q := oW pass salt (UInt8.ofNat q) (i + 2)) hM (by rw [show (32 : Nat) = (oW pass salt (UInt8.ofNat q) (i + 1)).length by simp,xorI_all (by simp)];rfl)
   refine wcf hE rfl (wp_exit (qc (qc (qg (qe (K11 (wpp (sm hE rfl fun a hE=>sb hE rfl rfl (show Bin _ _ _ _ _ (.int .i64 (((i + 2) + 1 : Nat) : Int)) from bin_add (by rw [wrap_i64 (by omega) (by omega)];omega)) fun a hE=>?_))))))))
   refine sas hE rfl fun a hE=>qa ?_
   replace hE := hE.cast 12 rfl (show _ = Value.int .i64 (((i + 1) + 2 : Nat) : Int) from (congrArg _ (by omega)))
   replace hM := Mem.ownB (p := oW pass salt (UInt8.ofNat q) (i + 2)) (q := oW pass salt (UInt8.ofNat q) ((i + 1) + 1)) hM rfl
   replace hM : Mem _ _ w12 [_,_,_,_] := hM.pick [1,0,2,3] rfl
   replace hM : Mem _ _ w12 [_,_,_] := hM.pick [0,1,3] rfl
   replace hM : Mem _ _ w12 [_,_,_] := hM.pick [1,0,2] rfl
   exact ⟨i + 1,⟨by omega,hE.sel [0,2,8,9,10,11,12] rfl,hM⟩,by omega⟩
 ·replace hb39 := of_decide_eq_false hb39
  replace hb39 : ¬ ((i + 2) ≤ r) := by omega
  obtain rfl : (r - 1) = i := by omega
  refine wcf hE rfl (wp_exit (qc (qc (qg (K7 (ww1 fun _ K11=>wpp (sm hE rfl fun a hE=>sas hE rfl fun a hE=>?_)))))))
  refine qa (K11 (wp_ret (qi hE rfl rfl (⟨_,rfl,?_⟩))))
  rw [show r - 1 + 1 = r by omega] at hM
  exact hM.pick [0] rfl
theorem keyw_c (v u : Value) (pass salt : List UInt8) (c cu r size : Nat) (w : World) (hG : (glb 1).holds w) (hr : (rd v 1 pass.length c (bv pass)).holds w) (hu : (rd u 1 salt.length cu (bv salt)).holds w) (hk : pass.length ≤ 100000) (hf : salt.length ≤ 100000) (h1 : 1 ≤ r) (hrr : r ≤ 4096) (h3 : 1 ≤ size) (h4 : size ≤ 128) : Calls Tryz.prog 26 #[v,u,.int .i64 (r : Int),.int .i64 (size : Int)] w fun e w' => ∃ v',e = .returned (.tuple #[v',.int .i64 0]) ∧ Mem w [] w' [ownW v' 1 (keyW pass salt r size).length (bv (keyW pass salt r size))] := by
 have hM : Mem w [] w [rd v 1 pass.length c (bv pass),rd u 1 salt.length cu (bv salt),glb 1] := Mem.startR w (fun g hg => by
  simp only [List.mem_cons,List.not_mem_nil,or_false] at hg
  rcases hg with rfl | rfl | rfl
  ·exact ⟨hr,rfl⟩
  ·exact ⟨hu,rfl⟩
  ·exact ⟨hG,rfl⟩)
 refine vf 45 Tryz.func26 rfl rfl rfl ?_
 intro a hE
 replace hE : Env a 45 [(0,_),(1,_),(2,_),(3,_)] := hE
 refine ww1 fun _ K1=>wpp (sas hE rfl fun a hE=>sas hE rfl fun a hE=>qa (K1 (ww1 fun _ K2=>ww1 fun _ K3=>wpp (sm hE rfl fun a hE=>?_))))
 refine sb hE rfl rfl bin_lss fun a hE=>sm hE rfl fun a hE=>?_
 replace hE := hE.cast 15 rfl (show _ = Value.bool false from (congrArg Value.bool (by first | (with_reducible exact decide_eq_true rfl) | exact decide_eq_false (by omega) | (rw [decide_eq_true (by omega)];rfl) | (rw [decide_eq_false (by omega)];rfl) | rfl | decide | (simp;done) | (simp;omega) | (simp [*];done))))
 refine gy hE rfl (sm hE rfl fun a hE=>gy hE rfl (sb hE rfl rfl bin_gtr fun a hE=>pkf hE rfl fun a hE=>sm hE rfl fun a hE=>?_))
 replace hE := hE.cast 19 rfl (show _ = Value.bool false from (congrArg Value.bool (by first | (with_reducible exact decide_eq_true rfl) | exact decide_eq_false (by omega) | (rw [decide_eq_true (by omega)];rfl) | (rw [decide_eq_false (by omega)];rfl) | rfl | decide | (simp;done) | (simp;omega) | (simp [*];done))))
 refine gy hE rfl (sm hE rfl fun a hE=>gy hE rfl (sb hE rfl rfl bin_lss fun a hE=>pkf hE rfl fun a hE=>sm hE rfl fun a hE=>?_))
 replace hE := hE.cast 23 rfl (show _ = Value.bool false from (congrArg Value.bool (by first | (with_reducible exact decide_eq_true rfl) | exact decide_eq_false (by omega) | (rw [decide_eq_true (by omega)];rfl) | (rw [decide_eq_false (by omega)];rfl) | rfl | decide | (simp;done) | (simp;omega) | (simp [*];done))))
 refine gy hE rfl (sm hE rfl fun a hE=>gy hE rfl (sb hE rfl rfl bin_gtr fun a hE=>pkf hE rfl fun a hE=>qa (K3 ?_)))
 replace hE := hE.cast 26 rfl (show _ = Value.bool false from (congrArg Value.bool (by first | (with_reducible exact decide_eq_true rfl) | exact decide_eq_false (by omega) | (rw [decide_eq_true (by omega)];rfl) | (rw [decide_eq_false (by omega)];rfl) | rfl | decide | (simp;done) | (simp;omega) | (simp [*];done))))
 refine wcf hE rfl (wp_skip (K2 (ww1 fun _ K4=>wpp (sas hE rfl fun a hE=>qa (K4 (ww1 fun _ K5=>ww1 fun _ K6=>?_))))))
 refine wpp (sas hE rfl fun a hE=>qa (K6 (wp_block ?_)))
 replace hM := hM.addNil 1
 replace hM := hM.ownEq (m' := ([] : List UInt8).length) (cs' := bv []) rfl rfl
 replace hM := Mem.ownB (p := ([] : List UInt8)) (q := keyP pass salt r 0) hM (by first | with_reducible rfl | (simp;done) | (simp [*];done) | rfl)
 replace hE := hE.cast 11 rfl (show _ = Value.int .u8 ((UInt8.ofNat (0 + 1)).toNat : Int) from (by first | rfl | simp))
 refine c_loop (fun (j : Nat) a w' => j ≤ ((size + 31) / 32) ∧ ∃ vl10,Env a 45 [(0,v),(1,u),(2,.int .i64 ((r : Nat) : Int)),(3,.int .i64 ((size : Nat) : Int)),(8,.slice none 0 0),(9,.int .i64 0),(10,vl10),(11,.int .u8 ((UInt8.ofNat (j + 1)).toNat : Int)),(26,.bool false)] ∧ Mem w [] w' [own vl10 1 (keyP pass salt r j).length (bv (keyP pass salt r j)),rd v 1 pass.length c (bv pass),rd u 1 salt.length cu (bv salt),glb 1]) (fun j => ((size + 31) / 32) - j) 0 ⟨Nat.zero_le _,_,hE.sel [0,1,2,3,8,9,10,11,26] rfl,hM⟩ ?_
 rintro j a w1 ⟨hj,vl10,hE,hM⟩
 refine ww1 fun _ K7=>ww1 fun _ K8=>wpp (sm hE rfl fun a hE=>s_len hE rfl Tryz.underlying66 (own_slice (hM.get 0 rfl)) rfl fun a hE=>?_)
 replace hE := hE.cast 28 rfl (show _ = Value.int .i64 ((32 * j : Nat) : Int) from (congrArg (fun n : Nat => Value.int .i64 (n : Int)) (by first | (simp;done) | (simp [*];done) | (simp;omega))))
 refine sm hE rfl fun a hE=>sb hE rfl rfl bin_lss fun a hE=>qa (K8 ?_)
 refine hE.split 30 rfl (fun hb30 hE=>?_) (fun hb30 hE=>?_)
 ·replace hb30 := of_decide_eq_true hb30
  replace hb30 : (32 * j) < size := by omega
  replace hb30 : j < ((size + 31) / 32) := by omega
  refine wct hE rfl (wp_skip (K7 (ww1 fun _ K9=>wp_block (ww1 fun _ K10=>wpp (sm hE rfl fun a hE=>sm hE rfl fun a hE=>sm hE rfl fun a hE=>?_)))))
  refine sm hE rfl fun a hE=>qn hE rfl Tryz.call41 (block_c _ _ pass salt _ _ r (UInt8.ofNat (j + 1)) _ (hM.get 3 rfl) (hM.get 1 rfl) (hM.get 2 rfl) (by first | omega | assumption | (simp;done) | (simp;omega) | decide) (by first | omega | assumption | (simp;done) | (simp;omega) | decide) (by first | omega | assumption | (simp;done) | (simp;omega) | decide)) rfl ?_
  rintro e w2 ⟨rfl,hN⟩
  refine ⟨_,rfl,trivial,fun a hE=>?_⟩
  replace hM : Mem _ _ w2 [_,_,_,_] := hM.call0 hN trivial;clear hN
  refine qo [32] hE hM zero25 rfl rfl fun a b12 w3 hE hM=>qr 0 hE rfl rfl hM rfl sz25 (by simp) (ve _) rfl (by simp) rfl (by intro X h;cases h) fun w4 hM=>?_
  simp only [List.set_cons_zero,List.set_cons_succ] at hM
  refine qa (K10 (wpp (sm hE rfl fun a hE=>s_sliceArr (l := 0) (h := 32) (mx' := 32) hE rfl arr25 rfl rfl rfl (by simp) (by omega) (by omega) (by omega) rfl fun a hE=>?_)))
  replace hE := hE.cast 39 rfl (show _ = Value.slice (some ⟨b12,0,none⟩) 32 32 from rfl)
  replace hM : Mem _ _ w4 [_,_,_,_,_] := hM.pick [1,0,2,3,4] rfl
  refine qw hE rfl rfl hM sl66 (Src.rd Tryz.underlying66 (rd_of_arr (hM.get 1 rfl) (by first | (simp;done) | (simp [*];done) | (simp;omega))) (ve _)) (len47 (by have hl_x : (keyP pass salt r j).length = 32 * j := (by first | (simp;done) | (simp [*];done) | (simp;omega));have hl_y : (oW pass salt (UInt8.ofNat (j + 1)) r).length = 32 := (by first | (simp;done) | (simp [*];done) | (simp;omega));first | omega | (simp;done) | (simp;omega))) (by have hl_x : (keyP pass salt r j).length = 32 * j := (by first | (simp;done) | (simp [*];done) | (simp;omega));have hl_y : (oW pass salt (UInt8.ofNat (j + 1)) r).length = 32 := (by first | (simp;done) | (simp [*];done) | (simp;omega));first | omega | (simp;done) | (simp;omega)) (by intro X h;cases h) rfl ?_;intro a v40 w5 hE hM
  replace hM := Mem.ownApp (p := keyP pass salt r j) (q := oW pass salt (UInt8.ofNat (j + 1)) r) hM (by first | rfl | (simp;done))
  refine sas hE rfl fun a hE=>qa (qe (K9 (wpp (sm hE rfl fun a hE=>sb hE rfl rfl (bin_inc_u8 (b := UInt8.ofNat (j + 1))) fun a hE=>sas hE rfl fun a hE=>qa ?_))))
  replace hE := hE.cast 11 rfl (show _ = Value.int .u8 ((UInt8.ofNat ((j + 1) + 1)).toNat : Int) from (by rw [UInt8.ofNat_add (j + 1) 1];rfl))
  replace hM := Mem.ownB (p := (keyP pass salt r j) ++ (oW pass salt (UInt8.ofNat (j + 1)) r)) (q := keyP pass salt r (j + 1)) hM rfl
  replace hM : Mem _ _ w5 [_,_,_,_] := hM.pick [0,2,3,4] rfl
  exact ⟨j + 1,⟨by omega,_,hE.sel [0,1,2,3,8,9,10,11,26] rfl,hM⟩,by omega⟩
 ·replace hb30 := of_decide_eq_false hb30
  replace hb30 : ¬ ((32 * j) < size) := by omega
  obtain rfl : ((size + 31) / 32) = j := by omega
  refine wcf hE rfl (wp_exit (qc (qc (qg (K5 (ww1 fun _ K9=>wpp (sm hE rfl fun a hE=>sm hE rfl fun a hE=>?_)))))))
  refine sm hE rfl fun a hE=>?_
  refine s_slice3 (l := size) hE rfl (hM.get 0 rfl) slt66 rfl rfl (by have hl_ : (keyP pass salt r ((size + 31) / 32)).length = 32 * ((size + 31) / 32) := (by first | (simp;done) | (simp [*];done) | (simp;omega));first | omega | (simp;omega)) rfl fun a hE=>?_
  replace hM := hM.cutOwn (l := size) (by have hl_ : (keyP pass salt r ((size + 31) / 32)).length = 32 * ((size + 31) / 32) := (by first | (simp;done) | (simp [*];done) | (simp;omega));first | omega | (simp;omega))
  replace hM := hM.ownWEq (m' := ((keyP pass salt r ((size + 31) / 32)).take size).length) (cs' := bv ((keyP pass salt r ((size + 31) / 32)).take size)) (by have hl_ : (keyP pass salt r ((size + 31) / 32)).length = 32 * ((size + 31) / 32) := (by first | (simp;done) | (simp [*];done) | (simp;omega));simp;omega) (by simp [bv])
  exact sas hE rfl fun a hE=>sas hE rfl fun a hE=>qa (K9 (wp_ret (qj hE rfl rfl rfl ⟨_,rfl,hM.pick [0] rfl⟩)))
theorem rkey_c (v u : Value) (pass salt : List UInt8) (c cu r size : Nat) (w : World) (hr : (rd v 1 pass.length c (bv pass)).holds w) (hu : (rd u 1 salt.length cu (bv salt)).holds w) (hk : pass.length ≤ 100000) (hf : salt.length ≤ 100000) (h1 : 1 ≤ r) (hrr : r ≤ 4096) (h3 : 1 ≤ size) (h4 : size ≤ 128) : Calls Tryz.prog 36 #[v,u,.int .i64 (r : Int),.int .i64 (size : Int)] w fun e w' => ∃ v',e = .returned (.tuple #[v',.int .i64 0]) ∧ Mem w [] w' [own v' 1 (keyW pass salt r size).length (bv (keyW pass salt r size))] := by
 have hM := Mem.startR2 hr hu rfl rfl
 refine vf 47 Tryz.func36 rfl rfl rfl ?_
 intro a hE
 replace hE : Env a 47 [(0,_),(1,_),(2,_),(3,_)] := hE
 refine ww1 fun _ K1=>wpp (sas hE rfl fun a hE=>sas hE rfl fun a hE=>qa (K1 (ww1 fun _ K2=>ww1 fun _ K3=>wpp (sm hE rfl fun a hE=>?_))))
 refine sb hE rfl rfl bin_lss fun a hE=>sm hE rfl fun a hE=>?_
 replace hE := hE.cast 15 rfl (show _ = Value.bool false from (congrArg Value.bool (by first | (with_reducible exact decide_eq_true rfl) | exact decide_eq_false (by omega) | (rw [decide_eq_true (by omega)];rfl) | (rw [decide_eq_false (by omega)];rfl) | rfl | decide | (simp;done) | (simp;omega) | (simp [*];done))))
 refine gy hE rfl (sm hE rfl fun a hE=>gy hE rfl (sb hE rfl rfl bin_gtr fun a hE=>pkf hE rfl fun a hE=>sm hE rfl fun a hE=>?_))
 replace hE := hE.cast 19 rfl (show _ = Value.bool false from (congrArg Value.bool (by first | (with_reducible exact decide_eq_true rfl) | exact decide_eq_false (by omega) | (rw [decide_eq_true (by omega)];rfl) | (rw [decide_eq_false (by omega)];rfl) | rfl | decide | (simp;done) | (simp;omega) | (simp [*];done))))
 refine gy hE rfl (sm hE rfl fun a hE=>gy hE rfl (sb hE rfl rfl bin_lss fun a hE=>pkf hE rfl fun a hE=>sm hE rfl fun a hE=>?_))
 replace hE := hE.cast 23 rfl (show _ = Value.bool false from (congrArg Value.bool (by first | (with_reducible exact decide_eq_true rfl) | exact decide_eq_false (by omega) | (rw [decide_eq_true (by omega)];rfl) | (rw [decide_eq_false (by omega)];rfl) | rfl | decide | (simp;done) | (simp;omega) | (simp [*];done))))
 refine gy hE rfl (sm hE rfl fun a hE=>gy hE rfl (sb hE rfl rfl bin_gtr fun a hE=>pkf hE rfl fun a hE=>qa (K3 ?_)))
 replace hE := hE.cast 26 rfl (show _ = Value.bool false from (congrArg Value.bool (by first | (with_reducible exact decide_eq_true rfl) | exact decide_eq_false (by omega) | (rw [decide_eq_true (by omega)];rfl) | (rw [decide_eq_false (by omega)];rfl) | rfl | decide | (simp;done) | (simp;omega) | (simp [*];done))))
 refine wcf hE rfl (wp_skip (K2 (ww1 fun _ K4=>wpp (sas hE rfl fun a hE=>qa (K4 (ww1 fun _ K5=>ww1 fun _ K6=>?_))))))
 refine wpp (sas hE rfl fun a hE=>qa (K6 (wp_block ?_)))
 replace hM := hM.addNil 1
 replace hM := hM.ownEq (m' := ([] : List UInt8).length) (cs' := bv []) rfl rfl
 replace hM := Mem.ownB (p := ([] : List UInt8)) (q := keyP pass salt r (min 0 ((size + 31) / 32))) hM (by first | with_reducible rfl | (simp;done) | (simp [*];done) | rfl)
 replace hE := hE.cast 11 rfl (show _ = Value.int .i64 ((0 + 1 : Nat) : Int) from (by first | rfl | simp))
 refine c_loop (fun (i : Nat) a w' => i ≤ 4 ∧ ∃ vl10,Env a 47 [(0,v),(1,u),(2,.int .i64 ((r : Nat) : Int)),(3,.int .i64 ((size : Nat) : Int)),(8,.slice none 0 0),(9,.int .i64 0),(10,vl10),(11,.int .i64 ((i + 1 : Nat) : Int)),(26,.bool false)] ∧ Mem w [] w' [own vl10 1 (keyP pass salt r (min i ((size + 31) / 32))).length (bv (keyP pass salt r (min i ((size + 31) / 32)))),rd v 1 pass.length c (bv pass),rd u 1 salt.length cu (bv salt)]) (fun i => 4 - i) 0 ⟨Nat.zero_le _,_,hE.sel [0,1,2,3,8,9,10,11,26] rfl,hM⟩ ?_
 rintro i a w1 ⟨hi,vl10,hE,hM⟩
 refine ww1 fun _ K7=>ww1 fun _ K8=>wpp (sm hE rfl fun a hE=>sb hE rfl rfl bin_leq fun a hE=>qa (K8 ?_))
 refine hE.split 28 rfl (fun hb28 hE=>?_) (fun hb28 hE=>?_)
 ·replace hb28 := of_decide_eq_true hb28
  replace hb28 : (i + 1) ≤ 4 := by omega
  replace hb28 : i < 4 := by omega
  refine wct hE rfl (wp_skip (K7 (ww1 fun _ K9=>wp_block (ww1 fun _ K10=>wpp (sm hE rfl fun a hE=>sb hE rfl rfl (show Bin _ _ _ _ _ (.int .i64 (((i + 1) - 1 : Nat) : Int)) from bin_sub (by rw [wrap_i64 (by omega) (by omega)];omega)) fun a hE=>?_)))))
  refine sb hE rfl rfl (show Bin _ _ _ _ _ (.int .i64 ((32 * ((i + 1) - 1) : Nat) : Int)) from bin_mul (by rw [wrap_i64 (by omega) (by omega)];omega)) fun a hE=>?_
  refine sm hE rfl fun a hE=>sb hE rfl rfl bin_lss fun a hE=>qa (K10 ?_)
  refine hE.split 35 rfl (fun hb35 hE=>?_) (fun hb35 hE=>?_)
  ·replace hb35 := of_decide_eq_true hb35
   replace hb35 : (32 * ((i + 1) - 1)) < size := by omega
   refine wct hE rfl (ww1 fun _ K11=>wpp (sm hE rfl fun a hE=>sm hE rfl fun a hE=>sm hE rfl fun a hE=>sm hE rfl fun a hE=>qn hE rfl Tryz.call51 (rblk_c _ _ pass salt _ _ r (i + 1) _ (hM.get 1 rfl) (hM.get 2 rfl) (by first | omega | assumption | (simp;done) | (simp;omega) | decide) (by first | omega | assumption | (simp;done) | (simp;omega) | decide) (by first | omega | assumption | (simp;done) | (simp;omega) | decide) (by first | omega | assumption | (simp;done) | (simp;omega) | decide) (by first | omega | assumption | (simp;done) | (simp;omega) | decide)) rfl ?_))
   rintro e w2 ⟨v40,rfl,hN⟩
   refine ⟨_,rfl,trivial,fun a hE=>?_⟩
   replace hM : Mem _ _ w2 [_,_,_,_] := hM.call0 hN ⟨rfl,trivial⟩;clear hN
   refine sas hE rfl fun a hE=>qa (K11 (wpp (sm hE rfl fun a hE=>sm hE rfl fun a hE=>?_)))
   replace hM : Mem _ _ w2 [_,_,_,_] := hM.pick [1,0,2,3] rfl
   obtain ⟨cq1,hq1⟩ := own_rd (hM.get 1 rfl)
   refine qw hE rfl rfl hM sl66 (Src.rd Tryz.underlying66 hq1 (ve _)) (len47 (by have hl_x : (keyP pass salt r (min i ((size + 31) / 32))).length = 32 * min i ((size + 31) / 32) := (by first | (simp;done) | (simp [*];done) | (simp;omega));have hl_y : (oW pass salt (UInt8.ofNat (i + 1)) r).length = 32 := (by first | (simp;done) | (simp [*];done) | (simp;omega));first | omega | (simp;done) | (simp;omega))) (by have hl_x : (keyP pass salt r (min i ((size + 31) / 32))).length = 32 * min i ((size + 31) / 32) := (by first | (simp;done) | (simp [*];done) | (simp;omega));have hl_y : (oW pass salt (UInt8.ofNat (i + 1)) r).length = 32 := (by first | (simp;done) | (simp [*];done) | (simp;omega));first | omega | (simp;done) | (simp;omega)) (by intro X h;cases h) rfl ?_;intro a v43 w3 hE hM
   replace hM := Mem.ownApp (p := keyP pass salt r (min i ((size + 31) / 32))) (q := oW pass salt (UInt8.ofNat (i + 1)) r) hM (by first | rfl | (simp;done))
   refine sas hE rfl fun a hE=>qa (qe (K9 (wpp (sm hE rfl fun a hE=>sb hE rfl rfl (show Bin _ _ _ _ _ (.int .i64 (((i + 1) + 1 : Nat) : Int)) from bin_add (by rw [wrap_i64 (by omega) (by omega)];omega)) fun a hE=>?_))))
   refine sas hE rfl fun a hE=>qa ?_
   replace hE := hE.cast 11 rfl (show _ = Value.int .i64 (((i + 1) + 1 : Nat) : Int) from (congrArg _ (by omega)))
   replace hM := Mem.ownB (p := (keyP pass salt r (min i ((size + 31) / 32))) ++ (oW pass salt (UInt8.ofNat (i + 1)) r)) (q := keyP pass salt r (min (i + 1) ((size + 31) / 32))) hM (by rw [show min (i + 1) ((size + 31) / 32) = i + 1 by omega,show min i ((size + 31) / 32) = i by omega];rfl)
   replace hM : Mem _ _ w3 [_,_,_] := hM.pick [0,2,3] rfl
   exact ⟨i + 1,⟨by omega,_,hE.sel [0,1,2,3,8,9,10,11,26] rfl,hM⟩,by omega⟩
  ·replace hb35 := of_decide_eq_false hb35
   replace hb35 : ¬ ((32 * ((i + 1) - 1)) < size) := by omega
   refine wcf hE rfl (wp_skip (qe (K9 (wpp (sm hE rfl fun a hE=>sb hE rfl rfl (show Bin _ _ _ _ _ (.int .i64 (((i + 1) + 1 : Nat) : Int)) from bin_add (by rw [wrap_i64 (by omega) (by omega)];omega)) fun a hE=>?_)))))
   refine sas hE rfl fun a hE=>qa ?_
   replace hE := hE.cast 11 rfl (show _ = Value.int .i64 (((i + 1) + 1 : Nat) : Int) from (congrArg _ (by omega)))
   replace hM := Mem.ownB (p := keyP pass salt r (min i ((size + 31) / 32))) (q := keyP pass salt r (min (i + 1) ((size + 31) / 32))) hM (by rw [show min (i + 1) ((size + 31) / 32) = min i ((size + 31) / 32) by omega])
   replace hM : Mem _ _ w1 [_,_,_] := hM.pick [0,1,2] rfl
   exact ⟨i + 1,⟨by omega,_,hE.sel [0,1,2,3,8,9,10,11,26] rfl,hM⟩,by omega⟩
 ·replace hb28 := of_decide_eq_false hb28
  replace hb28 : ¬ ((i + 1) ≤ 4) := by omega
  obtain rfl : 4 = i := by omega
  refine wcf hE rfl (wp_exit (qc (qc (qg (K5 (ww1 fun _ K9=>wpp (sm hE rfl fun a hE=>sm hE rfl fun a hE=>?_)))))))
  refine s_sliceTo (l := size) hE rfl (hM.get 0 rfl) slt66 ⟨_,rfl⟩ (by first | omega | (simp only [List.length_append,List.length_take,List.length_cons,List.length_nil];omega) | (simp;omega) | (simp [*];omega) | decide +kernel) rfl fun a hE=>?_
  refine sas hE rfl fun a hE=>sas hE rfl fun a hE=>qa (K9 (wp_ret (qj hE rfl rfl rfl ?_)))
  rw [show min 4 ((size + 31) / 32) = ((size + 31) / 32) by omega] at hM
  replace hM := hM.subOwn (l := size) (by simp;omega)
  replace hM := hM.ownEq (m' := (keyW pass salt r size).length) (cs' := bv (keyW pass salt r size)) (by simp) (by simp [bv,keyW,List.map_take])
  exact ⟨_,rfl,hM.pick [0] rfl⟩
theorem rkey_bad (v u : Value) (z y : Int) (w : World) (h : z < 1 ∨ 4096 < z ∨ y < 1 ∨ 128 < y) : Calls Tryz.prog 36 #[v,u,.int .i64 z,.int .i64 y] w fun e w' => e = .returned (.tuple #[.slice none 0 0,.int .i64 2]) ∧ Mem w [] w' [] := by
 have hM := Mem.start0 w
 refine vf 47 Tryz.func36 rfl rfl rfl ?_
 intro a hE
 replace hE : Env a 47 [(0,_),(1,_),(2,_),(3,_)] := hE
 refine ww1 fun _ K1=>wpp (sas hE rfl fun a hE=>sas hE rfl fun a hE=>qa (K1 (ww1 fun _ K2=>ww1 fun _ K3=>wpp (sm hE rfl fun a hE=>?_))))
 refine sb hE rfl rfl bin_lss fun a hE=>sm hE rfl fun a hE=>?_
 refine hE.split 15 rfl (fun hb15 hE=>?_) (fun hb15 hE=>?_)
 ·replace hb15 := of_decide_eq_true hb15
  refine gt hE rfl fun a hE=>gt hE rfl fun a hE=>pkt hE rfl fun a hE=>sm hE rfl fun a hE=>gt hE rfl fun a hE=>gt hE rfl fun a hE=>pkt hE rfl fun a hE=>sm hE rfl fun a hE=>gt hE rfl fun a hE=>gt hE rfl fun a hE=>?_
  refine pkt hE rfl fun a hE=>qa (K3 (wct hE rfl (ww1 fun _ K4=>wpp (sas hE rfl fun a hE=>sas hE rfl fun a hE=>qa (K4 ?_)))))
  exact wp_ret (qb (qj hE rfl rfl rfl ⟨rfl,hM⟩))
 ·replace hb15 := of_decide_eq_false hb15
  refine gy hE rfl (sm hE rfl fun a hE=>gy hE rfl (sb hE rfl rfl bin_gtr fun a hE=>pkf hE rfl fun a hE=>sm hE rfl fun a hE=>?_))
  refine hE.split 19 rfl (fun hb19 hE=>?_) (fun hb19 hE=>?_)
  ·replace hb19 := of_decide_eq_true hb19
   refine gt hE rfl fun a hE=>gt hE rfl fun a hE=>pkt hE rfl fun a hE=>sm hE rfl fun a hE=>gt hE rfl fun a hE=>gt hE rfl fun a hE=>pkt hE rfl fun a hE=>qa (K3 (wct hE rfl ?_))
   exact ww1 fun _ K4=>wpp (sas hE rfl fun a hE=>sas hE rfl fun a hE=>qa (K4 (wp_ret (qb (qj hE rfl rfl rfl ⟨rfl,hM⟩)))))
  ·replace hb19 := of_decide_eq_false hb19
   refine gy hE rfl (sm hE rfl fun a hE=>gy hE rfl (sb hE rfl rfl bin_lss fun a hE=>pkf hE rfl fun a hE=>sm hE rfl fun a hE=>?_))
   refine hE.split 23 rfl (fun hb23 hE=>?_) (fun hb23 hE=>?_)
   ·replace hb23 := of_decide_eq_true hb23
    refine gt hE rfl fun a hE=>gt hE rfl fun a hE=>pkt hE rfl fun a hE=>qa (K3 (wct hE rfl (ww1 fun _ K4=>wpp (sas hE rfl fun a hE=>sas hE rfl fun a hE=>?_))))
    exact qa (K4 (wp_ret (qb (qj hE rfl rfl rfl ⟨rfl,hM⟩))))
   ·replace hb23 := of_decide_eq_false hb23
    refine gy hE rfl (sm hE rfl fun a hE=>gy hE rfl (sb hE rfl rfl bin_gtr fun a hE=>pkf hE rfl fun a hE=>qa (K3 ?_)))
    replace hE := hE.cast 26 rfl (show _ = Value.bool true from (congrArg Value.bool (decide_eq_true (by omega))))
    exact wct hE rfl (ww1 fun _ K4=>wpp (sas hE rfl fun a hE=>sas hE rfl fun a hE=>qa (K4 (wp_ret (qb (qj hE rfl rfl rfl ⟨rfl,hM⟩))))))
end Go.Proofs.YtniekapfoaiieaaGreatDoor
