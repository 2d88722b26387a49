/- Walks of functions of the given program that the claim reaches. -/
import Derived.Test.YtniekapfoaiieaaDoorLr
set_option linter.unusedSimpArgs false
set_option linter.unusedVariables false
namespace Go.Proofs.YtniekapfoaiieaaDoor
open Go Go.Kx
theorem zero151 : Zero Tryd.prog 151 [bv (List.replicate 24 0)] := ⟨.agg ([bv (List.replicate 24 0)] : List (List Value)).flatten.toArray,by kernel_rfl,by kernel_rfl⟩
theorem arr151 : arrT Tryd.prog 151 = some (24,1) := by kernel_rfl
theorem zero29 : Zero Tryd.prog 29 [bv (List.replicate 32 0),bv (List.replicate 32 0)] := ⟨.agg ([bv (List.replicate 32 0),bv (List.replicate 32 0)] : List (List Value)).flatten.toArray,by kernel_rfl,by kernel_rfl⟩
theorem fpl29 : fldPl Tryd.prog 29 = some (plc 0 [32,32]) := by kernel_rfl
theorem sz29 : (Tryd.prog.info? 29).map (·.size) = some 64 := by kernel_rfl
theorem row29 : RowT Tryd.prog 29 64 := RowT.of Tryd.underlying29 rfl (by kernel_rfl)
theorem fo29_0 : fieldOff Tryd.prog 29 0 = some 0 := by kernel_rfl
theorem fo29_1 : fieldOff Tryd.prog 29 1 = some 32 := by kernel_rfl
def tabP : Ent := tabE Tryd.prog 0 "internal/strconv.uint64pow10" .u64 Lib.pow10Tab
theorem fsmall_c (n : Nat) (w : World) (h : n < 100) : Calls Tryd.prog 102 #[.int .i64 n] w fun e w' => e = .returned (.string (str (decW n))) ∧ Mem w [] w' [] := (Tryd.internal_strconv_small n h w).mono fun e w' h => ⟨h.1,h.2 ▸ Mem.start0 w⟩
theorem ndig_c (n : Nat) (w : World) (hT : tabP.holds w) (h1 : 1 ≤ n) (h2 : n < 18446744073709551616) : Calls Tryd.prog 103 #[.int .u64 n] w fun e w' => e = .returned (.int .i64 ((Lib.nDigits n : Nat) : Int)) ∧ Mem w [] w' [] := (Tryd.internal_strconv_numDigits n h1 h2 w hT.2.2).mono fun e w' h => ⟨h.1,h.2 ▸ Mem.start0 w⟩
theorem fmtB_c (b T nd u : Nat) (old : List UInt8) (w : World) (hB : (blk b [bv old] [24] T).holds w) (hl : old.length = 24) (hn : nd ≤ 24) (hu : u < 10 ^ nd) (h64 : u < 18446744073709551616) : Calls Tryd.prog 104 #[.slice (some ⟨b,0,none⟩) nd 24,.int .u64 u] w fun e w' => e = .returned (.tuple #[]) ∧ Mem w [b] w' [blk b [bv (digsN u nd ++ old.drop nd)] [24] T] := by
 have hs : (old.take nd).toArray.size = nd := by simp [hl];omega
 have h := Tryd.internal_strconv_formatBase10 b 0 24 u (old.take nd).toArray w (holds_of_blk hB hl hn) (by rw [hs];exact hu) h64 (by omega)
 rw [hs] at h
 refine h.mono ?_
 rintro e w' ⟨rfl,m,v',dk,rfl,hI⟩
 exact ⟨rfl,putRow_blk hB hl hn hI⟩
theorem ifmt_c (n : Nat) (w : World) (hG : (glb 1).holds w) (hT : tabP.holds w) (hn : n < 18446744073709551616) : Calls Tryd.prog 92 #[.int .u64 (n : Int),.int .i64 10] w fun e w' => e = .returned (.string (str (decW n))) ∧ Mem w [] w' [] := by
 have hnd := Lib.nDigits_le20 n hn
 have hd24 : (digsN n (Lib.nDigits n) ++ (List.replicate 24 (0 : UInt8)).drop (Lib.nDigits n)).length = 24 := by simp [digsN_len];omega
 have hM : Mem w [] w [glb 1,tabP] := Mem.startR w (fun g hg => by
  simp only [List.mem_cons,List.not_mem_nil,or_false] at hg
  rcases hg with rfl | rfl
  ·exact ⟨hG,rfl⟩
  ·exact ⟨hT,rfl⟩)
 refine ve 32 Tryd.func92 rfl rfl rfl ?_
 intro a hE
 replace hE : Env a 32 [(0,_),(1,_)] := hE
 refine ww1 fun _ K1=>wpp (sas hE rfl fun a hE=>qa (K1 (ww1 fun _ K2=>ww1 fun _ K3=>wpp (sm hE rfl fun a hE=>sb hE rfl rfl bin_eql fun a hE=>?_))))
 replace hE := hE.cast 10 rfl (show _ = Value.bool true from (congrArg Value.bool (by decide)))
 refine qa (K3 (wct hE rfl (ww1 fun _ K4=>ww1 fun _ K5=>wpp (sm hE rfl fun a hE=>sb hE rfl rfl bin_lss fun a hE=>qa (K5 ?_)))))
 refine hE.split 12 rfl (fun hb12 hE=>?_) (fun hb12 hE=>?_)
 ·replace hb12 := of_decide_eq_true hb12
  replace hb12 : n < 100 := by omega
  refine wct hE rfl (ww1 fun _ K6=>wpp (sm hE rfl fun a hE=>qx hE rfl (cnv_int Tryd.underlying24 Tryd.underlying3 (wrap_i64 (by omega) (by omega))) rfl fun a hE=>?_))
  refine qn hE rfl Tryd.call102 (fsmall_c n _ (by omega)) rfl ?_
  rintro e w1 ⟨rfl,hN⟩
  refine ⟨_,rfl,trivial,fun a hE=>?_⟩
  replace hM : Mem _ _ w1 [_,_] := hM.call0 hN trivial;clear hN
  exact sas hE rfl fun a hE=>qa (K6 (wp_ret (qb (qb (qi hE rfl rfl ⟨(by first | rfl | (rw [List.take_left' (digsN_len ..),digsN_dec])),hM.pick [] rfl⟩)))))
 ·replace hb12 := of_decide_eq_false hb12
  replace hb12 : ¬ (n < 100) := by omega
  refine wcf hE rfl (wp_skip (K4 (ww1 fun _ K6=>wpp (qo [24] hE hM zero151 rfl rfl fun a b5 w1 hE hM=>qa (K6 (ww1 fun _ K7=>wpp ?_))))))
  refine sm hE rfl fun a hE=>qn hE rfl Tryd.call103 (ndig_c n _ (hM.get 2 rfl) (by omega) (by omega)) rfl ?_
  rintro e w2 ⟨rfl,hN⟩
  refine ⟨_,rfl,trivial,fun a hE=>?_⟩
  replace hM : Mem _ _ w2 [_,_,_] := hM.call0 hN trivial;clear hN
  refine sas hE rfl fun a hE=>qa (K7 (ww1 fun _ K8=>wpp (sm hE rfl fun a hE=>s_sliceArr (l := 0) (h := Lib.nDigits n) (mx' := 24) hE rfl arr151 rfl ⟨_,rfl⟩ rfl (by simp) (by omega) (by omega) (by omega) rfl fun a hE=>?_)))
  replace hE := hE.cast 19 rfl (show _ = Value.slice (some ⟨b5,0,none⟩) (Lib.nDigits n) 24 from rfl)
  refine sm hE rfl fun a hE=>qn hE rfl Tryd.call104 (fmtB_c b5 _ (Lib.nDigits n) n (List.replicate 24 0) _ (hM.get 0 rfl) (by simp) (by omega) (Lib.lt_pow_nDigits n) (by omega)) rfl ?_
  rintro e w3 ⟨rfl,hN⟩
  refine ⟨_,rfl,trivial,fun a hE=>?_⟩
  replace hM : Mem _ _ w3 [_,_,_] := hM.call1 hN (fun f hf x hx => by rw [List.mem_singleton.1 hf] at hx;cases hx);clear hN
  refine qa (K8 (ww1 fun _ K9=>wpp (sm hE rfl fun a hE=>s_sliceArr (l := 0) (h := Lib.nDigits n) (mx' := 24) hE rfl arr151 rfl ⟨_,rfl⟩ rfl (by simp) (by omega) (by omega) (by omega) rfl fun a hE=>?_)))
  replace hE := hE.cast 23 rfl (show _ = subV (.slice (some ⟨b5,0,none⟩) 24 24) (Lib.nDigits n) from rfl)
  replace hM := hM.blkOwn (k := 24) (es := 1) rfl (by decide)
  replace hM := hM.ownEq (m' := (digsN n (Lib.nDigits n) ++ (List.replicate 24 (0 : UInt8)).drop (Lib.nDigits n)).length) (cs' := bv (digsN n (Lib.nDigits n) ++ (List.replicate 24 (0 : UInt8)).drop (Lib.nDigits n))) hd24.symm rfl
  obtain ⟨cs24,hs24⟩ := own_subR (hM.get 0 rfl) (l := Lib.nDigits n) (by first | omega | assumption | (simp;done) | (simp;omega) | decide) (by first | rfl | simp)
  refine s_toStr hE rfl Tryd.underlying42 Tryd.underlying5 Tryd.underlying9 hs24 (by intro X h;cases h) rfl fun a hE=>?_
  exact sas hE rfl fun a hE=>qa (K9 (wp_ret (qb (qi hE rfl rfl ⟨(by first | rfl | (rw [List.take_left' (digsN_len ..),digsN_dec])),hM.pick [] rfl⟩))))
theorem fmt_c (n : Nat) (w : World) (hG : (glb 1).holds w) (hT : tabP.holds w) (hn : n < 18446744073709551616) : Calls Tryd.prog 77 #[.int .u64 (n : Int),.int .i64 10] w fun e w' => e = .returned (.string (str (decW n))) ∧ Mem w [] w' [] := by
 have hM : Mem w [] w [glb 1,tabP] := Mem.startR w (fun g hg => by
  simp only [List.mem_cons,List.not_mem_nil,or_false] at hg
  rcases hg with rfl | rfl
  ·exact ⟨hG,rfl⟩
  ·exact ⟨hT,rfl⟩)
 refine ve 8 Tryd.func77 rfl rfl rfl ?_
 intro a hE
 replace hE : Env a 8 [(0,_),(1,_)] := hE
 refine ww1 fun _ K1=>wpp (sas hE rfl fun a hE=>qa (K1 (ww1 fun _ K2=>wpp (sm hE rfl fun a hE=>sm hE rfl fun a hE=>qn hE rfl Tryd.call92 (ifmt_c n _ (hM.get 0 rfl) (hM.get 1 rfl) (by first | omega | assumption | (simp;done) | (simp;omega) | decide)) rfl ?_))))
 rintro e w1 ⟨rfl,hN⟩
 refine ⟨_,rfl,trivial,fun a hE=>?_⟩
 replace hM : Mem _ _ w1 [_,_] := hM.call0 hN trivial;clear hN
 exact sas hE rfl fun a hE=>qa (K2 (wp_ret (qi hE rfl rfl ⟨(by first | rfl | (simp;done)),hM.pick [] rfl⟩)))
theorem bsub_c (k : List UInt8) (l : List UInt8) (q : List UInt8) (n : Nat) (w : World) (hG : (glb 1).holds w) (hT : tabP.holds w) (hl_k : k.length = 32) (hn : n < 18446744073709551616) (hl : l.length ≤ 2000) (hq : q.length ≤ 100) : Calls Tryd.prog 63 #[.agg (bv k).toArray,.string (str l),.string (str q),.int .u64 (n : Int)] w fun e w' => e = .returned (.agg (bv (subW k (boxL l q n))).toArray) ∧ Mem w [] w' [] := by
 have hdw := decW_len n hn
 have hM : Mem w [] w [glb 1,tabP] := Mem.startR w (fun g hg => by
  simp only [List.mem_cons,List.not_mem_nil,or_false] at hg
  rcases hg with rfl | rfl
  ·exact ⟨hG,rfl⟩
  ·exact ⟨hT,rfl⟩)
 refine ve 19 Tryd.func63 rfl rfl rfl ?_
 intro a hE
 replace hE : Env a 19 [(0,_),(1,_),(2,_),(3,_)] := hE
 refine ww1 fun _ K1=>wpp (s_box (ss := [bv k]) [32] hE hM rfl (by simp [Value.cells]) (by simp [*]) rfl fun a b4 w1 hE hM=>?_)
 refine qo [32] hE hM zero23 rfl rfl fun a b8 w2 hE hM=>qa (K1 (ww1 fun _ K2=>qz hM (by kernel_rfl) (fun _ => True) (fun _ => True) (.re [(1,true),(2,true),(3,true),(4,true),(5,true),(6,true),(0,true),(7,false),(8,true),(9,false),(10,false)] (.fl 6 (.weak (.fl 1 (.or 7 (.re [(8,true),(9,false),(10,false)] (.fl 1 (.fl 0 (.or 9 (.cut (.re [(10,false)] (.fl 0 (.fl 0 (.weak (.or 10 (.cut (.re [] (.weak (.leaf 0)))) (.stop))))))) (.stop))))) (.stop)))))) [(1,true),(2,true),(3,true),(4,true),(5,true),(6,true),(0,true),(7,false),(8,true),(9,false),(10,false)] [(0,[(9,0),(10,0)]),(2,[(4,2),(5,4),(8,5),(9,8),(10,2)]),(4,[(5,4),(8,5),(9,8),(10,4)]),(5,[(8,5),(9,8),(10,5)]),(7,[(8,7),(9,7),(10,7)]),(8,[(9,8),(10,8)]),(9,[(10,9)]),(10,[])] (by kernel_rfl) ?_))
 intro w3 hM' hww3;replace hM := hM'
 refine o_re (o_fl rfl (sm hE rfl fun a hE=>sb hE rfl rfl (show Bin _ _ _ (.string (str l)) (.string (str [32])) (.string (str (l ++ [32]))) from bin_strs (by first | omega | (simp;done) | (simp;omega))) fun a hE=>?_))
 refine sm hE rfl fun a hE=>?_
 refine sb hE rfl rfl (show Bin _ _ _ (.string (str (l ++ [32]))) (.string (str q)) (.string (str ((l ++ [32]) ++ q))) from bin_strs (by have hl_x : (l ++ [32]).length = l.length + ([32].length) := (by first | (simp;done) | (simp [*];done) | (simp;omega));first | omega | (simp;done) | (simp;omega))) fun a hE=>?_
 refine sb hE rfl rfl (show Bin _ _ _ (.string (str ((l ++ [32]) ++ q))) (.string (str [32])) (.string (str (((l ++ [32]) ++ q) ++ [32]))) from bin_strs (by have hl_x : ((l ++ [32]) ++ q).length = l.length + ([32].length) + q.length := (by first | (simp;done) | (simp [*];done) | (simp;omega));first | omega | (simp;done) | (simp;omega))) fun a hE=>?_
 refine sm hE rfl fun a hE=>qa (qh (vb (fun _ => False) (fun _ _ => trivial) (o_fl rfl (ql hE rfl (hM.get 1 rfl) row23 rfl (by intro X h;cases h;simp) rfl fun a hE=>?_))))
 refine qa (qh ?_)
 refine o_or rfl ?_ ?_
 ·refine qn hE rfl Tryd.call77 (fmt_c n _ (hM.get 2 rfl) (hM.get 3 rfl) (by first | omega | assumption | (simp;done) | (simp;omega) | decide)) rfl ?_
  rintro e w4 ⟨rfl,hN⟩
  refine ⟨_,rfl,hN.sta0 _,fun a hE=>?_⟩
  replace hM : Mem _ _ w4 [_,_,_,_] := hM.call0 hN trivial;clear hN
  refine qa (qh (o_re (o_fl rfl ?_)))
  refine sb hE rfl rfl (show Bin _ _ _ (.string (str (((l ++ [32]) ++ q) ++ [32]))) (.string (str (decW n))) (.string (str ((((l ++ [32]) ++ q) ++ [32]) ++ (decW n)))) from bin_strs (by have hl_x : (((l ++ [32]) ++ q) ++ [32]).length = l.length + ([32].length) + q.length + ([32].length) := (by first | (simp;done) | (simp [*];done) | (simp;omega));first | omega | (simp;done) | (simp;omega))) fun a hE=>?_
  refine qa (qh (o_fl rfl (qa (qh ?_))))
  refine o_or rfl ?_ ?_
  ·refine qn hE rfl Tryd.call18 (sub_c k (str ((((l ++ [32]) ++ q) ++ [32]) ++ (decW n))) _ (hM.get 2 rfl) hl_k (by show ((((l ++ [32]) ++ q) ++ [32]) ++ (decW n)).length ≤ _;have hl_ : ((((l ++ [32]) ++ q) ++ [32]) ++ (decW n)).length = l.length + ([32].length) + q.length + ([32].length) + ((decW n).length) := (by first | (simp;done) | (simp [*];done) | (simp;omega));have hdw := decW_len n hn;simp only [List.length_append,List.length_cons,List.length_nil];omega)) rfl ?_
   rintro e w5 ⟨rfl,hN⟩
   refine ⟨_,rfl,hN.sta0 _,fun a hE=>?_⟩
   replace hM : Mem _ _ w5 [_,_,_,_] := hM.call0 hN trivial;clear hN
   replace hE := hE.cast 18 rfl (show _ = Value.agg (bv (subW k ((((l ++ [32]) ++ q) ++ [32]) ++ (decW n)))).toArray from rfl)
   refine qa (qh (o_cut (fun _ => True) (o_re (o_fl rfl (qa (qh (o_fl rfl (qa (qh (vb (fun b => b = b8) (fun _ _ => trivial) ?_))))))))))
   refine o_or rfl ?_ ?_
   ·refine qr 0 hE rfl rfl hM rfl sz23 ((vh _).trans (subW_length k ((((l ++ [32]) ++ q) ++ [32]) ++ (decW n)))) (vc _) rfl ((vh _).trans (by first | (simp;done) | (simp [*];done) | (simp;omega))) rfl (by intro X h;cases h;rfl) fun w6 hM=>?_
    simp only [List.set_cons_zero,List.set_cons_succ] at hM
    exact qa (qh (o_cut (fun _ => True) (o_re (vb (fun _ => False) (fun _ _ => trivial) (va rfl rfl (qa (q_ph (qa (K2 (wp_ret (qi hE rfl (res_cellN rfl (hM.get 0 rfl) row23 rfl) ⟨(by first | rfl | (simp;done)),hM.pick [] rfl⟩)))))))))))
   trivial
  trivial
 trivial
theorem masked_c (k : List UInt8) (l : List UInt8) (n : Nat) (x : List UInt8) (w : World) (hG : (glb 1).holds w) (hT : tabP.holds w) (hl_k : k.length = 32) (hl_x : x.length = 32) (hn : n < 18446744073709551616) (hl : l.length ≤ 2000) : Calls Tryd.prog 41 #[.agg (bv k).toArray,.string (str l),.int .u64 (n : Int),.agg (bv x).toArray] w fun e w' => e = .returned (.agg (bv (wrapD k l n x)).toArray) ∧ Mem w [] w' [] := by
 have hM : Mem w [] w [glb 1,tabP] := Mem.startR w (fun g hg => by
  simp only [List.mem_cons,List.not_mem_nil,or_false] at hg
  rcases hg with rfl | rfl
  ·exact ⟨hG,rfl⟩
  ·exact ⟨hT,rfl⟩)
 refine ve 28 Tryd.func41 rfl rfl rfl ?_
 intro a hE
 replace hE : Env a 28 [(0,_),(1,_),(2,_),(3,_)] := hE
 refine ww1 fun _ K1=>wpp (s_box (ss := [bv k]) [32] hE hM rfl (by simp [Value.cells]) (by simp [*]) rfl fun a b4 w1 hE hM=>?_)
 refine s_box (ss := [bv x]) [32] hE hM rfl (by simp [Value.cells]) (by simp [*]) rfl fun a b7 w2 hE hM=>?_
 refine qo [32] hE hM zero23 rfl rfl fun a b8 w3 hE hM=>qa (K1 (ww1 fun _ K2=>wpp (ql hE rfl (hM.get 2 rfl) row23 rfl (by intro X h;cases h) rfl fun a hE=>?_)))
 refine sm hE rfl fun a hE=>sm hE rfl fun a hE=>?_
 refine qn hE rfl Tryd.call63 (bsub_c k l [112,97,100] n _ (hM.get 3 rfl) (hM.get 4 rfl) hl_k (by have hl_0 : k.length = 32 := hl_k;have hl_2 : [112,97,100].length = 3 := (by first | (simp;done) | (simp [*];done) | (simp;omega));first | omega | assumption | (simp;done) | (simp;omega) | decide) (by have hl_0 : k.length = 32 := hl_k;have hl_2 : [112,97,100].length = 3 := (by first | (simp;done) | (simp [*];done) | (simp;omega));first | omega | assumption | (simp;done) | (simp;omega) | decide) (by have hl_0 : k.length = 32 := hl_k;have hl_2 : [112,97,100].length = 3 := (by first | (simp;done) | (simp [*];done) | (simp;omega));first | omega | assumption | (simp;done) | (simp;omega) | decide)) rfl ?_
 rintro e w4 ⟨rfl,hN⟩
 refine ⟨_,rfl,trivial,fun a hE=>?_⟩
 replace hM : Mem _ _ w4 [_,_,_,_,_] := hM.call0 hN trivial;clear hN
 replace hE := hE.cast 14 rfl (show _ = Value.agg (bv (maskB k l n)).toArray from rfl)
 refine qo [32] hE hM zero23 rfl rfl fun a b9 w5 hE hM=>qr 0 hE rfl rfl hM rfl sz23 ((vh _).trans (maskB_len k l n)) (vc _) rfl ((vh _).trans (by first | (simp;done) | (simp [*];done) | (simp;omega))) rfl (by intro X h;cases h) fun w6 hM=>?_
 simp only [List.set_cons_zero,List.set_cons_succ] at hM
 refine qa (K2 (ww1 fun _ K3=>ww1 fun _ K4=>wpp (sm hE rfl fun a hE=>qa (K4 (wp_block ?_)))))
 replace hM : Mem _ _ w6 [_,_,_,_,_,_] := hM.pick [2,0,1,3,4,5] rfl
 replace hM := Mem.blkB (p := x) (q := xorI x (maskB k l n) 0) hM ((xorI_zero ..).symm)
 replace hM : Mem _ _ w6 [_,_,_,_,_,_] := hM.pick [1,2,0,3,4,5] rfl
 refine c_loop (fun (i : Nat) a w' => i ≤ 32 ∧ Env a 28 [(7,.pointer (some ⟨b7,0,none⟩)),(8,.pointer (some ⟨b8,0,none⟩)),(9,.pointer (some ⟨b9,0,none⟩)),(15,.int .i64 ((i : Nat) : Int))] ∧ Mem w [] w' [blk b9 [bv (maskB k l n)] [32] 23,blk b8 [bv (List.replicate 32 (0 : UInt8))] [32] 23,blk b7 [bv (xorI x (maskB k l n) i)] [32] 23,blk b4 [bv k] [32] 23,glb 1,tabP]) (fun i => 32 - i) 0 ⟨Nat.zero_le _,hE.sel [7,8,9,15] rfl,hM⟩ ?_
 rintro i a w7 ⟨hi,hE,hM⟩
 refine ww1 fun _ K5=>wpp (sb hE rfl rfl bin_lss fun a hE=>qa (K5 (ww1 fun _ K6=>?_)))
 refine hE.split 16 rfl (fun hb16 hE=>?_) (fun hb16 hE=>?_)
 ·replace hb16 := of_decide_eq_true hb16
  replace hb16 : i < 32 := by omega
  replace hb16 : i < 32 := by omega
  refine wct hE rfl (wp_skip (K6 (ww1 fun _ K7=>wp_block (ww1 fun _ K8=>wpp (sm hE rfl fun a hE=>sas hE rfl fun a hE=>qa ?_)))))
  refine K8 (qz hM (by kernel_rfl) (fun _ => True) (fun _ => True) (.re [(0,true),(1,true),(3,true),(4,true),(2,true),(5,true),(6,true),(7,true),(8,false)] (.fl 4 (.weak (.fl 4 (.cut (.or 8 (.cut (.re [] (.weak (.leaf 0)))) (.stop))))))) [(0,true),(1,true),(3,true),(4,true),(2,true),(5,true),(6,true),(7,true),(8,false)] [(1,[(2,1),(6,2),(7,1),(8,1)]),(2,[(6,2),(7,2),(8,2)]),(4,[(5,4),(6,5),(7,4),(8,4)]),(5,[(6,5),(7,5),(8,5)]),(6,[(7,6),(8,6)]),(7,[(8,7)]),(8,[])] (by kernel_rfl) ?_)
  intro w8 hM' hww8;replace hM := hM'
  refine o_re (o_fl rfl (sm hE rfl fun a hE=>qp (j := i) hE rfl rfl arr23 (by first | rfl | omega) (by first | omega | decide) rfl fun a hE=>?_))
  refine sm hE rfl fun a hE=>qp (j := i) hE rfl rfl arr23 (by first | rfl | omega) (by first | omega | decide) rfl fun a hE=>?_
  refine qa (qh (vb (fun _ => False) (fun _ _ => trivial) (o_fl rfl ?_)))
  refine qy (j := i) hE rfl (by omega) (hM.get 2 rfl) (bv_get (by have hl_ : (xorI x (maskB k l n) i).length = 32 := ((xorI_length (hl_x.trans (maskB_len ..).symm) _).trans hl_x);first | omega | (rw [vh];omega) | (simp;omega))) one5 (by intro X h;cases h;simp) rfl fun a hE=>?_
  refine qy (j := i) hE rfl (by omega) (hM.get 0 rfl) (bv_get (by have hl_ : (maskB k l n).length = 32 := (maskB_len k l n);first | omega | (rw [vh];omega) | (simp;omega))) one5 (by intro X h;cases h;simp) rfl fun a hE=>?_
  refine sb hE rfl rfl (bin_xor8 (x := (xorI x (maskB k l n) i).getD i 0) (y := (maskB k l n).getD i 0)) fun a hE=>qp (j := i) hE rfl rfl arr23 (by first | rfl | omega) (by first | omega | decide) rfl fun a hE=>?_
  refine qa (qh (o_cut (fun b => b = b7) ?_))
  refine o_or rfl ?_ ?_
  ·replace hM : Mem _ _ w8 [_,_,_,_,_,_] := hM.pick [2,0,1,3,4,5] rfl
   refine s_storeIdx (j := i) hE rfl (by omega) rfl hM rfl rfl sz5 (by have hl_ : (xorI x (maskB k l n) i).length = 32 := ((xorI_length (hl_x.trans (maskB_len ..).symm) _).trans hl_x);first | omega | (rw [vh];omega) | (simp;omega)) (by intro X h;cases h;rfl) ?_;intro w9 hM
   first | rw [bv_set'] at hM | rw [bv_setI] at hM
   refine qa (qh (o_cut (fun _ => True) (o_re (vb (fun _ => False) (fun _ _ => trivial) (va rfl rfl (qa (q_ph (qa (qe (K7 (wpp (sb hE rfl rfl (show Bin _ _ _ _ _ (.int .i64 ((i + 1 : Nat) : Int)) from bin_add (by rw [wrap_i64 (by omega) (by omega)];omega)) fun a hE=>?_))))))))))))
   refine sm hE rfl fun a hE=>qa ?_
   replace hE := hE.cast 15 rfl (show _ = Value.int .i64 (((i + 1) : Nat) : Int) from (congrArg _ (by omega)))
   replace hM := Mem.blkB (p := (xorI x (maskB k l n) i).set i (((xorI x (maskB k l n) i).getD i 0) ^^^ ((maskB k l n).getD i 0))) (q := xorI x (maskB k l n) (i + 1)) hM (by rw [xorI_get (hl_x.trans (maskB_len ..).symm) (by omega)];exact xorI_set (hl_x.trans (maskB_len ..).symm) (by omega))
   replace hM : Mem _ _ w9 [_,_,_,_,_,_] := hM.pick [0,1,2,3,4,5] rfl
   replace hM : Mem _ _ w9 [_,_,_,_,_,_] := hM.pick [1,2,0,3,4,5] rfl
   exact ⟨i + 1,⟨by omega,hE.sel [7,8,9,15] rfl,hM⟩,by omega⟩
  trivial
 ·replace hb16 := of_decide_eq_false hb16
  replace hb16 : ¬ (i < 32) := by omega
  obtain rfl : 32 = i := by omega
  replace hM : Mem _ _ w7 [_,_,_,_,_,_] := hM.pick [2,0,1,3,4,5] rfl
  replace hM := Mem.blkB (p := xorI x (maskB k l n) 32) (q := wrapD k l n x) hM (by rw [← hl_x,xorI_all (hl_x.trans (maskB_len ..).symm)];rfl)
  refine wcf hE rfl (wp_exit (qc (qc (qg (K3 (ww1 fun _ K7=>wpp (ql hE rfl (hM.get 0 rfl) row23 rfl (by intro X h;cases h) rfl fun a hE=>?_)))))))
  replace hM : Mem _ _ w7 [_,_,_,_,_,_] := hM.pick [2,0,1,3,4,5] rfl
  refine qr 0 hE rfl rfl hM rfl sz23 ((vh _).trans (wrapD_len hl_x)) (vc _) rfl ((vh _).trans (by first | (simp;done) | (simp [*];done) | (simp;omega))) rfl (by intro X h;cases h) fun w8 hM=>?_
  simp only [List.set_cons_zero,List.set_cons_succ] at hM
  exact qa (K7 (wp_ret (qi hE rfl (res_cellN rfl (hM.get 0 rfl) row23 rfl) ⟨(by first | rfl | (simp;done)),hM.pick [] rfl⟩)))
theorem tag_c (k : List UInt8) (l : List UInt8) (n : Nat) (x : List UInt8) (w : World) (hG : (glb 1).holds w) (hT : tabP.holds w) (hl_k : k.length = 32) (hl_x : x.length = 32) (hn : n < 18446744073709551616) (hl : l.length ≤ 2000) : Calls Tryd.prog 42 #[.agg (bv k).toArray,.string (str l),.int .u64 (n : Int),.agg (bv x).toArray] w fun e w' => e = .returned (.agg (bv (tagB k l n x)).toArray) ∧ Mem w [] w' [] := by
 have hM : Mem w [] w [glb 1,tabP] := Mem.startR w (fun g hg => by
  simp only [List.mem_cons,List.not_mem_nil,or_false] at hg
  rcases hg with rfl | rfl
  ·exact ⟨hG,rfl⟩
  ·exact ⟨hT,rfl⟩)
 refine ve 25 Tryd.func42 rfl rfl rfl ?_
 intro a hE
 replace hE : Env a 25 [(0,_),(1,_),(2,_),(3,_)] := hE
 refine ww1 fun _ K1=>wpp (s_box (ss := [bv k]) [32] hE hM rfl (by simp [Value.cells]) (by simp [*]) rfl fun a b4 w1 hE hM=>?_)
 refine s_box (ss := [bv x]) [32] hE hM rfl (by simp [Value.cells]) (by simp [*]) rfl fun a b7 w2 hE hM=>?_
 refine qo [32] hE hM zero27 rfl rfl fun a b8 w3 hE hM=>qa (K1 (ww1 fun _ K2=>wpp (ql hE rfl (hM.get 2 rfl) row23 rfl (by intro X h;cases h) rfl fun a hE=>?_)))
 refine sm hE rfl fun a hE=>sm hE rfl fun a hE=>?_
 refine qn hE rfl Tryd.call63 (bsub_c k l [115,101,97,108] n _ (hM.get 3 rfl) (hM.get 4 rfl) hl_k (by have hl_0 : k.length = 32 := hl_k;have hl_2 : [115,101,97,108].length = 4 := (by first | (simp;done) | (simp [*];done) | (simp;omega));first | omega | assumption | (simp;done) | (simp;omega) | decide) (by have hl_0 : k.length = 32 := hl_k;have hl_2 : [115,101,97,108].length = 4 := (by first | (simp;done) | (simp [*];done) | (simp;omega));first | omega | assumption | (simp;done) | (simp;omega) | decide) (by have hl_0 : k.length = 32 := hl_k;have hl_2 : [115,101,97,108].length = 4 := (by first | (simp;done) | (simp [*];done) | (simp;omega));first | omega | assumption | (simp;done) | (simp;omega) | decide)) rfl ?_
 rintro e w4 ⟨rfl,hN⟩
 refine ⟨_,rfl,trivial,fun a hE=>?_⟩
 replace hM : Mem _ _ w4 [_,_,_,_,_] := hM.call0 hN trivial;clear hN
 replace hE := hE.cast 15 rfl (show _ = Value.agg (bv (sealB k l n)).toArray from rfl)
 refine qo [32] hE hM zero23 rfl rfl fun a b9 w5 hE hM=>qr 0 hE rfl rfl hM rfl sz23 ((vh _).trans (sealB_len k l n)) (vc _) rfl ((vh _).trans (by first | (simp;done) | (simp [*];done) | (simp;omega))) rfl (by intro X h;cases h) fun w6 hM=>?_
 simp only [List.set_cons_zero,List.set_cons_succ] at hM
 refine qa (K2 (ww1 fun _ K3=>wpp (s_sliceArr (l := 0) (h := 32) (mx' := 32) hE rfl arr23 rfl rfl rfl (by simp) (by omega) (by omega) (by omega) rfl fun a hE=>?_)))
 replace hE := hE.cast 17 rfl (show _ = Value.slice (some ⟨b7,0,none⟩) 32 32 from rfl)
 refine qv (xs := [.tmp 17]) ([.slice (some ⟨b7,0,none⟩) 32 32]) hE hM sl117 rfl rfl rfl (by intro v hv;rw [List.mem_singleton.1 hv];rfl) (by first | (simp [];done) | (simp [Value.cells];done)) rfl rfl rfl fun a v18 w7 hE hM=>?_
 obtain ⟨cl1,hl1⟩ := own_rd (hM.get 0 rfl)
 refine qn hE rfl Tryd.call64 ((by have h := brow_c 66 _ [x] _ _ _ _ hl1 (rdv_cons (p := x) (rd_of_arr (hM.get 3 rfl) hl_x) (rdv_nil _)) (by have hl_ : x.length = 32 := hl_x;simp [rowBytes];omega);rw [plT_ok] at h;exact h)) rfl ?_
 rintro e w8 ⟨v19,rfl,hN⟩
 refine ⟨_,rfl,trivial,fun a hE=>?_⟩
 replace hM : Mem _ _ w8 [_,_,_,_,_,_,_,_] := hM.call0 hN ⟨rfl,trivial⟩;clear hN
 refine sm hE rfl fun a hE=>sx hE rfl fun a hE=>sx hE rfl fun a hE=>sas hE rfl fun a hE=>sas hE rfl fun a hE=>qa (K3 (ww1 fun _ K4=>wpp (s_sliceArr (l := 0) (h := 32) (mx' := 32) hE rfl arr23 rfl rfl rfl (by simp) (by omega) (by omega) (by omega) rfl fun a hE=>?_)))
 replace hE := hE.cast 22 rfl (show _ = Value.slice (some ⟨b9,0,none⟩) 32 32 from rfl)
 refine sm hE rfl fun a hE=>?_
 obtain ⟨cq2,hq2⟩ := own_rd (hM.get 0 rfl)
 refine qn hE rfl Tryd.call45 (of_c _ _ (sealB k l n) (plT 66 x) _ _ _ (hM.get 6 rfl) (rd_of_arr (hM.get 2 rfl) (sealB_len k l n)) hq2 (by have hl_q : (sealB k l n).length = 32 := (sealB_len k l n);first | omega | assumption | (simp;done) | (simp;omega) | decide) (by have hl_q : (plT 66 x).length = 6 + 32 := ((plT_len 66 x).trans (by have hl_ : x.length = 32 := hl_x;omega));first | omega | assumption | (simp;done) | (simp;omega) | decide)) rfl ?_
 rintro e w9 ⟨rfl,hN⟩
 refine ⟨_,rfl,trivial,fun a hE=>?_⟩
 replace hM : Mem _ _ w9 [_,_,_,_,_,_,_,_] := hM.call0 hN trivial;clear hN
 replace hM : Mem _ _ w9 [_,_,_,_,_,_,_,_] := hM.pick [3,0,1,2,4,5,6,7] rfl
 refine qr 0 hE rfl rfl hM rfl sz27 ((vh _).trans (hmacW_length ..)) (vc _) rfl ((vh _).trans (by first | (simp;done) | (simp [*];done) | (simp;omega))) rfl (by intro X h;cases h) fun w10 hM=>?_
 simp only [List.set_cons_zero,List.set_cons_succ] at hM
 exact qa (K4 (wp_ret (qi hE rfl (res_cellN rfl (hM.get 0 rfl) row27 rfl) ⟨(by first | rfl | (simp;done)),hM.pick [] rfl⟩)))
theorem wrap_c (k : List UInt8) (l : List UInt8) (n : Nat) (x : List UInt8) (w : World) (hG : (glb 1).holds w) (hT : tabP.holds w) (hl_k : k.length = 32) (hl_x : x.length = 32) (hn : n < 18446744073709551616) (hl : l.length ≤ 2000) : Calls Tryd.prog 14 #[.agg (bv k).toArray,.string (str l),.int .u64 (n : Int),.agg (bv x).toArray] w fun e w' => e = .returned (.agg ([bv (wrapD k l n x),bv (tagB k l n (wrapD k l n x))] : List (List Value)).flatten.toArray) ∧ Mem w [] w' [] := by
 have hM : Mem w [] w [glb 1,tabP] := Mem.startR w (fun g hg => by
  simp only [List.mem_cons,List.not_mem_nil,or_false] at hg
  rcases hg with rfl | rfl
  ·exact ⟨hG,rfl⟩
  ·exact ⟨hT,rfl⟩)
 refine ve 22 Tryd.func14 rfl rfl rfl ?_
 intro a hE
 replace hE : Env a 22 [(0,_),(1,_),(2,_),(3,_)] := hE
 refine ww1 fun _ K1=>wpp (s_box (ss := [bv k]) [32] hE hM rfl (by simp [Value.cells]) (by simp [*]) rfl fun a b4 w1 hE hM=>?_)
 refine s_box (ss := [bv x]) [32] hE hM rfl (by simp [Value.cells]) (by simp [*]) rfl fun a b7 w2 hE hM=>?_
 refine qo [32,32] hE hM zero29 rfl rfl fun a b8 w3 hE hM=>qa (K1 (ww1 fun _ K2=>wpp (ql hE rfl (hM.get 2 rfl) row23 rfl (by intro X h;cases h) rfl fun a hE=>?_)))
 refine sm hE rfl fun a hE=>sm hE rfl fun a hE=>ql hE rfl (hM.get 1 rfl) row23 rfl (by intro X h;cases h) rfl fun a hE=>?_
 refine qn hE rfl Tryd.call41 (masked_c k l n x _ (hM.get 3 rfl) (hM.get 4 rfl) hl_k hl_x (by have hl_0 : k.length = 32 := hl_k;have hl_3 : x.length = 32 := hl_x;first | omega | assumption | (simp;done) | (simp;omega) | decide) (by have hl_0 : k.length = 32 := hl_k;have hl_3 : x.length = 32 := hl_x;first | omega | assumption | (simp;done) | (simp;omega) | decide)) rfl ?_
 rintro e w4 ⟨rfl,hN⟩
 refine ⟨_,rfl,trivial,fun a hE=>?_⟩
 replace hM : Mem _ _ w4 [_,_,_,_,_] := hM.call0 hN trivial;clear hN
 refine qo [32] hE hM zero23 rfl rfl fun a b9 w5 hE hM=>qr 0 hE rfl rfl hM rfl sz23 ((vh _).trans (wrapD_len (k := k) (l := l) (n := n) (x := x) (by have hl_ax : x.length = 32 := hl_x;first | assumption | (simp;done)))) (vc _) rfl ((vh _).trans (by first | (simp;done) | (simp [*];done) | (simp;omega))) rfl (by intro X h;cases h) fun w6 hM=>?_
 simp only [List.set_cons_zero,List.set_cons_succ] at hM
 refine qa (K2 (ww1 fun _ K3=>qz hM (by kernel_rfl) (fun _ => True) (fun _ => True) (.re [(2,true),(3,true),(0,true),(1,true),(4,true),(5,false),(6,true),(7,false)] (.fl 2 (.weak (.fl 3 (.or 5 (.cut (.re [(6,true),(7,false)] (.fl 1 (.fl 0 (.weak (.or 7 (.cut (.re [] (.weak (.leaf 0)))) (.stop))))))) (.stop)))))) [(2,true),(3,true),(0,true),(1,true),(4,true),(5,false),(6,true),(7,false)] [(0,[(6,0),(7,0)]),(1,[(5,1),(6,5),(7,1)]),(4,[(5,4),(6,5),(7,4)]),(5,[(6,5),(7,5)]),(6,[(7,6)]),(7,[])] (by kernel_rfl) ?_))
 intro w7 hM' hww7;replace hM := hM'
 refine o_re (o_fl rfl (sm hE rfl fun a hE=>sm hE rfl fun a hE=>qa (qh (vb (fun _ => False) (fun _ _ => trivial) (o_fl rfl (ql hE rfl (hM.get 0 rfl) row23 rfl (by intro X h;cases h;simp) rfl fun a hE=>?_))))))
 refine ql hE rfl (hM.get 3 rfl) row23 rfl (by intro X h;cases h;simp) rfl fun a hE=>?_
 refine ql hE rfl (hM.get 0 rfl) row23 rfl (by intro X h;cases h;simp) rfl fun a hE=>?_
 refine qa (qh ?_)
 refine o_or rfl ?_ ?_
 ·refine qn hE rfl Tryd.call42 (tag_c k l n (wrapD k l n x) _ (hM.get 4 rfl) (hM.get 5 rfl) hl_k (wrapD_len (k := k) (l := l) (n := n) (x := x) (by have hl_ax : x.length = 32 := hl_x;first | assumption | (simp;done))) (by have hl_0 : k.length = 32 := hl_k;have hl_3 : (wrapD k l n x).length = 32 := (wrapD_len (k := k) (l := l) (n := n) (x := x) (by have hl_ax : x.length = 32 := hl_x;first | assumption | (simp;done)));first | omega | assumption | (simp;done) | (simp;omega) | decide) (by have hl_0 : k.length = 32 := hl_k;have hl_3 : (wrapD k l n x).length = 32 := (wrapD_len (k := k) (l := l) (n := n) (x := x) (by have hl_ax : x.length = 32 := hl_x;first | assumption | (simp;done)));first | omega | assumption | (simp;done) | (simp;omega) | decide)) rfl ?_
  rintro e w8 ⟨rfl,hN⟩
  refine ⟨_,rfl,hN.sta0 _,fun a hE=>?_⟩
  replace hM : Mem _ _ w8 [_,_,_,_,_,_] := hM.call0 hN trivial;clear hN
  refine qa (qh (o_cut (fun _ => True) (o_re (o_fl rfl ?_))))
  have hbq59_0 : (wrapD k l n x).length = 32 := (wrapD_len (k := k) (l := l) (n := n) (x := x) (by have hl_ax : x.length = 32 := hl_x;first | assumption | (simp;done)))
  have hbq59_1 : (tagB k l n (wrapD k l n x)).length = 32 := (tagB_len k l n (wrapD k l n x))
  refine vf [bv (wrapD k l n x),bv (tagB k l n (wrapD k l n x))] hE rfl zero29 rfl fpl29 (by first | (simp [PartsOk,Value.cells,hbq59_0,hbq59_1];done) | (simp [PartsOk,Value.cells, *];done)) rfl fun a hE=>?_
  replace hE := hE.cast 21 rfl (show _ = Value.agg ([bv (wrapD k l n x),bv (tagB k l n (wrapD k l n x))] : List (List Value)).flatten.toArray from (by first | rfl | simp [setAll]))
  refine qa (qh (o_fl rfl (qa (qh (vb (fun b => b = b8) (fun _ _ => trivial) ?_)))))
  refine o_or rfl ?_ ?_
  ·replace hM : Mem _ _ w8 [_,_,_,_,_,_] := hM.pick [1,0,2,3,4,5] rfl
   refine qq 0 2 (vss := [bv (wrapD k l n x),bv (tagB k l n (wrapD k l n x))]) hE rfl rfl hM rfl sz29 (by have hl_s0 : (wrapD k l n x).length = 32 := (wrapD_len (k := k) (l := l) (n := n) (x := x) (by have hl_ax : x.length = 32 := hl_x;first | assumption | (simp;done)));have hl_s1 : (tagB k l n (wrapD k l n x)).length = 32 := (tagB_len k l n (wrapD k l n x)); simp only [List.map_cons,List.map_nil,vh,List.length_cons,List.length_nil,List.take_succ_cons,List.take_zero,List.drop_zero,List.drop_succ_cons,hl_s0,hl_s1]) (by decide) rfl (one_fl ⟨vc _,vc _,trivial⟩) rfl (by intro X h;cases h;rfl) ?_;intro w9 hM
   simp only [List.take_zero,List.take_succ_cons,List.drop_zero,List.drop_succ_cons,List.take_nil,List.drop_nil,List.nil_append,List.append_nil,List.cons_append] at hM
   exact qa (qh (o_cut (fun _ => True) (o_re (vb (fun _ => False) (fun _ _ => trivial) (va rfl rfl (qa (q_ph (qa (K3 (wp_ret (qi hE rfl (res_cellN rfl (hM.get 0 rfl) row29 rfl) ⟨(by first | (simp only [List.flatten_cons,List.flatten_nil,List.append_nil,List.append_assoc];done) | (simp only [tagB,List.flatten_cons,List.flatten_nil,List.append_nil,List.append_assoc];done) | rfl),hM.pick [] rfl⟩)))))))))))
  trivial
 trivial
theorem unwrap_c (k : List UInt8) (l : List UInt8) (n : Nat) (d : List UInt8) (t : List UInt8) (w : World) (hG : (glb 1).holds w) (hT : tabP.holds w) (hl_k : k.length = 32) (hl_d : d.length = 32) (hl_t : t.length = 32) (hn : n < 18446744073709551616) (hl : l.length ≤ 2000) : Calls Tryd.prog 16 #[.agg (bv k).toArray,.string (str l),.int .u64 (n : Int),.agg ([bv d,bv t] : List (List Value)).flatten.toArray] w fun e w' => e = .returned (.tuple #[.agg (bv (unwK k l n d t)).toArray,.int .i64 ((unwE k l n d t : Nat) : Int)]) ∧ Mem w [] w' [] := by
 have hM : Mem w [] w [glb 1,tabP] := Mem.startR w (fun g hg => by
  simp only [List.mem_cons,List.not_mem_nil,or_false] at hg
  rcases hg with rfl | rfl
  ·exact ⟨hG,rfl⟩
  ·exact ⟨hT,rfl⟩)
 refine ve 27 Tryd.func16 rfl rfl rfl ?_
 intro a hE
 replace hE : Env a 27 [(0,_),(1,_),(2,_),(3,_)] := hE
 refine ww1 fun _ K1=>wpp (s_box (ss := [bv k]) [32] hE hM rfl (by simp [Value.cells]) (by simp [*]) rfl fun a b4 w1 hE hM=>?_)
 refine s_box (ss := [bv d,bv t]) [32,32] hE hM rfl rfl (by simp [*]) rfl fun a b7 w2 hE hM=>?_
 refine qo [32] hE hM zero23 rfl rfl fun a b8 w3 hE hM=>sas hE rfl fun a hE=>qa (K1 (ww1 fun _ K2=>ww1 fun _ K3=>wp_drawnM hM (by kernel_rfl) (fun _ => False) [(0,true),(1,true),(2,true),(3,true),(4,true),(6,true),(7,true),(5,false),(8,false),(9,true)] [(5,[(8,5),(9,8)]),(8,[(9,8)])] (by kernel_rfl) rfl ?_))
 intro w4 hM' hww4;replace hM := hM'
 refine ql hE rfl (hM.get 2 rfl) row23 rfl (by intro X h;cases h;simp) rfl fun a hE=>?_
 refine sm hE rfl fun a hE=>sm hE rfl fun a hE=>sf hE rfl fo29_0 fun a hE=>ql hE rfl (hM.get 1 rfl) row23 rfl (by intro X h;cases h;simp) rfl fun a hE=>?_
 refine sf hE rfl fo29_1 fun a hE=>ql hE rfl (hM.get 1 rfl) row27 rfl (by intro X h;cases h;simp) rfl fun a hE=>?_
 refine qn hE rfl Tryd.call42 (tag_c k l n d _ (hM.get 3 rfl) (hM.get 4 rfl) hl_k hl_d (by have hl_0 : k.length = 32 := hl_k;have hl_3 : d.length = 32 := hl_d;first | omega | assumption | (simp;done) | (simp;omega) | decide) (by have hl_0 : k.length = 32 := hl_k;have hl_3 : d.length = 32 := hl_d;first | omega | assumption | (simp;done) | (simp;omega) | decide)) rfl ?_
 rintro e w5 ⟨rfl,hN⟩
 refine ⟨_,rfl,hN.sta0 _,fun a hE=>?_⟩
 replace hM : Mem _ _ w5 [_,_,_,_,_] := hM.call0 hN trivial;clear hN
 refine qn hE rfl Tryd.call43 (same_c (tagB k l n d) t _ (tagB_len k l n d) hl_t) rfl ?_
 rintro e w6 ⟨rfl,hN⟩
 refine ⟨_,rfl,hN.sta0 _,fun a hE=>?_⟩
 replace hM : Mem _ _ w6 [_,_,_,_,_] := hM.call0 hN trivial;clear hN
 refine s_not hE rfl rfl fun a hE=>qa (K3 ?_)
 refine hE.split 19 rfl (fun hb19 hE=>?_) (fun hb19 hE=>?_)
 ·replace hb19 := of_decide_eq_false (not_true hb19)
  refine wct hE rfl (ww1 fun _ K4=>wpp (s_build (r := .agg (bv (List.replicate 32 (0 : UInt8))).toArray) _ hE rfl (fun w => by kernel_rfl) rfl fun a hE=>?_))
  refine qr 0 hE rfl rfl hM rfl sz23 ((vh _).trans (by first | (simp;done) | (simp [*];done) | (simp;omega))) (vc _) rfl ((vh _).trans (by first | (simp;done) | (simp [*];done) | (simp;omega))) rfl (by intro X h;cases h) fun w7 hM=>?_
  simp only [List.set_cons_zero,List.set_cons_succ] at hM
  exact sas hE rfl fun a hE=>qa (K4 (wp_ret (qb (qj hE rfl (res_cellN rfl (hM.get 0 rfl) row23 rfl) rfl ⟨(by first | (simp [unwK,unwE,unwB,hb19];done) | (simp [unwK,unwE,unwB,tagB,hb19];done)),hM.pick [] rfl⟩))))
 ·replace hb19 := of_decide_eq_true (not_false' hb19)
  refine wcf hE rfl (wp_skip (K2 (ww1 fun _ K4=>wpp (ql hE rfl (hM.get 2 rfl) row23 rfl (by intro X h;cases h) rfl fun a hE=>?_))))
  refine sm hE rfl fun a hE=>sm hE rfl fun a hE=>sf hE rfl fo29_0 fun a hE=>ql hE rfl (hM.get 1 rfl) row23 rfl (by intro X h;cases h) rfl fun a hE=>?_
  refine qn hE rfl Tryd.call41 (masked_c k l n d _ (hM.get 3 rfl) (hM.get 4 rfl) hl_k hl_d (by have hl_0 : k.length = 32 := hl_k;have hl_3 : d.length = 32 := hl_d;first | omega | assumption | (simp;done) | (simp;omega) | decide) (by have hl_0 : k.length = 32 := hl_k;have hl_3 : d.length = 32 := hl_d;first | omega | assumption | (simp;done) | (simp;omega) | decide)) rfl ?_
  rintro e w7 ⟨rfl,hN⟩
  refine ⟨_,rfl,trivial,fun a hE=>?_⟩
  replace hM : Mem _ _ w7 [_,_,_,_,_] := hM.call0 hN trivial;clear hN
  refine qr 0 hE rfl rfl hM rfl sz23 ((vh _).trans (wrapD_len (k := k) (l := l) (n := n) (x := d) (by have hl_ax : d.length = 32 := hl_d;first | assumption | (simp;done)))) (vc _) rfl ((vh _).trans (by first | (simp;done) | (simp [*];done) | (simp;omega))) rfl (by intro X h;cases h) fun w8 hM=>?_
  simp only [List.set_cons_zero,List.set_cons_succ] at hM
  exact sas hE rfl fun a hE=>qa (K4 (wp_ret (qj hE rfl (res_cellN rfl (hM.get 0 rfl) row23 rfl) rfl ⟨(by first | (simp [unwK,unwE,unwB,hb19];done) | (simp [unwK,unwE,unwB,tagB,hb19];done)),hM.pick [] rfl⟩)))
end Go.Proofs.YtniekapfoaiieaaDoor
