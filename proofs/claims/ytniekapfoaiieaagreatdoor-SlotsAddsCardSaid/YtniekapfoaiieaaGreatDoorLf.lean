/- Walks of functions of the given program that the claim reaches. -/
import Derived.Test.YtniekapfoaiieaaGreatDoorLr
set_option linter.unusedSimpArgs false
set_option linter.unusedVariables false
namespace Go.Proofs.YtniekapfoaiieaaGreatDoor
open Go Go.Kx
theorem zero127 : Zero Tryz.prog 127 [bv (List.replicate 24 0)] := ⟨.agg ([bv (List.replicate 24 0)] : List (List Value)).flatten.toArray,by kernel_rfl,by kernel_rfl⟩
theorem arr127 : arrT Tryz.prog 127 = some (24,1) := by kernel_rfl
theorem zero29 : Zero Tryz.prog 29 [bv (List.replicate 32 0),bv (List.replicate 32 0)] := ⟨.agg ([bv (List.replicate 32 0),bv (List.replicate 32 0)] : List (List Value)).flatten.toArray,by kernel_rfl,by kernel_rfl⟩
theorem fpl29 : fldPl Tryz.prog 29 = some (plc 0 [32,32]) := by kernel_rfl
theorem sz29 : (Tryz.prog.info? 29).map (·.size) = some 64 := by kernel_rfl
theorem row29 : RowT Tryz.prog 29 64 := RowT.of Tryz.underlying29 rfl (by kernel_rfl)
theorem fo29_0 : fieldOff Tryz.prog 29 0 = some 0 := by kernel_rfl
theorem fo29_1 : fieldOff Tryz.prog 29 1 = some 32 := by kernel_rfl
theorem eqa27 : ∀ {a b : List UInt8},a.length = 32 → b.length = 32 → Bin Tryz.prog .eql 27 (.agg (bv a).toArray) (.agg (bv b).toArray) (.bool (decide (a = b))) ∧ Bin Tryz.prog .neq 27 (.agg (bv a).toArray) (.agg (bv b).toArray) (.bool (!decide (a = b))) := fun ha hb => bins_arr8 Tryz.underlying27 (by kernel_rfl) Tryz.underlying5 (by kernel_rfl) (by kernel_rfl) ha hb
def tabP : Ent := tabE Tryz.prog 0 "internal/strconv.uint64pow10" .u64 Lib.pow10Tab
theorem fsmall_c (n : Nat) (w : World) (h : n < 100) : Calls Tryz.prog 79 #[.int .i64 n] w fun e w' => e = .returned (.string (str (decW n))) ∧ Mem w [] w' [] := (Tryz.internal_strconv_small n h w).mono fun e w' h => ⟨h.1,h.2 ▸ Mem.start0 w⟩
theorem ndig_c (n : Nat) (w : World) (hT : tabP.holds w) (h1 : 1 ≤ n) (h2 : n < 18446744073709551616) : Calls Tryz.prog 80 #[.int .u64 n] w fun e w' => e = .returned (.int .i64 ((Lib.nDigits n : Nat) : Int)) ∧ Mem w [] w' [] := (Tryz.internal_strconv_numDigits n h1 h2 w hT.2.2).mono fun e w' h => ⟨h.1,h.2 ▸ Mem.start0 w⟩
theorem fmtB_c (b T nd u : Nat) (old : List UInt8) (w : World) (hB : (blk b [bv old] [24] T).holds w) (hl : old.length = 24) (hn : nd ≤ 24) (hu : u < 10 ^ nd) (h64 : u < 18446744073709551616) : Calls Tryz.prog 81 #[.slice (some ⟨b,0,none⟩) nd 24,.int .u64 u] w fun e w' => e = .returned (.tuple #[]) ∧ Mem w [b] w' [blk b [bv (digsN u nd ++ old.drop nd)] [24] T] := by
 have hs : (old.take nd).toArray.size = nd := by simp [hl];omega
 have h := Tryz.internal_strconv_formatBase10 b 0 24 u (old.take nd).toArray w (holds_of_blk hB hl hn) (by rw [hs];exact hu) h64 (by omega)
 rw [hs] at h
 refine h.mono ?_
 rintro e w' ⟨rfl,m,v',dk,rfl,hI⟩
 exact ⟨rfl,putRow_blk hB hl hn hI⟩
theorem ifmt_c (n : Nat) (w : World) (hG : (glb 1).holds w) (hT : tabP.holds w) (hn : n < 18446744073709551616) : Calls Tryz.prog 69 #[.int .u64 (n : Int),.int .i64 10] w fun e w' => e = .returned (.string (str (decW n))) ∧ Mem w [] w' [] := by
 have hnd := Lib.nDigits_le20 n hn
 have hd24 : (digsN n (Lib.nDigits n) ++ (List.replicate 24 (0 : UInt8)).drop (Lib.nDigits n)).length = 24 := by simp [digsN_len];omega
 have hM : Mem w [] w [glb 1,tabP] := Mem.startR w (fun g hg => by
  simp only [List.mem_cons,List.not_mem_nil,or_false] at hg
  rcases hg with rfl | rfl
  ·exact ⟨hG,rfl⟩
  ·exact ⟨hT,rfl⟩)
 refine vf 32 Tryz.func69 rfl rfl rfl ?_
 intro a hE
 replace hE : Env a 32 [(0,_),(1,_)] := hE
 refine ww1 fun _ K1=>wpp (sas hE rfl fun a hE=>qa (K1 (ww1 fun _ K2=>ww1 fun _ K3=>wpp (sm hE rfl fun a hE=>sb hE rfl rfl bin_eql fun a hE=>?_))))
 replace hE := hE.cast 10 rfl (show _ = Value.bool true from (congrArg Value.bool (by decide)))
 refine qa (K3 (wct hE rfl (ww1 fun _ K4=>ww1 fun _ K5=>wpp (sm hE rfl fun a hE=>sb hE rfl rfl bin_lss fun a hE=>qa (K5 ?_)))))
 refine hE.split 12 rfl (fun hb12 hE=>?_) (fun hb12 hE=>?_)
 ·replace hb12 := of_decide_eq_true hb12
  replace hb12 : n < 100 := by omega
  refine wct hE rfl (ww1 fun _ K6=>wpp (sm hE rfl fun a hE=>qx hE rfl (cnv_int Tryz.underlying24 Tryz.underlying3 (wrap_i64 (by omega) (by omega))) rfl fun a hE=>?_))
  refine qn hE rfl Tryz.call79 (fsmall_c n _ (by omega)) rfl ?_
  rintro e w1 ⟨rfl,hN⟩
  refine ⟨_,rfl,trivial,fun a hE=>?_⟩
  replace hM : Mem _ _ w1 [_,_] := hM.call0 hN trivial;clear hN
  exact sas hE rfl fun a hE=>qa (K6 (wp_ret (qb (qb (qi hE rfl rfl ⟨(by first | rfl | (rw [List.take_left' (digsN_len ..),digsN_dec])),hM.pick [] rfl⟩)))))
 ·replace hb12 := of_decide_eq_false hb12
  replace hb12 : ¬ (n < 100) := by omega
  refine wcf hE rfl (wp_skip (K4 (ww1 fun _ K6=>wpp (qo [24] hE hM zero127 rfl rfl fun a b5 w1 hE hM=>qa (K6 (ww1 fun _ K7=>wpp ?_))))))
  refine sm hE rfl fun a hE=>qn hE rfl Tryz.call80 (ndig_c n _ (hM.get 2 rfl) (by omega) (by omega)) rfl ?_
  rintro e w2 ⟨rfl,hN⟩
  refine ⟨_,rfl,trivial,fun a hE=>?_⟩
  replace hM : Mem _ _ w2 [_,_,_] := hM.call0 hN trivial;clear hN
  refine sas hE rfl fun a hE=>qa (K7 (ww1 fun _ K8=>wpp (sm hE rfl fun a hE=>s_sliceArr (l := 0) (h := Lib.nDigits n) (mx' := 24) hE rfl arr127 rfl ⟨_,rfl⟩ rfl (by simp) (by omega) (by omega) (by omega) rfl fun a hE=>?_)))
  replace hE := hE.cast 19 rfl (show _ = Value.slice (some ⟨b5,0,none⟩) (Lib.nDigits n) 24 from rfl)
  refine sm hE rfl fun a hE=>qn hE rfl Tryz.call81 (fmtB_c b5 _ (Lib.nDigits n) n (List.replicate 24 0) _ (hM.get 0 rfl) (by simp) (by omega) (Lib.lt_pow_nDigits n) (by omega)) rfl ?_
  rintro e w3 ⟨rfl,hN⟩
  refine ⟨_,rfl,trivial,fun a hE=>?_⟩
  replace hM : Mem _ _ w3 [_,_,_] := hM.call1 hN (fun f hf x hx => by rw [List.mem_singleton.1 hf] at hx;cases hx);clear hN
  refine qa (K8 (ww1 fun _ K9=>wpp (sm hE rfl fun a hE=>s_sliceArr (l := 0) (h := Lib.nDigits n) (mx' := 24) hE rfl arr127 rfl ⟨_,rfl⟩ rfl (by simp) (by omega) (by omega) (by omega) rfl fun a hE=>?_)))
  replace hE := hE.cast 23 rfl (show _ = subV (.slice (some ⟨b5,0,none⟩) 24 24) (Lib.nDigits n) from rfl)
  replace hM := hM.blkOwn (k := 24) (es := 1) rfl (by decide)
  replace hM := hM.ownEq (m' := (digsN n (Lib.nDigits n) ++ (List.replicate 24 (0 : UInt8)).drop (Lib.nDigits n)).length) (cs' := bv (digsN n (Lib.nDigits n) ++ (List.replicate 24 (0 : UInt8)).drop (Lib.nDigits n))) hd24.symm rfl
  obtain ⟨cs24,hs24⟩ := own_subR (hM.get 0 rfl) (l := Lib.nDigits n) (by first | omega | assumption | (simp;done) | (simp;omega) | decide) (by first | rfl | simp)
  refine s_toStr hE rfl Tryz.underlying66 Tryz.underlying5 Tryz.underlying9 hs24 (by intro X h;cases h) rfl fun a hE=>?_
  exact sas hE rfl fun a hE=>qa (K9 (wp_ret (qb (qi hE rfl rfl ⟨(by first | rfl | (rw [List.take_left' (digsN_len ..),digsN_dec])),hM.pick [] rfl⟩))))
theorem fmt_c (n : Nat) (w : World) (hG : (glb 1).holds w) (hT : tabP.holds w) (hn : n < 18446744073709551616) : Calls Tryz.prog 58 #[.int .u64 (n : Int),.int .i64 10] w fun e w' => e = .returned (.string (str (decW n))) ∧ Mem w [] w' [] := by
 have hM : Mem w [] w [glb 1,tabP] := Mem.startR w (fun g hg => by
  simp only [List.mem_cons,List.not_mem_nil,or_false] at hg
  rcases hg with rfl | rfl
  ·exact ⟨hG,rfl⟩
  ·exact ⟨hT,rfl⟩)
 refine vf 8 Tryz.func58 rfl rfl rfl ?_
 intro a hE
 replace hE : Env a 8 [(0,_),(1,_)] := hE
 refine ww1 fun _ K1=>wpp (sas hE rfl fun a hE=>qa (K1 (ww1 fun _ K2=>wpp (sm hE rfl fun a hE=>sm hE rfl fun a hE=>qn hE rfl Tryz.call69 (ifmt_c n _ (hM.get 0 rfl) (hM.get 1 rfl) (by first | omega | assumption | (simp;done) | (simp;omega) | decide)) rfl ?_))))
 rintro e w1 ⟨rfl,hN⟩
 refine ⟨_,rfl,trivial,fun a hE=>?_⟩
 replace hM : Mem _ _ w1 [_,_] := hM.call0 hN trivial;clear hN
 exact sas hE rfl fun a hE=>qa (K2 (wp_ret (qi hE rfl rfl ⟨(by first | rfl | (simp;done)),hM.pick [] rfl⟩)))
theorem rdec_c (n : Nat) (w : World) (hn : n < 18446744073709551616) : Calls Tryz.prog 46 #[.int .u64 (n : Int)] w fun e w' => e = .returned (.string (str (decW n))) ∧ Mem w [] w' [] := by
 have hnd := Lib.nDigits_le20 n hn
 have hnp := Lib.nDigits_pos n
 have hM := Mem.start0 w
 refine vf 23 Tryz.func46 rfl rfl rfl ?_
 intro a hE
 replace hE : Env a 23 [(0,_)] := hE
 refine ww1 fun _ K1=>wpp (sas hE rfl fun a hE=>qa (K1 (ww1 fun _ K2=>wpp (sas hE rfl fun a hE=>qa (K2 ?_)))))
 refine ww1 fun _ K3=>wp_block ?_
 replace hE := hE.cast 0 rfl (show _ = Value.int .u64 ((n / 10 ^ 0 : Nat) : Int) from (by simp))
 replace hE := hE.cast 3 rfl (show _ = Value.string (str (tailD n 0)) from rfl)
 refine c_loop (fun (i : Nat) a w' => i ≤ (Lib.nDigits n - 1) ∧ Env a 23 [(0,.int .u64 ((n / 10 ^ i : Nat) : Int)),(2,.string (str ([] : List UInt8))),(3,.string (str (tailD n i)))] ∧ Mem w [] w' []) (fun i => (Lib.nDigits n - 1) - i) 0 ⟨Nat.zero_le _,hE.sel [0,2,3] rfl,hM⟩ ?_
 rintro i a w1 ⟨hi,hE,hM⟩
 refine ww1 fun _ K4=>ww1 fun _ K5=>wpp (sm hE rfl fun a hE=>sb hE rfl rfl bin_geq fun a hE=>qa (K5 ?_))
 refine hE.split 5 rfl (fun hb5 hE=>?_) (fun hb5 hE=>?_)
 ·replace hb5 := of_decide_eq_true hb5
  replace hb5 : 10 ≤ (n / 10 ^ i) := by omega
  have hdl := Nat.div_le_self n (10 ^ i)
  have hd0 := Nat.zero_le (n / 10 ^ i)
  have hmo := dig_more (i := i) (n := n) (by omega)
  have hil : i < Lib.nDigits n - 1 := by omega
  refine wct hE rfl (wp_skip (K4 (wp_block (ww1 fun _ K6=>wpp (sm hE rfl fun a hE=>sb hE rfl rfl (bin_rem_nat (m := (n / 10 ^ i)) (s := 10) (by decide)) fun a hE=>?_)))))
  refine sb hE rfl rfl (show Bin _ _ _ _ _ (.int .u64 ((48 + ((n / 10 ^ i) % 10) : Nat) : Int)) from bin_add (by rw [wrap_u64 (by omega) (by omega)];omega)) fun a hE=>?_
  refine qx hE rfl (cnv_int Tryz.underlying24 Tryz.underlying5 (wrap_u8_ofNat (48 + ((n / 10 ^ i) % 10)))) rfl fun a hE=>?_
  refine qv (xs := [.tmp 9]) (bv [UInt8.ofNat (48 + ((n / 10 ^ i) % 10))]) hE hM sl66 rfl rfl rfl (by intro v hv;first | (cases hv;done) | (obtain ⟨x,_,rfl⟩ := List.mem_map.1 (show v ∈ bv [UInt8.ofNat (48 + ((n / 10 ^ i) % 10))] from hv);rfl)) rfl rfl rfl rfl ?_;intro a v10 w2 hE hM
  replace hM := hM.ownEq (m' := [UInt8.ofNat (48 + ((n / 10 ^ i) % 10))].length) (cs' := bv [UInt8.ofNat (48 + ((n / 10 ^ i) % 10))]) rfl rfl
  obtain ⟨cs11,hs11⟩ := own_rd (hM.get 0 rfl)
  refine s_toStr hE rfl Tryz.underlying66 Tryz.underlying5 Tryz.underlying9 hs11 (by intro X h;cases h) rfl fun a hE=>?_
  refine sm hE rfl fun a hE=>?_
  refine sb hE rfl rfl (show Bin _ _ _ (.string (str [UInt8.ofNat (48 + ((n / 10 ^ i) % 10))])) (.string (str (tailD n i))) (.string (str ([UInt8.ofNat (48 + ((n / 10 ^ i) % 10))] ++ (tailD n i)))) from bin_strs (by have hl_x : [UInt8.ofNat (48 + ((n / 10 ^ i) % 10))].length = 1 := (by first | (simp;done) | (simp [*];done) | (simp;omega));have hl_y : (tailD n i).length = i := (tailD_len ..);first | omega | (simp;done) | (simp;omega))) fun a hE=>?_
  refine sas hE rfl fun a hE=>qa (K6 (wpp (sm hE rfl fun a hE=>sb hE rfl rfl (bin_quo_nat (m := (n / 10 ^ i)) (s := 10) (by decide) (wrap_u64n (div_lt64 (by first | omega | exact div_lt64 (by omega) | exact div_lt64 (by assumption))))) fun a hE=>?_)))
  refine sas hE rfl fun a hE=>qa (qe ?_)
  replace hE := hE.cast 0 rfl (show _ = Value.int .u64 ((n / 10 ^ (i + 1) : Nat) : Int) from (by rw [Nat.div_div_eq_div_mul,← Nat.pow_succ]))
  replace hE := hE.cast 3 rfl (show _ = Value.string (str (tailD n (i + 1))) from rfl)
  replace hM : Mem _ _ w2 [] := hM.pick [] rfl
  exact ⟨i + 1,⟨by omega,hE.sel [0,2,3] rfl,hM⟩,by omega⟩
 ·replace hb5 := of_decide_eq_false hb5
  replace hb5 : ¬ (10 ≤ (n / 10 ^ i)) := by omega
  have hdl := Nat.div_le_self n (10 ^ i)
  have hd0 := Nat.zero_le (n / 10 ^ i)
  have hle := dig_less (i := i) (n := n) (by omega)
  obtain rfl : i = Lib.nDigits n - 1 := by omega
  refine wcf hE rfl (wp_exit (qc (qc (qg (K3 (ww1 fun _ K6=>wpp (sm hE rfl fun a hE=>sb hE rfl rfl (show Bin _ _ _ _ _ (.int .u64 ((48 + (n / 10 ^ (Lib.nDigits n - 1)) : Nat) : Int)) from bin_add (by rw [wrap_u64 (by omega) (by omega)];omega)) fun a hE=>?_)))))))
  refine qx hE rfl (cnv_int Tryz.underlying24 Tryz.underlying5 (wrap_u8_ofNat (48 + (n / 10 ^ (Lib.nDigits n - 1))))) rfl fun a hE=>?_
  refine qv (xs := [.tmp 18]) (bv [UInt8.ofNat (48 + (n / 10 ^ (Lib.nDigits n - 1)))]) hE hM sl66 rfl rfl rfl (by intro v hv;first | (cases hv;done) | (obtain ⟨x,_,rfl⟩ := List.mem_map.1 (show v ∈ bv [UInt8.ofNat (48 + (n / 10 ^ (Lib.nDigits n - 1)))] from hv);rfl)) rfl rfl rfl rfl ?_;intro a v19 w2 hE hM
  replace hM := hM.ownEq (m' := [UInt8.ofNat (48 + (n / 10 ^ (Lib.nDigits n - 1)))].length) (cs' := bv [UInt8.ofNat (48 + (n / 10 ^ (Lib.nDigits n - 1)))]) rfl rfl
  obtain ⟨cs20,hs20⟩ := own_rd (hM.get 0 rfl)
  refine s_toStr hE rfl Tryz.underlying66 Tryz.underlying5 Tryz.underlying9 hs20 (by intro X h;cases h) rfl fun a hE=>?_
  refine sm hE rfl fun a hE=>?_
  refine sb hE rfl rfl (show Bin _ _ _ (.string (str [UInt8.ofNat (48 + (n / 10 ^ (Lib.nDigits n - 1)))])) (.string (str (tailD n (Lib.nDigits n - 1)))) (.string (str ([UInt8.ofNat (48 + (n / 10 ^ (Lib.nDigits n - 1)))] ++ (tailD n (Lib.nDigits n - 1))))) from bin_strs (by have hl_x : [UInt8.ofNat (48 + (n / 10 ^ (Lib.nDigits n - 1)))].length = 1 := (by first | (simp;done) | (simp [*];done) | (simp;omega));have hl_y : (tailD n (Lib.nDigits n - 1)).length = (Lib.nDigits n - 1) := (tailD_len ..);first | omega | (simp;done) | (simp;omega))) fun a hE=>?_
  exact sas hE rfl fun a hE=>qa (K6 (wp_ret (qi hE rfl rfl ⟨(congrArg (fun l => Ending.returned (Value.string (str l))) (tailD_dec _ n (by omega)).symm),hM.pick [] rfl⟩)))
theorem bsub_c (k : List UInt8) (l : List UInt8) (q : List UInt8) (n : Nat) (w : World) (hG : (glb 1).holds w) (hT : tabP.holds w) (hl_k : k.length = 32) (hn : n < 18446744073709551616) (hl : l.length ≤ 2000) (hq : q.length ≤ 100) : Calls Tryz.prog 42 #[.agg (bv k).toArray,.string (str l),.string (str q),.int .u64 (n : Int)] w fun e w' => e = .returned (.agg (bv (subW k (boxL l q n))).toArray) ∧ Mem w [] w' [] := by
 have hdw := decW_len n hn
 have hM : Mem w [] w [glb 1,tabP] := Mem.startR w (fun g hg => by
  simp only [List.mem_cons,List.not_mem_nil,or_false] at hg
  rcases hg with rfl | rfl
  ·exact ⟨hG,rfl⟩
  ·exact ⟨hT,rfl⟩)
 refine vf 19 Tryz.func42 rfl rfl rfl ?_
 intro a hE
 replace hE : Env a 19 [(0,_),(1,_),(2,_),(3,_)] := hE
 refine ww1 fun _ K1=>wpp (s_box (ss := [bv k]) [32] hE hM rfl (by simp [Value.cells]) (by simp [*]) rfl fun a b4 w1 hE hM=>?_)
 refine qo [32] hE hM zero26 rfl rfl fun a b8 w2 hE hM=>qa (K1 (ww1 fun _ K2=>qz hM (by kernel_rfl) (fun _ => True) (fun _ => True) (.re [(1,true),(2,true),(3,true),(4,true),(5,true),(6,true),(0,true),(7,false),(8,true),(9,false),(10,false)] (.fl 6 (.weak (.fl 1 (.or 7 (.re [(8,true),(9,false),(10,false)] (.fl 1 (.fl 0 (.or 9 (.cut (.re [(10,false)] (.fl 0 (.fl 0 (.weak (.or 10 (.cut (.re [] (.weak (.leaf 0)))) (.stop))))))) (.stop))))) (.stop)))))) [(1,true),(2,true),(3,true),(4,true),(5,true),(6,true),(0,true),(7,false),(8,true),(9,false),(10,false)] [(0,[(9,0),(10,0)]),(2,[(4,2),(5,4),(8,5),(9,8),(10,2)]),(4,[(5,4),(8,5),(9,8),(10,4)]),(5,[(8,5),(9,8),(10,5)]),(7,[(8,7),(9,7),(10,7)]),(8,[(9,8),(10,8)]),(9,[(10,9)]),(10,[])] (by kernel_rfl) ?_))
 intro w3 hM' hww3;replace hM := hM'
 refine o_re (o_fl rfl (sm hE rfl fun a hE=>sb hE rfl rfl (show Bin _ _ _ (.string (str l)) (.string (str [32])) (.string (str (l ++ [32]))) from bin_strs (by first | omega | (simp;done) | (simp;omega))) fun a hE=>?_))
 refine sm hE rfl fun a hE=>?_
 refine sb hE rfl rfl (show Bin _ _ _ (.string (str (l ++ [32]))) (.string (str q)) (.string (str ((l ++ [32]) ++ q))) from bin_strs (by have hl_x : (l ++ [32]).length = l.length + ([32].length) := (by first | (simp;done) | (simp [*];done) | (simp;omega));first | omega | (simp;done) | (simp;omega))) fun a hE=>?_
 refine sb hE rfl rfl (show Bin _ _ _ (.string (str ((l ++ [32]) ++ q))) (.string (str [32])) (.string (str (((l ++ [32]) ++ q) ++ [32]))) from bin_strs (by have hl_x : ((l ++ [32]) ++ q).length = l.length + ([32].length) + q.length := (by first | (simp;done) | (simp [*];done) | (simp;omega));first | omega | (simp;done) | (simp;omega))) fun a hE=>?_
 refine sm hE rfl fun a hE=>qa (qh (vc (fun _ => False) (fun _ _ => trivial) (o_fl rfl (ql hE rfl (hM.get 1 rfl) row26 rfl (by intro X h;cases h;simp) rfl fun a hE=>?_))))
 refine qa (qh ?_)
 refine o_or rfl ?_ ?_
 ·refine qn hE rfl Tryz.call58 (fmt_c n _ (hM.get 2 rfl) (hM.get 3 rfl) (by first | omega | assumption | (simp;done) | (simp;omega) | decide)) rfl ?_
  rintro e w4 ⟨rfl,hN⟩
  refine ⟨_,rfl,hN.sta0 _,fun a hE=>?_⟩
  replace hM : Mem _ _ w4 [_,_,_,_] := hM.call0 hN trivial;clear hN
  refine qa (qh (o_re (o_fl rfl ?_)))
  refine sb hE rfl rfl (show Bin _ _ _ (.string (str (((l ++ [32]) ++ q) ++ [32]))) (.string (str (decW n))) (.string (str ((((l ++ [32]) ++ q) ++ [32]) ++ (decW n)))) from bin_strs (by have hl_x : (((l ++ [32]) ++ q) ++ [32]).length = l.length + ([32].length) + q.length + ([32].length) := (by first | (simp;done) | (simp [*];done) | (simp;omega));first | omega | (simp;done) | (simp;omega))) fun a hE=>?_
  refine qa (qh (o_fl rfl (qa (qh ?_))))
  refine o_or rfl ?_ ?_
  ·refine qn hE rfl Tryz.call57 (sub_c k (str ((((l ++ [32]) ++ q) ++ [32]) ++ (decW n))) _ (hM.get 2 rfl) hl_k (by show ((((l ++ [32]) ++ q) ++ [32]) ++ (decW n)).length ≤ _;have hl_ : ((((l ++ [32]) ++ q) ++ [32]) ++ (decW n)).length = l.length + ([32].length) + q.length + ([32].length) + ((decW n).length) := (by first | (simp;done) | (simp [*];done) | (simp;omega));have hdw := decW_len n hn;simp only [List.length_append,List.length_cons,List.length_nil];omega)) rfl ?_
   rintro e w5 ⟨rfl,hN⟩
   refine ⟨_,rfl,hN.sta0 _,fun a hE=>?_⟩
   replace hM : Mem _ _ w5 [_,_,_,_] := hM.call0 hN trivial;clear hN
   replace hE := hE.cast 18 rfl (show _ = Value.agg (bv (subW k ((((l ++ [32]) ++ q) ++ [32]) ++ (decW n)))).toArray from rfl)
   refine qa (qh (o_cut (fun _ => True) (o_re (o_fl rfl (qa (qh (o_fl rfl (qa (qh (vc (fun b => b = b8) (fun _ _ => trivial) ?_))))))))))
   refine o_or rfl ?_ ?_
   ·refine qr 0 hE rfl rfl hM rfl sz26 ((vj _).trans (subW_length k ((((l ++ [32]) ++ q) ++ [32]) ++ (decW n)))) (ve _) rfl ((vj _).trans (by first | (simp;done) | (simp [*];done) | (simp;omega))) rfl (by intro X h;cases h;rfl) fun w6 hM=>?_
    simp only [List.set_cons_zero,List.set_cons_succ] at hM
    exact qa (qh (o_cut (fun _ => True) (o_re (vc (fun _ => False) (fun _ _ => trivial) (va rfl rfl (qa (q_ph (qa (K2 (wp_ret (qi hE rfl (res_cellN rfl (hM.get 0 rfl) row26 rfl) ⟨(by first | rfl | (simp;done)),hM.pick [] rfl⟩)))))))))))
   trivial
  trivial
 trivial
theorem masked_c (k : List UInt8) (l : List UInt8) (n : Nat) (x : List UInt8) (w : World) (hG : (glb 1).holds w) (hT : tabP.holds w) (hl_k : k.length = 32) (hl_x : x.length = 32) (hn : n < 18446744073709551616) (hl : l.length ≤ 2000) : Calls Tryz.prog 28 #[.agg (bv k).toArray,.string (str l),.int .u64 (n : Int),.agg (bv x).toArray] w fun e w' => e = .returned (.agg (bv (wrapD k l n x)).toArray) ∧ Mem w [] w' [] := by
 have hM : Mem w [] w [glb 1,tabP] := Mem.startR w (fun g hg => by
  simp only [List.mem_cons,List.not_mem_nil,or_false] at hg
  rcases hg with rfl | rfl
  ·exact ⟨hG,rfl⟩
  ·exact ⟨hT,rfl⟩)
 refine vf 28 Tryz.func28 rfl rfl rfl ?_
 intro a hE
 replace hE : Env a 28 [(0,_),(1,_),(2,_),(3,_)] := hE
 refine ww1 fun _ K1=>wpp (s_box (ss := [bv k]) [32] hE hM rfl (by simp [Value.cells]) (by simp [*]) rfl fun a b4 w1 hE hM=>?_)
 refine s_box (ss := [bv x]) [32] hE hM rfl (by simp [Value.cells]) (by simp [*]) rfl fun a b7 w2 hE hM=>?_
 refine qo [32] hE hM zero26 rfl rfl fun a b8 w3 hE hM=>qa (K1 (ww1 fun _ K2=>wpp (ql hE rfl (hM.get 2 rfl) row26 rfl (by intro X h;cases h) rfl fun a hE=>?_)))
 refine sm hE rfl fun a hE=>sm hE rfl fun a hE=>?_
 refine qn hE rfl Tryz.call42 (bsub_c k l [112,97,100] n _ (hM.get 3 rfl) (hM.get 4 rfl) hl_k (by have hl_0 : k.length = 32 := hl_k;have hl_2 : [112,97,100].length = 3 := (by first | (simp;done) | (simp [*];done) | (simp;omega));first | omega | assumption | (simp;done) | (simp;omega) | decide) (by have hl_0 : k.length = 32 := hl_k;have hl_2 : [112,97,100].length = 3 := (by first | (simp;done) | (simp [*];done) | (simp;omega));first | omega | assumption | (simp;done) | (simp;omega) | decide) (by have hl_0 : k.length = 32 := hl_k;have hl_2 : [112,97,100].length = 3 := (by first | (simp;done) | (simp [*];done) | (simp;omega));first | omega | assumption | (simp;done) | (simp;omega) | decide)) rfl ?_
 rintro e w4 ⟨rfl,hN⟩
 refine ⟨_,rfl,trivial,fun a hE=>?_⟩
 replace hM : Mem _ _ w4 [_,_,_,_,_] := hM.call0 hN trivial;clear hN
 replace hE := hE.cast 14 rfl (show _ = Value.agg (bv (maskB k l n)).toArray from rfl)
 refine qo [32] hE hM zero26 rfl rfl fun a b9 w5 hE hM=>qr 0 hE rfl rfl hM rfl sz26 ((vj _).trans (maskB_len k l n)) (ve _) rfl ((vj _).trans (by first | (simp;done) | (simp [*];done) | (simp;omega))) rfl (by intro X h;cases h) fun w6 hM=>?_
 simp only [List.set_cons_zero,List.set_cons_succ] at hM
 refine qa (K2 (ww1 fun _ K3=>ww1 fun _ K4=>wpp (sm hE rfl fun a hE=>qa (K4 (wp_block ?_)))))
 replace hM : Mem _ _ w6 [_,_,_,_,_,_] := hM.pick [2,0,1,3,4,5] rfl
 replace hM := Mem.blkB (p := x) (q := xorI x (maskB k l n) 0) hM ((xorI_zero ..).symm)
 replace hM : Mem _ _ w6 [_,_,_,_,_,_] := hM.pick [1,2,0,3,4,5] rfl
 refine c_loop (fun (i : Nat) a w' => i ≤ 32 ∧ Env a 28 [(7,.pointer (some ⟨b7,0,none⟩)),(8,.pointer (some ⟨b8,0,none⟩)),(9,.pointer (some ⟨b9,0,none⟩)),(15,.int .i64 ((i : Nat) : Int))] ∧ Mem w [] w' [blk b9 [bv (maskB k l n)] [32] 26,blk b8 [bv (List.replicate 32 (0 : UInt8))] [32] 26,blk b7 [bv (xorI x (maskB k l n) i)] [32] 26,blk b4 [bv k] [32] 26,glb 1,tabP]) (fun i => 32 - i) 0 ⟨Nat.zero_le _,hE.sel [7,8,9,15] rfl,hM⟩ ?_
 rintro i a w7 ⟨hi,hE,hM⟩
 refine ww1 fun _ K5=>wpp (sb hE rfl rfl bin_lss fun a hE=>qa (K5 (ww1 fun _ K6=>?_)))
 refine hE.split 16 rfl (fun hb16 hE=>?_) (fun hb16 hE=>?_)
 ·replace hb16 := of_decide_eq_true hb16
  replace hb16 : i < 32 := by omega
  replace hb16 : i < 32 := by omega
  refine wct hE rfl (wp_skip (K6 (ww1 fun _ K7=>wp_block (ww1 fun _ K8=>wpp (sm hE rfl fun a hE=>sas hE rfl fun a hE=>qa ?_)))))
  refine K8 (qz hM (by kernel_rfl) (fun _ => True) (fun _ => True) (.re [(0,true),(1,true),(3,true),(4,true),(2,true),(5,true),(6,true),(7,true),(8,false)] (.fl 4 (.weak (.fl 4 (.cut (.or 8 (.cut (.re [] (.weak (.leaf 0)))) (.stop))))))) [(0,true),(1,true),(3,true),(4,true),(2,true),(5,true),(6,true),(7,true),(8,false)] [(1,[(2,1),(6,2),(7,1),(8,1)]),(2,[(6,2),(7,2),(8,2)]),(4,[(5,4),(6,5),(7,4),(8,4)]),(5,[(6,5),(7,5),(8,5)]),(6,[(7,6),(8,6)]),(7,[(8,7)]),(8,[])] (by kernel_rfl) ?_)
  intro w8 hM' hww8;replace hM := hM'
  refine o_re (o_fl rfl (sm hE rfl fun a hE=>qp (j := i) hE rfl rfl arr26 (by first | rfl | omega) (by first | omega | decide) rfl fun a hE=>?_))
  refine sm hE rfl fun a hE=>qp (j := i) hE rfl rfl arr26 (by first | rfl | omega) (by first | omega | decide) rfl fun a hE=>?_
  refine qa (qh (vc (fun _ => False) (fun _ _ => trivial) (o_fl rfl ?_)))
  refine qy (j := i) hE rfl (by omega) (hM.get 2 rfl) (bv_get (by have hl_ : (xorI x (maskB k l n) i).length = 32 := ((xorI_length (hl_x.trans (maskB_len ..).symm) _).trans hl_x);first | omega | (rw [vj];omega) | (simp;omega))) one5 (by intro X h;cases h;simp) rfl fun a hE=>?_
  refine qy (j := i) hE rfl (by omega) (hM.get 0 rfl) (bv_get (by have hl_ : (maskB k l n).length = 32 := (maskB_len k l n);first | omega | (rw [vj];omega) | (simp;omega))) one5 (by intro X h;cases h;simp) rfl fun a hE=>?_
  refine sb hE rfl rfl (bin_xor8 (x := (xorI x (maskB k l n) i).getD i 0) (y := (maskB k l n).getD i 0)) fun a hE=>qp (j := i) hE rfl rfl arr26 (by first | rfl | omega) (by first | omega | decide) rfl fun a hE=>?_
  refine qa (qh (o_cut (fun b => b = b7) ?_))
  refine o_or rfl ?_ ?_
  ·replace hM : Mem _ _ w8 [_,_,_,_,_,_] := hM.pick [2,0,1,3,4,5] rfl
   refine s_storeIdx (j := i) hE rfl (by omega) rfl hM rfl rfl sz5 (by have hl_ : (xorI x (maskB k l n) i).length = 32 := ((xorI_length (hl_x.trans (maskB_len ..).symm) _).trans hl_x);first | omega | (rw [vj];omega) | (simp;omega)) (by intro X h;cases h;rfl) ?_;intro w9 hM
   first | rw [bv_set'] at hM | rw [bv_setI] at hM
   refine qa (qh (o_cut (fun _ => True) (o_re (vc (fun _ => False) (fun _ _ => trivial) (va rfl rfl (qa (q_ph (qa (qe (K7 (wpp (sb hE rfl rfl (show Bin _ _ _ _ _ (.int .i64 ((i + 1 : Nat) : Int)) from bin_add (by rw [wrap_i64 (by omega) (by omega)];omega)) fun a hE=>?_))))))))))))
   refine sm hE rfl fun a hE=>qa ?_
   replace hE := hE.cast 15 rfl (show _ = Value.int .i64 (((i + 1) : Nat) : Int) from (congrArg _ (by omega)))
   replace hM := Mem.blkB (p := (xorI x (maskB k l n) i).set i (((xorI x (maskB k l n) i).getD i 0) ^^^ ((maskB k l n).getD i 0))) (q := xorI x (maskB k l n) (i + 1)) hM (by rw [xorI_get (hl_x.trans (maskB_len ..).symm) (by omega)];exact xorI_set (hl_x.trans (maskB_len ..).symm) (by omega))
   replace hM : Mem _ _ w9 [_,_,_,_,_,_] := hM.pick [0,1,2,3,4,5] rfl
   replace hM : Mem _ _ w9 [_,_,_,_,_,_] := hM.pick [1,2,0,3,4,5] rfl
   exact ⟨i + 1,⟨by omega,hE.sel [7,8,9,15] rfl,hM⟩,by omega⟩
  trivial
 ·replace hb16 := of_decide_eq_false hb16
  replace hb16 : ¬ (i < 32) := by omega
  obtain rfl : 32 = i := by omega
  replace hM : Mem _ _ w7 [_,_,_,_,_,_] := hM.pick [2,0,1,3,4,5] rfl
  replace hM := Mem.blkB (p := xorI x (maskB k l n) 32) (q := wrapD k l n x) hM (by rw [← hl_x,xorI_all (hl_x.trans (maskB_len ..).symm)];rfl)
  refine wcf hE rfl (wp_exit (qc (qc (qg (K3 (ww1 fun _ K7=>wpp (ql hE rfl (hM.get 0 rfl) row26 rfl (by intro X h;cases h) rfl fun a hE=>?_)))))))
  replace hM : Mem _ _ w7 [_,_,_,_,_,_] := hM.pick [2,0,1,3,4,5] rfl
  refine qr 0 hE rfl rfl hM rfl sz26 ((vj _).trans (wrapD_len hl_x)) (ve _) rfl ((vj _).trans (by first | (simp;done) | (simp [*];done) | (simp;omega))) rfl (by intro X h;cases h) fun w8 hM=>?_
  simp only [List.set_cons_zero,List.set_cons_succ] at hM
  exact qa (K7 (wp_ret (qi hE rfl (res_cellN rfl (hM.get 0 rfl) row26 rfl) ⟨(by first | rfl | (simp;done)),hM.pick [] rfl⟩)))
theorem tag_c (k : List UInt8) (l : List UInt8) (n : Nat) (x : List UInt8) (w : World) (hG : (glb 1).holds w) (hT : tabP.holds w) (hl_k : k.length = 32) (hl_x : x.length = 32) (hn : n < 18446744073709551616) (hl : l.length ≤ 2000) : Calls Tryz.prog 29 #[.agg (bv k).toArray,.string (str l),.int .u64 (n : Int),.agg (bv x).toArray] w fun e w' => e = .returned (.agg (bv (tagB k l n x)).toArray) ∧ Mem w [] w' [] := by
 have hM : Mem w [] w [glb 1,tabP] := Mem.startR w (fun g hg => by
  simp only [List.mem_cons,List.not_mem_nil,or_false] at hg
  rcases hg with rfl | rfl
  ·exact ⟨hG,rfl⟩
  ·exact ⟨hT,rfl⟩)
 refine vf 25 Tryz.func29 rfl rfl rfl ?_
 intro a hE
 replace hE : Env a 25 [(0,_),(1,_),(2,_),(3,_)] := hE
 refine ww1 fun _ K1=>wpp (s_box (ss := [bv k]) [32] hE hM rfl (by simp [Value.cells]) (by simp [*]) rfl fun a b4 w1 hE hM=>?_)
 refine s_box (ss := [bv x]) [32] hE hM rfl (by simp [Value.cells]) (by simp [*]) rfl fun a b7 w2 hE hM=>?_
 refine qo [32] hE hM zero27 rfl rfl fun a b8 w3 hE hM=>qa (K1 (ww1 fun _ K2=>wpp (ql hE rfl (hM.get 2 rfl) row26 rfl (by intro X h;cases h) rfl fun a hE=>?_)))
 refine sm hE rfl fun a hE=>sm hE rfl fun a hE=>?_
 refine qn hE rfl Tryz.call42 (bsub_c k l [115,101,97,108] n _ (hM.get 3 rfl) (hM.get 4 rfl) hl_k (by have hl_0 : k.length = 32 := hl_k;have hl_2 : [115,101,97,108].length = 4 := (by first | (simp;done) | (simp [*];done) | (simp;omega));first | omega | assumption | (simp;done) | (simp;omega) | decide) (by have hl_0 : k.length = 32 := hl_k;have hl_2 : [115,101,97,108].length = 4 := (by first | (simp;done) | (simp [*];done) | (simp;omega));first | omega | assumption | (simp;done) | (simp;omega) | decide) (by have hl_0 : k.length = 32 := hl_k;have hl_2 : [115,101,97,108].length = 4 := (by first | (simp;done) | (simp [*];done) | (simp;omega));first | omega | assumption | (simp;done) | (simp;omega) | decide)) rfl ?_
 rintro e w4 ⟨rfl,hN⟩
 refine ⟨_,rfl,trivial,fun a hE=>?_⟩
 replace hM : Mem _ _ w4 [_,_,_,_,_] := hM.call0 hN trivial;clear hN
 replace hE := hE.cast 15 rfl (show _ = Value.agg (bv (sealB k l n)).toArray from rfl)
 refine qo [32] hE hM zero26 rfl rfl fun a b9 w5 hE hM=>qr 0 hE rfl rfl hM rfl sz26 ((vj _).trans (sealB_len k l n)) (ve _) rfl ((vj _).trans (by first | (simp;done) | (simp [*];done) | (simp;omega))) rfl (by intro X h;cases h) fun w6 hM=>?_
 simp only [List.set_cons_zero,List.set_cons_succ] at hM
 refine qa (K2 (ww1 fun _ K3=>wpp (s_sliceArr (l := 0) (h := 32) (mx' := 32) hE rfl arr26 rfl rfl rfl (by simp) (by omega) (by omega) (by omega) rfl fun a hE=>?_)))
 replace hE := hE.cast 17 rfl (show _ = Value.slice (some ⟨b7,0,none⟩) 32 32 from rfl)
 refine qv (xs := [.tmp 17]) ([.slice (some ⟨b7,0,none⟩) 32 32]) hE hM sl93 rfl rfl rfl (by intro v hv;rw [List.mem_singleton.1 hv];rfl) (by first | (simp [];done) | (simp [Value.cells];done)) rfl rfl rfl fun a v18 w7 hE hM=>?_
 obtain ⟨cl1,hl1⟩ := own_rd (hM.get 0 rfl)
 refine qn hE rfl Tryz.call43 ((by have h := brow_c 66 _ [x] _ _ _ _ hl1 (rdv_cons (p := x) (rd_of_arr (hM.get 3 rfl) hl_x) (rdv_nil _)) (by have hl_ : x.length = 32 := hl_x;simp [rowBytes];omega);rw [plT_ok] at h;exact h)) rfl ?_
 rintro e w8 ⟨v19,rfl,hN⟩
 refine ⟨_,rfl,trivial,fun a hE=>?_⟩
 replace hM : Mem _ _ w8 [_,_,_,_,_,_,_,_] := hM.call0 hN ⟨rfl,trivial⟩;clear hN
 refine sm hE rfl fun a hE=>sx hE rfl fun a hE=>sx hE rfl fun a hE=>sas hE rfl fun a hE=>sas hE rfl fun a hE=>qa (K3 (ww1 fun _ K4=>wpp (s_sliceArr (l := 0) (h := 32) (mx' := 32) hE rfl arr26 rfl rfl rfl (by simp) (by omega) (by omega) (by omega) rfl fun a hE=>?_)))
 replace hE := hE.cast 22 rfl (show _ = Value.slice (some ⟨b9,0,none⟩) 32 32 from rfl)
 refine sm hE rfl fun a hE=>?_
 obtain ⟨cq2,hq2⟩ := own_rd (hM.get 0 rfl)
 refine qn hE rfl Tryz.call44 (of_c _ _ (sealB k l n) (plT 66 x) _ _ _ (hM.get 6 rfl) (rd_of_arr (hM.get 2 rfl) (sealB_len k l n)) hq2 (by have hl_q : (sealB k l n).length = 32 := (sealB_len k l n);first | omega | assumption | (simp;done) | (simp;omega) | decide) (by have hl_q : (plT 66 x).length = 6 + 32 := ((plT_len 66 x).trans (by have hl_ : x.length = 32 := hl_x;omega));first | omega | assumption | (simp;done) | (simp;omega) | decide)) rfl ?_
 rintro e w9 ⟨rfl,hN⟩
 refine ⟨_,rfl,trivial,fun a hE=>?_⟩
 replace hM : Mem _ _ w9 [_,_,_,_,_,_,_,_] := hM.call0 hN trivial;clear hN
 replace hM : Mem _ _ w9 [_,_,_,_,_,_,_,_] := hM.pick [3,0,1,2,4,5,6,7] rfl
 refine qr 0 hE rfl rfl hM rfl sz27 ((vj _).trans (hmacW_length ..)) (ve _) rfl ((vj _).trans (by first | (simp;done) | (simp [*];done) | (simp;omega))) rfl (by intro X h;cases h) fun w10 hM=>?_
 simp only [List.set_cons_zero,List.set_cons_succ] at hM
 exact qa (K4 (wp_ret (qi hE rfl (res_cellN rfl (hM.get 0 rfl) row27 rfl) ⟨(by first | rfl | (simp;done)),hM.pick [] rfl⟩)))
theorem wrap_c (k : List UInt8) (l : List UInt8) (n : Nat) (x : List UInt8) (w : World) (hG : (glb 1).holds w) (hT : tabP.holds w) (hl_k : k.length = 32) (hl_x : x.length = 32) (hn : n < 18446744073709551616) (hl : l.length ≤ 2000) : Calls Tryz.prog 15 #[.agg (bv k).toArray,.string (str l),.int .u64 (n : Int),.agg (bv x).toArray] w fun e w' => e = .returned (.agg ([bv (wrapD k l n x),bv (tagB k l n (wrapD k l n x))] : List (List Value)).flatten.toArray) ∧ Mem w [] w' [] := by
 have hM : Mem w [] w [glb 1,tabP] := Mem.startR w (fun g hg => by
  simp only [List.mem_cons,List.not_mem_nil,or_false] at hg
  rcases hg with rfl | rfl
  ·exact ⟨hG,rfl⟩
  ·exact ⟨hT,rfl⟩)
 refine vf 22 Tryz.func15 rfl rfl rfl ?_
 intro a hE
 replace hE : Env a 22 [(0,_),(1,_),(2,_),(3,_)] := hE
 refine ww1 fun _ K1=>wpp (s_box (ss := [bv k]) [32] hE hM rfl (by simp [Value.cells]) (by simp [*]) rfl fun a b4 w1 hE hM=>?_)
 refine s_box (ss := [bv x]) [32] hE hM rfl (by simp [Value.cells]) (by simp [*]) rfl fun a b7 w2 hE hM=>?_
 refine qo [32,32] hE hM zero29 rfl rfl fun a b8 w3 hE hM=>qa (K1 (ww1 fun _ K2=>wpp (ql hE rfl (hM.get 2 rfl) row26 rfl (by intro X h;cases h) rfl fun a hE=>?_)))
 refine sm hE rfl fun a hE=>sm hE rfl fun a hE=>ql hE rfl (hM.get 1 rfl) row26 rfl (by intro X h;cases h) rfl fun a hE=>?_
 refine qn hE rfl Tryz.call28 (masked_c k l n x _ (hM.get 3 rfl) (hM.get 4 rfl) hl_k hl_x (by have hl_0 : k.length = 32 := hl_k;have hl_3 : x.length = 32 := hl_x;first | omega | assumption | (simp;done) | (simp;omega) | decide) (by have hl_0 : k.length = 32 := hl_k;have hl_3 : x.length = 32 := hl_x;first | omega | assumption | (simp;done) | (simp;omega) | decide)) rfl ?_
 rintro e w4 ⟨rfl,hN⟩
 refine ⟨_,rfl,trivial,fun a hE=>?_⟩
 replace hM : Mem _ _ w4 [_,_,_,_,_] := hM.call0 hN trivial;clear hN
 refine qo [32] hE hM zero26 rfl rfl fun a b9 w5 hE hM=>qr 0 hE rfl rfl hM rfl sz26 ((vj _).trans (wrapD_len (k := k) (l := l) (n := n) (x := x) (by have hl_ax : x.length = 32 := hl_x;first | assumption | (simp;done)))) (ve _) rfl ((vj _).trans (by first | (simp;done) | (simp [*];done) | (simp;omega))) rfl (by intro X h;cases h) fun w6 hM=>?_
 simp only [List.set_cons_zero,List.set_cons_succ] at hM
 refine qa (K2 (ww1 fun _ K3=>qz hM (by kernel_rfl) (fun _ => True) (fun _ => True) (.re [(2,true),(3,true),(0,true),(1,true),(4,true),(5,false),(6,true),(7,false)] (.fl 2 (.weak (.fl 3 (.or 5 (.cut (.re [(6,true),(7,false)] (.fl 1 (.fl 0 (.weak (.or 7 (.cut (.re [] (.weak (.leaf 0)))) (.stop))))))) (.stop)))))) [(2,true),(3,true),(0,true),(1,true),(4,true),(5,false),(6,true),(7,false)] [(0,[(6,0),(7,0)]),(1,[(5,1),(6,5),(7,1)]),(4,[(5,4),(6,5),(7,4)]),(5,[(6,5),(7,5)]),(6,[(7,6)]),(7,[])] (by kernel_rfl) ?_))
 intro w7 hM' hww7;replace hM := hM'
 refine o_re (o_fl rfl (sm hE rfl fun a hE=>sm hE rfl fun a hE=>qa (qh (vc (fun _ => False) (fun _ _ => trivial) (o_fl rfl (ql hE rfl (hM.get 0 rfl) row26 rfl (by intro X h;cases h;simp) rfl fun a hE=>?_))))))
 refine ql hE rfl (hM.get 3 rfl) row26 rfl (by intro X h;cases h;simp) rfl fun a hE=>?_
 refine ql hE rfl (hM.get 0 rfl) row26 rfl (by intro X h;cases h;simp) rfl fun a hE=>?_
 refine qa (qh ?_)
 refine o_or rfl ?_ ?_
 ·refine qn hE rfl Tryz.call29 (tag_c k l n (wrapD k l n x) _ (hM.get 4 rfl) (hM.get 5 rfl) hl_k (wrapD_len (k := k) (l := l) (n := n) (x := x) (by have hl_ax : x.length = 32 := hl_x;first | assumption | (simp;done))) (by have hl_0 : k.length = 32 := hl_k;have hl_3 : (wrapD k l n x).length = 32 := (wrapD_len (k := k) (l := l) (n := n) (x := x) (by have hl_ax : x.length = 32 := hl_x;first | assumption | (simp;done)));first | omega | assumption | (simp;done) | (simp;omega) | decide) (by have hl_0 : k.length = 32 := hl_k;have hl_3 : (wrapD k l n x).length = 32 := (wrapD_len (k := k) (l := l) (n := n) (x := x) (by have hl_ax : x.length = 32 := hl_x;first | assumption | (simp;done)));first | omega | assumption | (simp;done) | (simp;omega) | decide)) rfl ?_
  rintro e w8 ⟨rfl,hN⟩
  refine ⟨_,rfl,hN.sta0 _,fun a hE=>?_⟩
  replace hM : Mem _ _ w8 [_,_,_,_,_,_] := hM.call0 hN trivial;clear hN
  refine qa (qh (o_cut (fun _ => True) (o_re (o_fl rfl ?_))))
  have hbq59_0 : (wrapD k l n x).length = 32 := (wrapD_len (k := k) (l := l) (n := n) (x := x) (by have hl_ax : x.length = 32 := hl_x;first | assumption | (simp;done)))
  have hbq59_1 : (tagB k l n (wrapD k l n x)).length = 32 := (tagB_len k l n (wrapD k l n x))
  refine vg [bv (wrapD k l n x),bv (tagB k l n (wrapD k l n x))] hE rfl zero29 rfl fpl29 (by first | (simp [PartsOk,Value.cells,hbq59_0,hbq59_1];done) | (simp [PartsOk,Value.cells, *];done)) rfl fun a hE=>?_
  replace hE := hE.cast 21 rfl (show _ = Value.agg ([bv (wrapD k l n x),bv (tagB k l n (wrapD k l n x))] : List (List Value)).flatten.toArray from (by first | rfl | simp [setAll]))
  refine qa (qh (o_fl rfl (qa (qh (vc (fun b => b = b8) (fun _ _ => trivial) ?_)))))
  refine o_or rfl ?_ ?_
  ·replace hM : Mem _ _ w8 [_,_,_,_,_,_] := hM.pick [1,0,2,3,4,5] rfl
   refine qq 0 2 (vss := [bv (wrapD k l n x),bv (tagB k l n (wrapD k l n x))]) hE rfl rfl hM rfl sz29 (by have hl_s0 : (wrapD k l n x).length = 32 := (wrapD_len (k := k) (l := l) (n := n) (x := x) (by have hl_ax : x.length = 32 := hl_x;first | assumption | (simp;done)));have hl_s1 : (tagB k l n (wrapD k l n x)).length = 32 := (tagB_len k l n (wrapD k l n x)); simp only [List.map_cons,List.map_nil,vj,List.length_cons,List.length_nil,List.take_succ_cons,List.take_zero,List.drop_zero,List.drop_succ_cons,hl_s0,hl_s1]) (by decide) rfl (one_fl ⟨ve _,ve _,trivial⟩) rfl (by intro X h;cases h;rfl) ?_;intro w9 hM
   simp only [List.take_zero,List.take_succ_cons,List.drop_zero,List.drop_succ_cons,List.take_nil,List.drop_nil,List.nil_append,List.append_nil,List.cons_append] at hM
   exact qa (qh (o_cut (fun _ => True) (o_re (vc (fun _ => False) (fun _ _ => trivial) (va rfl rfl (qa (q_ph (qa (K3 (wp_ret (qi hE rfl (res_cellN rfl (hM.get 0 rfl) row29 rfl) ⟨(by first | (simp only [List.flatten_cons,List.flatten_nil,List.append_nil,List.append_assoc];done) | (simp only [tagB,List.flatten_cons,List.flatten_nil,List.append_nil,List.append_assoc];done) | rfl),hM.pick [] rfl⟩)))))))))))
  trivial
 trivial
theorem unwrap_c (k : List UInt8) (l : List UInt8) (n : Nat) (d : List UInt8) (t : List UInt8) (w : World) (hG : (glb 1).holds w) (hT : tabP.holds w) (hl_k : k.length = 32) (hl_d : d.length = 32) (hl_t : t.length = 32) (hn : n < 18446744073709551616) (hl : l.length ≤ 2000) : Calls Tryz.prog 38 #[.agg (bv k).toArray,.string (str l),.int .u64 (n : Int),.agg ([bv d,bv t] : List (List Value)).flatten.toArray] w fun e w' => e = .returned (.tuple #[.agg (bv (unwK k l n d t)).toArray,.int .i64 ((unwE k l n d t : Nat) : Int)]) ∧ Mem w [] w' [] := by
 have hM : Mem w [] w [glb 1,tabP] := Mem.startR w (fun g hg => by
  simp only [List.mem_cons,List.not_mem_nil,or_false] at hg
  rcases hg with rfl | rfl
  ·exact ⟨hG,rfl⟩
  ·exact ⟨hT,rfl⟩)
 refine vf 27 Tryz.func38 rfl rfl rfl ?_
 intro a hE
 replace hE : Env a 27 [(0,_),(1,_),(2,_),(3,_)] := hE
 refine ww1 fun _ K1=>wpp (s_box (ss := [bv k]) [32] hE hM rfl (by simp [Value.cells]) (by simp [*]) rfl fun a b4 w1 hE hM=>?_)
 refine s_box (ss := [bv d,bv t]) [32,32] hE hM rfl rfl (by simp [*]) rfl fun a b7 w2 hE hM=>?_
 refine qo [32] hE hM zero26 rfl rfl fun a b8 w3 hE hM=>sas hE rfl fun a hE=>qa (K1 (ww1 fun _ K2=>ww1 fun _ K3=>wp_drawnM hM (by kernel_rfl) (fun _ => False) [(0,true),(1,true),(2,true),(3,true),(4,true),(6,true),(7,true),(5,false),(8,false),(9,true)] [(5,[(8,5),(9,8)]),(8,[(9,8)])] (by kernel_rfl) rfl ?_))
 intro w4 hM' hww4;replace hM := hM'
 refine ql hE rfl (hM.get 2 rfl) row26 rfl (by intro X h;cases h;simp) rfl fun a hE=>?_
 refine sm hE rfl fun a hE=>sm hE rfl fun a hE=>sf hE rfl fo29_0 fun a hE=>ql hE rfl (hM.get 1 rfl) row26 rfl (by intro X h;cases h;simp) rfl fun a hE=>?_
 refine sf hE rfl fo29_1 fun a hE=>ql hE rfl (hM.get 1 rfl) row27 rfl (by intro X h;cases h;simp) rfl fun a hE=>?_
 refine qn hE rfl Tryz.call29 (tag_c k l n d _ (hM.get 3 rfl) (hM.get 4 rfl) hl_k hl_d (by have hl_0 : k.length = 32 := hl_k;have hl_3 : d.length = 32 := hl_d;first | omega | assumption | (simp;done) | (simp;omega) | decide) (by have hl_0 : k.length = 32 := hl_k;have hl_3 : d.length = 32 := hl_d;first | omega | assumption | (simp;done) | (simp;omega) | decide)) rfl ?_
 rintro e w5 ⟨rfl,hN⟩
 refine ⟨_,rfl,hN.sta0 _,fun a hE=>?_⟩
 replace hM : Mem _ _ w5 [_,_,_,_,_] := hM.call0 hN trivial;clear hN
 refine qn hE rfl Tryz.call52 (same_c (tagB k l n d) t _ (tagB_len k l n d) hl_t) rfl ?_
 rintro e w6 ⟨rfl,hN⟩
 refine ⟨_,rfl,hN.sta0 _,fun a hE=>?_⟩
 replace hM : Mem _ _ w6 [_,_,_,_,_] := hM.call0 hN trivial;clear hN
 refine s_not hE rfl rfl fun a hE=>qa (K3 ?_)
 refine hE.split 19 rfl (fun hb19 hE=>?_) (fun hb19 hE=>?_)
 ·replace hb19 := of_decide_eq_false (not_true hb19)
  refine wct hE rfl (ww1 fun _ K4=>wpp (s_build (r := .agg (bv (List.replicate 32 (0 : UInt8))).toArray) _ hE rfl (fun w => by kernel_rfl) rfl fun a hE=>?_))
  refine qr 0 hE rfl rfl hM rfl sz26 ((vj _).trans (by first | (simp;done) | (simp [*];done) | (simp;omega))) (ve _) rfl ((vj _).trans (by first | (simp;done) | (simp [*];done) | (simp;omega))) rfl (by intro X h;cases h) fun w7 hM=>?_
  simp only [List.set_cons_zero,List.set_cons_succ] at hM
  exact sas hE rfl fun a hE=>qa (K4 (wp_ret (qb (qj hE rfl (res_cellN rfl (hM.get 0 rfl) row26 rfl) rfl ⟨(by first | (simp [unwK,unwE,unwB,hb19];done) | (simp [unwK,unwE,unwB,tagB,hb19];done)),hM.pick [] rfl⟩))))
 ·replace hb19 := of_decide_eq_true (not_false' hb19)
  refine wcf hE rfl (wp_skip (K2 (ww1 fun _ K4=>wpp (ql hE rfl (hM.get 2 rfl) row26 rfl (by intro X h;cases h) rfl fun a hE=>?_))))
  refine sm hE rfl fun a hE=>sm hE rfl fun a hE=>sf hE rfl fo29_0 fun a hE=>ql hE rfl (hM.get 1 rfl) row26 rfl (by intro X h;cases h) rfl fun a hE=>?_
  refine qn hE rfl Tryz.call28 (masked_c k l n d _ (hM.get 3 rfl) (hM.get 4 rfl) hl_k hl_d (by have hl_0 : k.length = 32 := hl_k;have hl_3 : d.length = 32 := hl_d;first | omega | assumption | (simp;done) | (simp;omega) | decide) (by have hl_0 : k.length = 32 := hl_k;have hl_3 : d.length = 32 := hl_d;first | omega | assumption | (simp;done) | (simp;omega) | decide)) rfl ?_
  rintro e w7 ⟨rfl,hN⟩
  refine ⟨_,rfl,trivial,fun a hE=>?_⟩
  replace hM : Mem _ _ w7 [_,_,_,_,_] := hM.call0 hN trivial;clear hN
  refine qr 0 hE rfl rfl hM rfl sz26 ((vj _).trans (wrapD_len (k := k) (l := l) (n := n) (x := d) (by have hl_ax : d.length = 32 := hl_d;first | assumption | (simp;done)))) (ve _) rfl ((vj _).trans (by first | (simp;done) | (simp [*];done) | (simp;omega))) rfl (by intro X h;cases h) fun w8 hM=>?_
  simp only [List.set_cons_zero,List.set_cons_succ] at hM
  exact sas hE rfl fun a hE=>qa (K4 (wp_ret (qj hE rfl (res_cellN rfl (hM.get 0 rfl) row26 rfl) rfl ⟨(by first | (simp [unwK,unwE,unwB,hb19];done) | (simp [unwK,unwE,unwB,tagB,hb19];done)),hM.pick [] rfl⟩)))
theorem rb10_c (t : List UInt8) (w : World) (hl_t : t.length = 32) : Calls Tryz.prog 49 #[.agg (bv t).toArray] w fun e w' => ∃ v',e = .returned (v') ∧ Mem w [] w' [own v' 1 t.length (bv t)] := by
 have hM := Mem.start0 w
 refine vf 16 Tryz.func49 rfl rfl rfl ?_
 intro a hE
 replace hE : Env a 16 [(0,_)] := hE
 refine ww1 fun _ K1=>wpp (s_box (ss := [bv t]) [32] hE hM rfl (by simp [Value.cells]) (by simp [*]) rfl fun a b1 w1 hE hM=>?_)
 refine sas hE rfl fun a hE=>qa (K1 (ww1 fun _ K2=>wpp (sas hE rfl fun a hE=>qa (K2 (ww1 fun _ K3=>ww1 fun _ K4=>?_)))))
 refine wpp (sas hE rfl fun a hE=>qa (K4 (wp_block ?_)))
 replace hM := hM.addNil 1
 replace hM := hM.ownEq (m' := ([] : List UInt8).length) (cs' := bv []) rfl rfl
 replace hM := Mem.ownB (p := ([] : List UInt8)) (q := t.take 0) hM (by first | with_reducible rfl | (simp;done) | (simp [*];done) | rfl)
 refine c_loop (fun (i : Nat) a w' => i ≤ 32 ∧ ∃ vl3,Env a 16 [(1,.pointer (some ⟨b1,0,none⟩)),(2,.slice none 0 0),(3,vl3),(4,.int .i64 ((i : Nat) : Int))] ∧ Mem w [] w' [own vl3 1 (t.take i).length (bv (t.take i)),blk b1 [bv t] [32] 26]) (fun i => 32 - i) 0 ⟨Nat.zero_le _,_,hE.sel [1,2,3,4] rfl,hM⟩ ?_
 rintro i a w2 ⟨hi,vl3,hE,hM⟩
 refine ww1 fun _ K5=>ww1 fun _ K6=>wpp (sm hE rfl fun a hE=>sb hE rfl rfl bin_lss fun a hE=>qa (K6 ?_))
 refine hE.split 6 rfl (fun hb6 hE=>?_) (fun hb6 hE=>?_)
 ·replace hb6 := of_decide_eq_true hb6
  replace hb6 : i < 32 := by omega
  replace hb6 : i < 32 := by omega
  refine wct hE rfl (wp_skip (K5 (ww1 fun _ K7=>wp_block (wpp (sm hE rfl fun a hE=>sm hE rfl fun a hE=>qp (j := i) hE rfl rfl arr26 (by first | rfl | omega) (by first | omega | decide) rfl fun a hE=>?_)))))
  refine qy (j := i) hE rfl (by omega) (hM.get 1 rfl) (bv_get (by have hl_ : t.length = 32 := hl_t;first | omega | (rw [vj];omega) | (simp;omega))) one5 (by intro X h;cases h) rfl fun a hE=>?_
  refine qv (xs := [.tmp 12]) (bv [t.getD i 0]) hE hM sl66 rfl rfl rfl (by intro v hv;first | (cases hv;done) | (obtain ⟨x,_,rfl⟩ := List.mem_map.1 (show v ∈ bv [t.getD i 0] from hv);rfl)) rfl rfl rfl rfl ?_;intro a v13 w3 hE hM
  replace hM := hM.ownEq (m' := [t.getD i 0].length) (cs' := bv [t.getD i 0]) rfl rfl
  replace hM : Mem _ _ w3 [_,_,_] := hM.pick [1,0,2] rfl
  obtain ⟨cq1,hq1⟩ := own_rd (hM.get 1 rfl)
  refine qw hE rfl rfl hM sl66 (Src.rd Tryz.underlying66 hq1 (ve _)) (len47 (by have hl_x : (t.take i).length = i := (by simp;omega);have hl_y : [t.getD i 0].length = 1 := (by first | (simp;done) | (simp [*];done) | (simp;omega));first | omega | (simp;done) | (simp;omega))) (by have hl_x : (t.take i).length = i := (by simp;omega);have hl_y : [t.getD i 0].length = 1 := (by first | (simp;done) | (simp [*];done) | (simp;omega));first | omega | (simp;done) | (simp;omega)) (by intro X h;cases h) rfl ?_;intro a v14 w4 hE hM
  replace hM := Mem.ownApp (p := t.take i) (q := [t.getD i 0]) hM (by first | rfl | (simp;done))
  replace hM : Mem _ _ w4 [_,_] := hM.pick [0,2] rfl
  refine sas hE rfl fun a hE=>qa (qe (K7 (wpp (sm hE rfl fun a hE=>sb hE rfl rfl (show Bin _ _ _ _ _ (.int .i64 ((i + 1 : Nat) : Int)) from bin_add (by rw [wrap_i64 (by omega) (by omega)];omega)) fun a hE=>?_))))
  refine sas hE rfl fun a hE=>qa ?_
  replace hE := hE.cast 4 rfl (show _ = Value.int .i64 (((i + 1) : Nat) : Int) from (congrArg _ (by omega)))
  replace hM := Mem.ownB (p := (t.take i) ++ [t.getD i 0]) (q := t.take (i + 1)) hM ((take_snoc (by omega)).symm)
  replace hM : Mem _ _ w4 [_,_] := hM.pick [0,1] rfl
  exact ⟨i + 1,⟨by omega,_,hE.sel [1,2,3,4] rfl,hM⟩,by omega⟩
 ·replace hb6 := of_decide_eq_false hb6
  replace hb6 : ¬ (i < 32) := by omega
  obtain rfl : 32 = i := by omega
  replace hM := Mem.ownB (p := t.take 32) (q := t) hM (take_all hl_t)
  refine wcf hE rfl (wp_exit (qc (qc (qg (K3 (ww1 fun _ K7=>wpp (sm hE rfl fun a hE=>sas hE rfl fun a hE=>?_)))))))
  exact qa (K7 (wp_ret (qi hE rfl rfl ⟨_,(by first | rfl | (simp;done)),hM.pick [0] rfl⟩)))
theorem rmasked_c (k : List UInt8) (l : List UInt8) (n : Nat) (x : List UInt8) (w : World) (hl_k : k.length = 32) (hl_x : x.length = 32) (hn : n < 18446744073709551616) (hl : l.length ≤ 2000) : Calls Tryz.prog 31 #[.agg (bv k).toArray,.string (str l),.int .u64 (n : Int),.agg (bv x).toArray] w fun e w' => e = .returned (.agg (bv (wrapD k l n x)).toArray) ∧ Mem w [] w' [] := by
 have hdw := decW_len n hn
 have hM := Mem.start0 w
 refine vf 32 Tryz.func31 rfl rfl rfl ?_
 intro a hE
 replace hE : Env a 32 [(0,_),(1,_),(2,_),(3,_)] := hE
 refine ww1 fun _ K1=>wpp (s_box (ss := [bv k]) [32] hE hM rfl (by simp [Value.cells]) (by simp [*]) rfl fun a b4 w1 hE hM=>?_)
 refine s_box (ss := [bv x]) [32] hE hM rfl (by simp [Value.cells]) (by simp [*]) rfl fun a b7 w2 hE hM=>?_
 refine qo [32] hE hM zero26 rfl rfl fun a b8 w3 hE hM=>qa (K1 (ww1 fun _ K2=>qz hM (by kernel_rfl) (fun _ => True) (fun _ => True) (.re [(1,true),(2,true),(3,true),(0,true),(4,false),(5,true),(6,false),(7,false),(8,false)] (.fl 3 (.weak (.fl 1 (.or 4 (.re [(5,true),(6,false),(7,false),(8,false)] (.fl 1 (.fl 0 (.or 6 (.re [(7,false),(8,false)] (.fl 0 (.fl 0 (.or 7 (.cut (.re [(8,false)] (.fl 0 (.fl 0 (.weak (.or 8 (.cut (.re [] (.weak (.leaf 0)))) (.stop))))))) (.stop))))) (.or 7 (.cut (.re [(6,false),(8,false)] (.fl 0 (.fl 0 (.or 6 (.re [(8,false)] (.fl 0 (.fl 0 (.weak (.or 8 (.cut (.re [] (.weak (.leaf 0)))) (.stop)))))) (.stop)))))) (.stop)))))) (.or 7 (.re [(4,false),(5,true),(6,false),(8,false)] (.fl 0 (.fl 0 (.or 4 (.re [(5,true),(6,false),(8,false)] (.fl 1 (.fl 0 (.or 6 (.cut (.re [(8,false)] (.fl 0 (.fl 0 (.weak (.or 8 (.cut (.re [] (.weak (.leaf 0)))) (.stop))))))) (.stop))))) (.stop))))) (.stop))))))) [(1,true),(2,true),(3,true),(0,true),(4,false),(5,true),(6,false),(7,false),(8,false)] [(0,[(6,0),(8,0)]),(2,[(5,2),(6,5),(8,2)]),(4,[(5,4),(6,4),(8,4)]),(5,[(6,5),(8,5)]),(6,[(8,6)]),(7,[(8,7)]),(8,[])] (by kernel_rfl) ?_))
 intro w4 hM' hww4;replace hM := hM'
 refine o_re (o_fl rfl (sm hE rfl fun a hE=>sb hE rfl rfl (show Bin _ _ _ (.string (str l)) (.string (str [32,112,97,100,32])) (.string (str (l ++ [32,112,97,100,32]))) from bin_strs (by first | omega | (simp;done) | (simp;omega))) fun a hE=>?_))
 refine sm hE rfl fun a hE=>qa (qh (vc (fun _ => False) (fun _ _ => trivial) (o_fl rfl (ql hE rfl (hM.get 2 rfl) row26 rfl (by intro X h;cases h;simp) rfl fun a hE=>?_))))
 refine qa (qh ?_)
 refine o_or rfl ?_ ?_
 ·refine qn hE rfl Tryz.call46 (rdec_c n _ (by first | omega | assumption | (simp;done) | (simp;omega) | decide)) rfl ?_
  rintro e w5 ⟨rfl,hN⟩
  refine ⟨_,rfl,hN.sta0 _,fun a hE=>?_⟩
  replace hM : Mem _ _ w5 [_,_,_] := hM.call0 hN trivial;clear hN
  refine qa (qh (o_re (o_fl rfl ?_)))
  refine sb hE rfl rfl (show Bin _ _ _ (.string (str (l ++ [32,112,97,100,32]))) (.string (str (decW n))) (.string (str ((l ++ [32,112,97,100,32]) ++ (decW n)))) from bin_strs (by have hl_x : (l ++ [32,112,97,100,32]).length = l.length + ([32,112,97,100,32].length) := (by first | (simp;done) | (simp [*];done) | (simp;omega));first | omega | (simp;done) | (simp;omega))) fun a hE=>?_
  refine qa (qh (o_fl rfl (qa (qh ?_))))
  refine o_or rfl ?_ ?_
  ·refine qn hE rfl Tryz.call45 (rsub_c k (str ((l ++ [32,112,97,100,32]) ++ (decW n))) _  hl_k (by show ((l ++ [32,112,97,100,32]) ++ (decW n)).length ≤ _;have hl_ : ((l ++ [32,112,97,100,32]) ++ (decW n)).length = l.length + ([32,112,97,100,32].length) + ((decW n).length) := (by first | (simp;done) | (simp [*];done) | (simp;omega));have hdw := decW_len n hn;simp only [List.length_append,List.length_cons,List.length_nil];omega)) rfl ?_
   rintro e w6 ⟨rfl,hN⟩
   refine ⟨_,rfl,hN.sta0 _,fun a hE=>?_⟩
   replace hM : Mem _ _ w6 [_,_,_] := hM.call0 hN trivial;clear hN
   replace hE := hE.cast 17 rfl (show _ = Value.agg (bv (subW k ((l ++ [32,112,97,100,32]) ++ (decW n)))).toArray from rfl)
   replace hE := hE.cast 17 rfl (show _ = Value.agg (bv (maskB k l n)).toArray from congrArg (fun q => Value.agg (bv (subW k q)).toArray) (by simp [boxL,padT,sealT]))
   refine qa (qh (o_re (o_fl rfl (qa (qh (o_fl rfl (qa (qh ?_))))))))
   refine o_or rfl ?_ ?_
   ·refine qo [32] hE hM zero26 rfl rfl fun a b9 w7 hE hM=>qa (qh (o_cut (fun _ => True) (o_re (o_fl rfl (qa (qh (o_fl rfl (qa (qh (vc (fun b => b = b9) (fun _ _ => trivial) ?_))))))))))
    refine o_or rfl ?_ ?_
    ·refine qr 0 hE rfl rfl hM rfl sz26 ((vj _).trans (maskB_len k l n)) (ve _) rfl ((vj _).trans (by first | (simp;done) | (simp [*];done) | (simp;omega))) rfl (by intro X h;cases h;rfl) fun w8 hM=>?_
     simp only [List.set_cons_zero,List.set_cons_succ] at hM
     refine qa (qh (o_cut (fun _ => True) (o_re (vc (fun _ => False) (fun _ _ => trivial) (va rfl rfl (qa (q_ph (qa (K2 (ww1 fun _ K3=>ww1 fun _ K4=>wpp ?_))))))))))
     refine sas hE rfl fun a hE=>qa (K4 (wp_block ?_))
     replace hM : Mem _ _ w8 [_,_,_,_] := hM.pick [2,0,1,3] rfl
     replace hM := Mem.blkB (p := x) (q := xorI x (maskB k l n) 0) hM ((xorI_zero ..).symm)
     replace hM : Mem _ _ w8 [_,_,_,_] := hM.pick [1,2,0,3] rfl
     refine c_loop (fun (i : Nat) a w' => i ≤ 32 ∧ Env a 32 [(7,.pointer (some ⟨b7,0,none⟩)),(8,.pointer (some ⟨b8,0,none⟩)),(9,.pointer (some ⟨b9,0,none⟩)),(10,.int .i64 ((i : Nat) : Int))] ∧ Mem w [] w' [blk b9 [bv (maskB k l n)] [32] 26,blk b8 [bv (List.replicate 32 (0 : UInt8))] [32] 26,blk b7 [bv (xorI x (maskB k l n) i)] [32] 26,blk b4 [bv k] [32] 26]) (fun i => 32 - i) 0 ⟨Nat.zero_le _,hE.sel [7,8,9,10] rfl,hM⟩ ?_
     rintro i a w9 ⟨hi,hE,hM⟩
     refine ww1 fun _ K5=>ww1 fun _ K6=>wpp (sm hE rfl fun a hE=>sb hE rfl rfl bin_lss fun a hE=>qa (K6 ?_))
     refine hE.split 19 rfl (fun hb19 hE=>?_) (fun hb19 hE=>?_)
     ·replace hb19 := of_decide_eq_true hb19
      replace hb19 : i < 32 := by omega
      replace hb19 : i < 32 := by omega
      refine wct hE rfl (wp_skip (K5 (ww1 fun _ K7=>wp_block (qz hM (by kernel_rfl) (fun _ => True) (fun _ => True) (.re [(0,true),(1,true),(2,true),(4,true),(5,true),(3,true),(6,true),(7,true),(8,true),(9,false)] (.fl 5 (.weak (.fl 4 (.cut (.or 9 (.cut (.re [] (.weak (.leaf 0)))) (.stop))))))) [(0,true),(1,true),(2,true),(4,true),(5,true),(3,true),(6,true),(7,true),(8,true),(9,false)] [(2,[(3,2),(7,3),(8,2),(9,2)]),(3,[(7,3),(8,3),(9,3)]),(5,[(6,5),(7,6),(8,5),(9,5)]),(6,[(7,6),(8,6),(9,6)]),(7,[(8,7),(9,7)]),(8,[(9,8)]),(9,[])] (by kernel_rfl) ?_))))
      intro w10 hM' hww10;replace hM := hM'
      refine o_re (o_fl rfl (sm hE rfl fun a hE=>sm hE rfl fun a hE=>qp (j := i) hE rfl rfl arr26 (by first | rfl | omega) (by first | omega | decide) rfl fun a hE=>?_))
      refine sm hE rfl fun a hE=>qp (j := i) hE rfl rfl arr26 (by first | rfl | omega) (by first | omega | decide) rfl fun a hE=>?_
      refine qa (qh (vc (fun _ => False) (fun _ _ => trivial) (o_fl rfl ?_)))
      refine qy (j := i) hE rfl (by omega) (hM.get 2 rfl) (bv_get (by have hl_ : (xorI x (maskB k l n) i).length = 32 := ((xorI_length (hl_x.trans (maskB_len ..).symm) _).trans hl_x);first | omega | (rw [vj];omega) | (simp;omega))) one5 (by intro X h;cases h;simp) rfl fun a hE=>?_
      refine qy (j := i) hE rfl (by omega) (hM.get 0 rfl) (bv_get (by have hl_ : (maskB k l n).length = 32 := (maskB_len k l n);first | omega | (rw [vj];omega) | (simp;omega))) one5 (by intro X h;cases h;simp) rfl fun a hE=>?_
      refine sb hE rfl rfl (bin_xor8 (x := (xorI x (maskB k l n) i).getD i 0) (y := (maskB k l n).getD i 0)) fun a hE=>qp (j := i) hE rfl rfl arr26 (by first | rfl | omega) (by first | omega | decide) rfl fun a hE=>?_
      refine qa (qh (o_cut (fun b => b = b7) ?_))
      refine o_or rfl ?_ ?_
      ·replace hM : Mem _ _ w10 [_,_,_,_] := hM.pick [2,0,1,3] rfl
       refine s_storeIdx (j := i) hE rfl (by omega) rfl hM rfl rfl sz5 (by have hl_ : (xorI x (maskB k l n) i).length = 32 := ((xorI_length (hl_x.trans (maskB_len ..).symm) _).trans hl_x);first | omega | (rw [vj];omega) | (simp;omega)) (by intro X h;cases h;rfl) ?_;intro w11 hM
       first | rw [bv_set'] at hM | rw [bv_setI] at hM
       refine qa (qh (o_cut (fun _ => True) (o_re (vc (fun _ => False) (fun _ _ => trivial) (va rfl rfl (qa (q_ph (qa (qe (K7 (wpp (sm hE rfl fun a hE=>?_))))))))))))
       refine sb hE rfl rfl (show Bin _ _ _ _ _ (.int .i64 ((i + 1 : Nat) : Int)) from bin_add (by rw [wrap_i64 (by omega) (by omega)];omega)) fun a hE=>?_
       refine sas hE rfl fun a hE=>qa ?_
       replace hE := hE.cast 10 rfl (show _ = Value.int .i64 (((i + 1) : Nat) : Int) from (congrArg _ (by omega)))
       replace hM := Mem.blkB (p := (xorI x (maskB k l n) i).set i (((xorI x (maskB k l n) i).getD i 0) ^^^ ((maskB k l n).getD i 0))) (q := xorI x (maskB k l n) (i + 1)) hM (by rw [xorI_get (hl_x.trans (maskB_len ..).symm) (by omega)];exact xorI_set (hl_x.trans (maskB_len ..).symm) (by omega))
       replace hM : Mem _ _ w11 [_,_,_,_] := hM.pick [0,1,2,3] rfl
       replace hM : Mem _ _ w11 [_,_,_,_] := hM.pick [1,2,0,3] rfl
       exact ⟨i + 1,⟨by omega,hE.sel [7,8,9,10] rfl,hM⟩,by omega⟩
      trivial
     ·replace hb19 := of_decide_eq_false hb19
      replace hb19 : ¬ (i < 32) := by omega
      obtain rfl : 32 = i := by omega
      replace hM : Mem _ _ w9 [_,_,_,_] := hM.pick [2,0,1,3] rfl
      replace hM := Mem.blkB (p := xorI x (maskB k l n) 32) (q := wrapD k l n x) hM (by rw [← hl_x,xorI_all (hl_x.trans (maskB_len ..).symm)];rfl)
      refine wcf hE rfl (wp_exit (qc (qc (qg (K3 (ww1 fun _ K7=>wpp (ql hE rfl (hM.get 0 rfl) row26 rfl (by intro X h;cases h) rfl fun a hE=>?_)))))))
      replace hM : Mem _ _ w9 [_,_,_,_] := hM.pick [2,0,1,3] rfl
      refine qr 0 hE rfl rfl hM rfl sz26 ((vj _).trans (wrapD_len hl_x)) (ve _) rfl ((vj _).trans (by first | (simp;done) | (simp [*];done) | (simp;omega))) rfl (by intro X h;cases h) fun w10 hM=>?_
      simp only [List.set_cons_zero,List.set_cons_succ] at hM
      exact qa (K7 (wp_ret (qi hE rfl (res_cellN rfl (hM.get 0 rfl) row26 rfl) ⟨(by first | rfl | (simp;done)),hM.pick [] rfl⟩)))
    trivial
   trivial
  refine o_or rfl ?_ ?_
  ·refine qo [32] hE hM zero26 rfl rfl fun a b9 w6 hE hM=>qa (qh (o_cut (fun _ => True) (o_re (o_fl rfl (qa (qh (o_fl rfl (qa (qh ?_)))))))))
   refine o_or rfl ?_ ?_
   ·refine qn hE rfl Tryz.call45 (rsub_c k (str ((l ++ [32,112,97,100,32]) ++ (decW n))) _  hl_k (by show ((l ++ [32,112,97,100,32]) ++ (decW n)).length ≤ _;have hl_ : ((l ++ [32,112,97,100,32]) ++ (decW n)).length = l.length + ([32,112,97,100,32].length) + ((decW n).length) := (by first | (simp;done) | (simp [*];done) | (simp;omega));have hdw := decW_len n hn;simp only [List.length_append,List.length_cons,List.length_nil];omega)) rfl ?_
    rintro e w7 ⟨rfl,hN⟩
    refine ⟨_,rfl,hN.sta0 _,fun a hE=>?_⟩
    replace hM : Mem _ _ w7 [_,_,_,_] := hM.call0 hN trivial;clear hN
    replace hE := hE.cast 17 rfl (show _ = Value.agg (bv (subW k ((l ++ [32,112,97,100,32]) ++ (decW n)))).toArray from rfl)
    replace hE := hE.cast 17 rfl (show _ = Value.agg (bv (maskB k l n)).toArray from congrArg (fun q => Value.agg (bv (subW k q)).toArray) (by simp [boxL,padT,sealT]))
    refine qa (qh (o_re (o_fl rfl (qa (qh (o_fl rfl (qa (qh (vc (fun b => b = b9) (fun _ _ => trivial) ?_)))))))))
    refine o_or rfl ?_ ?_
    ·refine qr 0 hE rfl rfl hM rfl sz26 ((vj _).trans (maskB_len k l n)) (ve _) rfl ((vj _).trans (by first | (simp;done) | (simp [*];done) | (simp;omega))) rfl (by intro X h;cases h;rfl) fun w8 hM=>?_
     simp only [List.set_cons_zero,List.set_cons_succ] at hM
     refine qa (qh (o_cut (fun _ => True) (o_re (vc (fun _ => False) (fun _ _ => trivial) (va rfl rfl (qa (q_ph (qa (K2 (ww1 fun _ K3=>ww1 fun _ K4=>wpp ?_))))))))))
     refine sas hE rfl fun a hE=>qa (K4 (wp_block ?_))
     replace hM : Mem _ _ w8 [_,_,_,_] := hM.pick [2,0,1,3] rfl
     replace hM := Mem.blkB (p := x) (q := xorI x (maskB k l n) 0) hM ((xorI_zero ..).symm)
     replace hM : Mem _ _ w8 [_,_,_,_] := hM.pick [1,2,0,3] rfl
     refine c_loop (fun (i : Nat) a w' => i ≤ 32 ∧ Env a 32 [(7,.pointer (some ⟨b7,0,none⟩)),(8,.pointer (some ⟨b8,0,none⟩)),(9,.pointer (some ⟨b9,0,none⟩)),(10,.int .i64 ((i : Nat) : Int))] ∧ Mem w [] w' [blk b9 [bv (maskB k l n)] [32] 26,blk b8 [bv (List.replicate 32 (0 : UInt8))] [32] 26,blk b7 [bv (xorI x (maskB k l n) i)] [32] 26,blk b4 [bv k] [32] 26]) (fun i => 32 - i) 0 ⟨Nat.zero_le _,hE.sel [7,8,9,10] rfl,hM⟩ ?_
     rintro i a w9 ⟨hi,hE,hM⟩
     refine ww1 fun _ K5=>ww1 fun _ K6=>wpp (sm hE rfl fun a hE=>sb hE rfl rfl bin_lss fun a hE=>qa (K6 ?_))
     refine hE.split 19 rfl (fun hb19 hE=>?_) (fun hb19 hE=>?_)
     ·replace hb19 := of_decide_eq_true hb19
      replace hb19 : i < 32 := by omega
      replace hb19 : i < 32 := by omega
      refine wct hE rfl (wp_skip (K5 (ww1 fun _ K7=>wp_block (qz hM (by kernel_rfl) (fun _ => True) (fun _ => True) (.re [(0,true),(1,true),(2,true),(4,true),(5,true),(3,true),(6,true),(7,true),(8,true),(9,false)] (.fl 5 (.weak (.fl 4 (.cut (.or 9 (.cut (.re [] (.weak (.leaf 0)))) (.stop))))))) [(0,true),(1,true),(2,true),(4,true),(5,true),(3,true),(6,true),(7,true),(8,true),(9,false)] [(2,[(3,2),(7,3),(8,2),(9,2)]),(3,[(7,3),(8,3),(9,3)]),(5,[(6,5),(7,6),(8,5),(9,5)]),(6,[(7,6),(8,6),(9,6)]),(7,[(8,7),(9,7)]),(8,[(9,8)]),(9,[])] (by kernel_rfl) ?_))))
      intro w10 hM' hww10;replace hM := hM'
      refine o_re (o_fl rfl (sm hE rfl fun a hE=>sm hE rfl fun a hE=>qp (j := i) hE rfl rfl arr26 (by first | rfl | omega) (by first | omega | decide) rfl fun a hE=>?_))
      refine sm hE rfl fun a hE=>qp (j := i) hE rfl rfl arr26 (by first | rfl | omega) (by first | omega | decide) rfl fun a hE=>?_
      refine qa (qh (vc (fun _ => False) (fun _ _ => trivial) (o_fl rfl ?_)))
      refine qy (j := i) hE rfl (by omega) (hM.get 2 rfl) (bv_get (by have hl_ : (xorI x (maskB k l n) i).length = 32 := ((xorI_length (hl_x.trans (maskB_len ..).symm) _).trans hl_x);first | omega | (rw [vj];omega) | (simp;omega))) one5 (by intro X h;cases h;simp) rfl fun a hE=>?_
      refine qy (j := i) hE rfl (by omega) (hM.get 0 rfl) (bv_get (by have hl_ : (maskB k l n).length = 32 := (maskB_len k l n);first | omega | (rw [vj];omega) | (simp;omega))) one5 (by intro X h;cases h;simp) rfl fun a hE=>?_
      refine sb hE rfl rfl (bin_xor8 (x := (xorI x (maskB k l n) i).getD i 0) (y := (maskB k l n).getD i 0)) fun a hE=>qp (j := i) hE rfl rfl arr26 (by first | rfl | omega) (by first | omega | decide) rfl fun a hE=>?_
      refine qa (qh (o_cut (fun b => b = b7) ?_))
      refine o_or rfl ?_ ?_
      ·replace hM : Mem _ _ w10 [_,_,_,_] := hM.pick [2,0,1,3] rfl
       refine s_storeIdx (j := i) hE rfl (by omega) rfl hM rfl rfl sz5 (by have hl_ : (xorI x (maskB k l n) i).length = 32 := ((xorI_length (hl_x.trans (maskB_len ..).symm) _).trans hl_x);first | omega | (rw [vj];omega) | (simp;omega)) (by intro X h;cases h;rfl) ?_;intro w11 hM
       first | rw [bv_set'] at hM | rw [bv_setI] at hM
       refine qa (qh (o_cut (fun _ => True) (o_re (vc (fun _ => False) (fun _ _ => trivial) (va rfl rfl (qa (q_ph (qa (qe (K7 (wpp (sm hE rfl fun a hE=>?_))))))))))))
       refine sb hE rfl rfl (show Bin _ _ _ _ _ (.int .i64 ((i + 1 : Nat) : Int)) from bin_add (by rw [wrap_i64 (by omega) (by omega)];omega)) fun a hE=>?_
       refine sas hE rfl fun a hE=>qa ?_
       replace hE := hE.cast 10 rfl (show _ = Value.int .i64 (((i + 1) : Nat) : Int) from (congrArg _ (by omega)))
       replace hM := Mem.blkB (p := (xorI x (maskB k l n) i).set i (((xorI x (maskB k l n) i).getD i 0) ^^^ ((maskB k l n).getD i 0))) (q := xorI x (maskB k l n) (i + 1)) hM (by rw [xorI_get (hl_x.trans (maskB_len ..).symm) (by omega)];exact xorI_set (hl_x.trans (maskB_len ..).symm) (by omega))
       replace hM : Mem _ _ w11 [_,_,_,_] := hM.pick [0,1,2,3] rfl
       replace hM : Mem _ _ w11 [_,_,_,_] := hM.pick [1,2,0,3] rfl
       exact ⟨i + 1,⟨by omega,hE.sel [7,8,9,10] rfl,hM⟩,by omega⟩
      trivial
     ·replace hb19 := of_decide_eq_false hb19
      replace hb19 : ¬ (i < 32) := by omega
      obtain rfl : 32 = i := by omega
      replace hM : Mem _ _ w9 [_,_,_,_] := hM.pick [2,0,1,3] rfl
      replace hM := Mem.blkB (p := xorI x (maskB k l n) 32) (q := wrapD k l n x) hM (by rw [← hl_x,xorI_all (hl_x.trans (maskB_len ..).symm)];rfl)
      refine wcf hE rfl (wp_exit (qc (qc (qg (K3 (ww1 fun _ K7=>wpp (ql hE rfl (hM.get 0 rfl) row26 rfl (by intro X h;cases h) rfl fun a hE=>?_)))))))
      replace hM : Mem _ _ w9 [_,_,_,_] := hM.pick [2,0,1,3] rfl
      refine qr 0 hE rfl rfl hM rfl sz26 ((vj _).trans (wrapD_len hl_x)) (ve _) rfl ((vj _).trans (by first | (simp;done) | (simp [*];done) | (simp;omega))) rfl (by intro X h;cases h) fun w10 hM=>?_
      simp only [List.set_cons_zero,List.set_cons_succ] at hM
      exact qa (K7 (wp_ret (qi hE rfl (res_cellN rfl (hM.get 0 rfl) row26 rfl) ⟨(by first | rfl | (simp;done)),hM.pick [] rfl⟩)))
    trivial
   trivial
  trivial
 refine o_or rfl ?_ ?_
 ·refine qo [32] hE hM zero26 rfl rfl fun a b9 w5 hE hM=>qa (qh (o_re (o_fl rfl (qa (qh (o_fl rfl (qa (qh ?_))))))))
  refine o_or rfl ?_ ?_
  ·refine qn hE rfl Tryz.call46 (rdec_c n _ (by first | omega | assumption | (simp;done) | (simp;omega) | decide)) rfl ?_
   rintro e w6 ⟨rfl,hN⟩
   refine ⟨_,rfl,hN.sta0 _,fun a hE=>?_⟩
   replace hM : Mem _ _ w6 [_,_,_,_] := hM.call0 hN trivial;clear hN
   refine qa (qh (o_re (o_fl rfl ?_)))
   refine sb hE rfl rfl (show Bin _ _ _ (.string (str (l ++ [32,112,97,100,32]))) (.string (str (decW n))) (.string (str ((l ++ [32,112,97,100,32]) ++ (decW n)))) from bin_strs (by have hl_x : (l ++ [32,112,97,100,32]).length = l.length + ([32,112,97,100,32].length) := (by first | (simp;done) | (simp [*];done) | (simp;omega));first | omega | (simp;done) | (simp;omega))) fun a hE=>?_
   refine qa (qh (o_fl rfl (qa (qh ?_))))
   refine o_or rfl ?_ ?_
   ·refine qn hE rfl Tryz.call45 (rsub_c k (str ((l ++ [32,112,97,100,32]) ++ (decW n))) _  hl_k (by show ((l ++ [32,112,97,100,32]) ++ (decW n)).length ≤ _;have hl_ : ((l ++ [32,112,97,100,32]) ++ (decW n)).length = l.length + ([32,112,97,100,32].length) + ((decW n).length) := (by first | (simp;done) | (simp [*];done) | (simp;omega));have hdw := decW_len n hn;simp only [List.length_append,List.length_cons,List.length_nil];omega)) rfl ?_
    rintro e w7 ⟨rfl,hN⟩
    refine ⟨_,rfl,hN.sta0 _,fun a hE=>?_⟩
    replace hM : Mem _ _ w7 [_,_,_,_] := hM.call0 hN trivial;clear hN
    replace hE := hE.cast 17 rfl (show _ = Value.agg (bv (subW k ((l ++ [32,112,97,100,32]) ++ (decW n)))).toArray from rfl)
    replace hE := hE.cast 17 rfl (show _ = Value.agg (bv (maskB k l n)).toArray from congrArg (fun q => Value.agg (bv (subW k q)).toArray) (by simp [boxL,padT,sealT]))
    refine qa (qh (o_cut (fun _ => True) (o_re (o_fl rfl (qa (qh (o_fl rfl (qa (qh (vc (fun b => b = b9) (fun _ _ => trivial) ?_))))))))))
    refine o_or rfl ?_ ?_
    ·refine qr 0 hE rfl rfl hM rfl sz26 ((vj _).trans (maskB_len k l n)) (ve _) rfl ((vj _).trans (by first | (simp;done) | (simp [*];done) | (simp;omega))) rfl (by intro X h;cases h;rfl) fun w8 hM=>?_
     simp only [List.set_cons_zero,List.set_cons_succ] at hM
     refine qa (qh (o_cut (fun _ => True) (o_re (vc (fun _ => False) (fun _ _ => trivial) (va rfl rfl (qa (q_ph (qa (K2 (ww1 fun _ K3=>ww1 fun _ K4=>wpp ?_))))))))))
     refine sas hE rfl fun a hE=>qa (K4 (wp_block ?_))
     replace hM : Mem _ _ w8 [_,_,_,_] := hM.pick [2,0,1,3] rfl
     replace hM := Mem.blkB (p := x) (q := xorI x (maskB k l n) 0) hM ((xorI_zero ..).symm)
     replace hM : Mem _ _ w8 [_,_,_,_] := hM.pick [1,2,0,3] rfl
     refine c_loop (fun (i : Nat) a w' => i ≤ 32 ∧ Env a 32 [(7,.pointer (some ⟨b7,0,none⟩)),(8,.pointer (some ⟨b8,0,none⟩)),(9,.pointer (some ⟨b9,0,none⟩)),(10,.int .i64 ((i : Nat) : Int))] ∧ Mem w [] w' [blk b9 [bv (maskB k l n)] [32] 26,blk b8 [bv (List.replicate 32 (0 : UInt8))] [32] 26,blk b7 [bv (xorI x (maskB k l n) i)] [32] 26,blk b4 [bv k] [32] 26]) (fun i => 32 - i) 0 ⟨Nat.zero_le _,hE.sel [7,8,9,10] rfl,hM⟩ ?_
     rintro i a w9 ⟨hi,hE,hM⟩
     refine ww1 fun _ K5=>ww1 fun _ K6=>wpp (sm hE rfl fun a hE=>sb hE rfl rfl bin_lss fun a hE=>qa (K6 ?_))
     refine hE.split 19 rfl (fun hb19 hE=>?_) (fun hb19 hE=>?_)
     ·replace hb19 := of_decide_eq_true hb19
      replace hb19 : i < 32 := by omega
      replace hb19 : i < 32 := by omega
      refine wct hE rfl (wp_skip (K5 (ww1 fun _ K7=>wp_block (qz hM (by kernel_rfl) (fun _ => True) (fun _ => True) (.re [(0,true),(1,true),(2,true),(4,true),(5,true),(3,true),(6,true),(7,true),(8,true),(9,false)] (.fl 5 (.weak (.fl 4 (.cut (.or 9 (.cut (.re [] (.weak (.leaf 0)))) (.stop))))))) [(0,true),(1,true),(2,true),(4,true),(5,true),(3,true),(6,true),(7,true),(8,true),(9,false)] [(2,[(3,2),(7,3),(8,2),(9,2)]),(3,[(7,3),(8,3),(9,3)]),(5,[(6,5),(7,6),(8,5),(9,5)]),(6,[(7,6),(8,6),(9,6)]),(7,[(8,7),(9,7)]),(8,[(9,8)]),(9,[])] (by kernel_rfl) ?_))))
      intro w10 hM' hww10;replace hM := hM'
      refine o_re (o_fl rfl (sm hE rfl fun a hE=>sm hE rfl fun a hE=>qp (j := i) hE rfl rfl arr26 (by first | rfl | omega) (by first | omega | decide) rfl fun a hE=>?_))
      refine sm hE rfl fun a hE=>qp (j := i) hE rfl rfl arr26 (by first | rfl | omega) (by first | omega | decide) rfl fun a hE=>?_
      refine qa (qh (vc (fun _ => False) (fun _ _ => trivial) (o_fl rfl ?_)))
      refine qy (j := i) hE rfl (by omega) (hM.get 2 rfl) (bv_get (by have hl_ : (xorI x (maskB k l n) i).length = 32 := ((xorI_length (hl_x.trans (maskB_len ..).symm) _).trans hl_x);first | omega | (rw [vj];omega) | (simp;omega))) one5 (by intro X h;cases h;simp) rfl fun a hE=>?_
      refine qy (j := i) hE rfl (by omega) (hM.get 0 rfl) (bv_get (by have hl_ : (maskB k l n).length = 32 := (maskB_len k l n);first | omega | (rw [vj];omega) | (simp;omega))) one5 (by intro X h;cases h;simp) rfl fun a hE=>?_
      refine sb hE rfl rfl (bin_xor8 (x := (xorI x (maskB k l n) i).getD i 0) (y := (maskB k l n).getD i 0)) fun a hE=>qp (j := i) hE rfl rfl arr26 (by first | rfl | omega) (by first | omega | decide) rfl fun a hE=>?_
      refine qa (qh (o_cut (fun b => b = b7) ?_))
      refine o_or rfl ?_ ?_
      ·replace hM : Mem _ _ w10 [_,_,_,_] := hM.pick [2,0,1,3] rfl
       refine s_storeIdx (j := i) hE rfl (by omega) rfl hM rfl rfl sz5 (by have hl_ : (xorI x (maskB k l n) i).length = 32 := ((xorI_length (hl_x.trans (maskB_len ..).symm) _).trans hl_x);first | omega | (rw [vj];omega) | (simp;omega)) (by intro X h;cases h;rfl) ?_;intro w11 hM
       first | rw [bv_set'] at hM | rw [bv_setI] at hM
       refine qa (qh (o_cut (fun _ => True) (o_re (vc (fun _ => False) (fun _ _ => trivial) (va rfl rfl (qa (q_ph (qa (qe (K7 (wpp (sm hE rfl fun a hE=>?_))))))))))))
       refine sb hE rfl rfl (show Bin _ _ _ _ _ (.int .i64 ((i + 1 : Nat) : Int)) from bin_add (by rw [wrap_i64 (by omega) (by omega)];omega)) fun a hE=>?_
       refine sas hE rfl fun a hE=>qa ?_
       replace hE := hE.cast 10 rfl (show _ = Value.int .i64 (((i + 1) : Nat) : Int) from (congrArg _ (by omega)))
       replace hM := Mem.blkB (p := (xorI x (maskB k l n) i).set i (((xorI x (maskB k l n) i).getD i 0) ^^^ ((maskB k l n).getD i 0))) (q := xorI x (maskB k l n) (i + 1)) hM (by rw [xorI_get (hl_x.trans (maskB_len ..).symm) (by omega)];exact xorI_set (hl_x.trans (maskB_len ..).symm) (by omega))
       replace hM : Mem _ _ w11 [_,_,_,_] := hM.pick [0,1,2,3] rfl
       replace hM : Mem _ _ w11 [_,_,_,_] := hM.pick [1,2,0,3] rfl
       exact ⟨i + 1,⟨by omega,hE.sel [7,8,9,10] rfl,hM⟩,by omega⟩
      trivial
     ·replace hb19 := of_decide_eq_false hb19
      replace hb19 : ¬ (i < 32) := by omega
      obtain rfl : 32 = i := by omega
      replace hM : Mem _ _ w9 [_,_,_,_] := hM.pick [2,0,1,3] rfl
      replace hM := Mem.blkB (p := xorI x (maskB k l n) 32) (q := wrapD k l n x) hM (by rw [← hl_x,xorI_all (hl_x.trans (maskB_len ..).symm)];rfl)
      refine wcf hE rfl (wp_exit (qc (qc (qg (K3 (ww1 fun _ K7=>wpp (ql hE rfl (hM.get 0 rfl) row26 rfl (by intro X h;cases h) rfl fun a hE=>?_)))))))
      replace hM : Mem _ _ w9 [_,_,_,_] := hM.pick [2,0,1,3] rfl
      refine qr 0 hE rfl rfl hM rfl sz26 ((vj _).trans (wrapD_len hl_x)) (ve _) rfl ((vj _).trans (by first | (simp;done) | (simp [*];done) | (simp;omega))) rfl (by intro X h;cases h) fun w10 hM=>?_
      simp only [List.set_cons_zero,List.set_cons_succ] at hM
      exact qa (K7 (wp_ret (qi hE rfl (res_cellN rfl (hM.get 0 rfl) row26 rfl) ⟨(by first | rfl | (simp;done)),hM.pick [] rfl⟩)))
    trivial
   trivial
  trivial
 trivial
theorem rseal_c (k : List UInt8) (l : List UInt8) (n : Nat) (w : World) (hl_k : k.length = 32) (hn : n < 18446744073709551616) (hl : l.length ≤ 2000) : Calls Tryz.prog 33 #[.agg (bv k).toArray,.string (str l),.int .u64 (n : Int)] w fun e w' => ∃ v',e = .returned (v') ∧ Mem w [] w' [own v' 1 (sealB k l n).length (bv (sealB k l n))] := by
 have hdw := decW_len n hn
 have hM := Mem.start0 w
 refine vf 15 Tryz.func33 rfl rfl rfl ?_
 intro a hE
 replace hE : Env a 15 [(0,_),(1,_),(2,_)] := hE
 refine ww1 fun _ K1=>wpp (s_box (ss := [bv k]) [32] hE hM rfl (by simp [Value.cells]) (by simp [*]) rfl fun a b3 w1 hE hM=>?_)
 refine sas hE rfl fun a hE=>qa (K1 (ww1 fun _ K2=>wp_drawnM hM (by kernel_rfl) (fun _ => False) [(0,true),(1,true),(2,true),(3,true),(4,false),(5,true),(6,false),(7,false),(8,true)] [(4,[(5,4),(6,4),(7,6),(8,4)]),(6,[(7,6),(8,6)]),(7,[(8,7)])] (by kernel_rfl) rfl ?_))
 intro w2 hM' hww2;replace hM := hM'
 refine ql hE rfl (hM.get 0 rfl) row26 rfl (by intro X h;cases h;simp) rfl fun a hE=>?_
 refine sm hE rfl fun a hE=>sb hE rfl rfl (show Bin _ _ _ (.string (str l)) (.string (str [32,115,101,97,108,32])) (.string (str (l ++ [32,115,101,97,108,32]))) from bin_strs (by first | omega | (simp;done) | (simp;omega))) fun a hE=>?_
 refine sm hE rfl fun a hE=>qn hE rfl Tryz.call46 (rdec_c n _ (by first | omega | assumption | (simp;done) | (simp;omega) | decide)) rfl ?_
 rintro e w3 ⟨rfl,hN⟩
 refine ⟨_,rfl,hN.sta0 _,fun a hE=>?_⟩
 replace hM : Mem _ _ w3 [_] := hM.call0 hN trivial;clear hN
 refine sb hE rfl rfl (show Bin _ _ _ (.string (str (l ++ [32,115,101,97,108,32]))) (.string (str (decW n))) (.string (str ((l ++ [32,115,101,97,108,32]) ++ (decW n)))) from bin_strs (by have hl_x : (l ++ [32,115,101,97,108,32]).length = l.length + ([32,115,101,97,108,32].length) := (by first | (simp;done) | (simp [*];done) | (simp;omega));first | omega | (simp;done) | (simp;omega))) fun a hE=>?_
 refine qn hE rfl Tryz.call45 (rsub_c k (str ((l ++ [32,115,101,97,108,32]) ++ (decW n))) _  hl_k (by show ((l ++ [32,115,101,97,108,32]) ++ (decW n)).length ≤ _;have hl_ : ((l ++ [32,115,101,97,108,32]) ++ (decW n)).length = l.length + ([32,115,101,97,108,32].length) + ((decW n).length) := (by first | (simp;done) | (simp [*];done) | (simp;omega));have hdw := decW_len n hn;simp only [List.length_append,List.length_cons,List.length_nil];omega)) rfl ?_
 rintro e w4 ⟨rfl,hN⟩
 refine ⟨_,rfl,hN.sta0 _,fun a hE=>?_⟩
 replace hM : Mem _ _ w4 [_] := hM.call0 hN trivial;clear hN
 replace hE := hE.cast 13 rfl (show _ = Value.agg (bv (subW k ((l ++ [32,115,101,97,108,32]) ++ (decW n)))).toArray from rfl)
 replace hE := hE.cast 13 rfl (show _ = Value.agg (bv (sealB k l n)).toArray from congrArg (fun q => Value.agg (bv (subW k q)).toArray) (by simp [boxL,padT,sealT]))
 refine qn hE rfl Tryz.call49 (rb10_c (sealB k l n) _ (sealB_len k l n)) rfl ?_
 rintro e w5 ⟨v14,rfl,hN⟩
 refine ⟨_,rfl,hN.sta0 _,fun a hE=>?_⟩
 replace hM : Mem _ _ w5 [_,_] := hM.call0 hN ⟨rfl,trivial⟩;clear hN
 refine sas hE rfl fun a hE=>qa (K2 (wp_ret (qi hE rfl rfl ?_)))
 replace hM := Mem.ownB (p := (sealB k l n)) (q := sealB k l n) hM (by first | with_reducible rfl | (simp;done) | (simp [*];done) | rfl)
 exact ⟨_,(by first | rfl | (simp;done)),hM.pick [0] rfl⟩
theorem rdigits_c (z : Nat) (m : Nat) (w : World) (hm : m < 18446744073709551616) (hk : z ≤ 8) : Calls Tryz.prog 64 #[.int .i64 (z : Int),.int .u64 (m : Int)] w fun e w' => ∃ v',e = .returned (v') ∧ Mem w [] w' [own v' 1 (laid z m).length (bv (laid z m))] := by
 have hM := Mem.start0 w
 refine vf 24 Tryz.func64 rfl rfl rfl ?_
 intro a hE
 replace hE : Env a 24 [(0,_),(1,_)] := hE
 refine ww1 fun _ K1=>wpp (sas hE rfl fun a hE=>qa (K1 (ww1 fun _ K2=>wpp (sm hE rfl fun a hE=>s_makeSlice (m := z) (zc := [bV 0]) hE rfl rfl hM sl66 ⟨.int .u8 0,by kernel_rfl,rfl⟩ rfl rfl (by omega) (by omega) (by decide) rfl fun a v8 w1 hE hM=>?_))))
 replace hM := hM.ownEq (m' := (List.replicate z (0 : UInt8)).length) (cs' := bv (List.replicate z (0 : UInt8))) (by simp) (by simp [bv])
 refine sas hE rfl fun a hE=>qa (K2 (ww1 fun _ K3=>ww1 fun _ K4=>wpp (sm hE rfl fun a hE=>sb hE rfl rfl (bin_sub (wrap_i64 (by omega) (by omega))) fun a hE=>?_)))
 refine sas hE rfl fun a hE=>qa (K4 (wp_block ?_))
 replace hM := Mem.ownB (p := List.replicate z (0 : UInt8)) (q := List.replicate (z - 0) 0 ++ laid 0 m) hM (by simp [laid])
 replace hE := hE.cast 6 rfl (show _ = Value.int .i64 ((z : Int) - 1 - ((0 : Nat) : Int)) from (by first | rfl | simp))
 replace hE := hE.cast 1 rfl (show _ = Value.int .u64 ((m / 256 ^ 0 : Nat) : Int) from (by first | rfl | simp))
 refine c_loop (fun (j : Nat) a w' => j ≤ z ∧ Env a 24 [(0,.int .i64 ((z : Nat) : Int)),(1,.int .u64 ((m / 256 ^ j : Nat) : Int)),(4,.slice none 0 0),(5,v8),(6,.int .i64 ((z : Int) - 1 - ((j : Nat) : Int)))] ∧ Mem w [] w' [own v8 1 (List.replicate (z - j) 0 ++ laid j m).length (bv (List.replicate (z - j) 0 ++ laid j m))]) (fun j => z - j) 0 ⟨Nat.zero_le _,hE.sel [0,1,4,5,6] rfl,hM⟩ ?_
 rintro j a w2 ⟨hj,hE,hM⟩
 refine ww1 fun _ K5=>ww1 fun _ K6=>wpp (sm hE rfl fun a hE=>sb hE rfl rfl bin_geq fun a hE=>qa (K6 ?_))
 refine hE.split 12 rfl (fun hb12 hE=>?_) (fun hb12 hE=>?_)
 ·replace hb12 := of_decide_eq_true hb12
  replace hb12 : j < z := by omega
  refine wct hE rfl (wp_skip (K5 (ww1 fun _ K7=>wp_block (ww1 fun _ K8=>wpp (sm hE rfl fun a hE=>sm hE rfl fun a hE=>sm hE rfl fun a hE=>?_)))))
  refine sb hE rfl rfl (bin_rem_nat (m := (m / 256 ^ j)) (s := 256) (by decide)) fun a hE=>?_
  refine qx hE rfl (cnv_int Tryz.underlying24 Tryz.underlying5 (wrap_u8_ofNat ((m / 256 ^ j) % 256))) rfl fun a hE=>?_
  refine s_indexOwn (j := z - 1 - j) hE rfl (hM.get 0 rfl) rfl slt66 (by first | rfl | omega) (by have hl_ : (List.replicate (z - j) 0 ++ laid j m).length = z := (numI_len (by omega));first | omega | (rw [vj];omega) | (simp;omega)) rfl ?_;intro a hE hc20
  refine s_storeOwn (vs := [_]) hE rfl rfl hM rfl sz5 rfl (one1 rfl) (by have hl_ : (List.replicate (z - j) 0 ++ laid j m).length = z := (numI_len (by omega));first | omega | (simp;omega)) (by have hl_ : (List.replicate (z - j) 0 ++ laid j m).length = z := (numI_len (by omega));first | omega | (simp;omega)) (by intro X h;cases h) ?_;intro w3 hM
  replace hM := Mem.ownSet (p := List.replicate (z - j) 0 ++ laid j m) (j := z - 1 - j) (b := UInt8.ofNat ((m / 256 ^ j) % 256)) hM (by have hl_ : (List.replicate (z - j) 0 ++ laid j m).length = z := (numI_len (by omega));first | omega | (rw [vj];omega) | (simp;omega))
  refine qa (K8 (wpp (sm hE rfl fun a hE=>sb hE rfl rfl (bin_quo_nat (m := (m / 256 ^ j)) (s := 256) (by decide) (wrap_u64n (div_lt64 (by first | omega | exact div_lt64 (by omega) | exact div_lt64 (by assumption))))) fun a hE=>?_)))
  refine sas hE rfl fun a hE=>qa (qe (K7 (wpp (sm hE rfl fun a hE=>sb hE rfl rfl (bin_sub (wrap_i64 (by omega) (by omega))) fun a hE=>?_))))
  refine sas hE rfl fun a hE=>qa ?_
  replace hE := hE.cast 1 rfl (show _ = Value.int .u64 ((m / 256 ^ (j + 1) : Nat) : Int) from (by rw [Nat.div_div_eq_div_mul,← Nat.pow_succ]))
  replace hE := hE.cast 6 rfl (show _ = Value.int .i64 ((z : Int) - 1 - (((j + 1) : Nat) : Int)) from (congrArg _ (by omega)))
  replace hM := Mem.ownB (p := (List.replicate (z - j) 0 ++ laid j m).set (z - 1 - j) (UInt8.ofNat ((m / 256 ^ j) % 256))) (q := List.replicate (z - (j + 1)) 0 ++ laid (j + 1) m) hM (numI_set (by omega))
  replace hM : Mem _ _ w3 [_] := hM.pick [0] rfl
  exact ⟨j + 1,⟨by omega,hE.sel [0,1,4,5,6] rfl,hM⟩,by omega⟩
 ·replace hb12 := of_decide_eq_false hb12
  obtain rfl : z = j := by omega
  replace hM := Mem.ownB (p := List.replicate (z - z) 0 ++ laid z m) (q := laid z m) hM (by simp)
  refine wcf hE rfl (wp_exit (qc (qc (qg (K3 (ww1 fun _ K7=>wpp (sm hE rfl fun a hE=>sas hE rfl fun a hE=>?_)))))))
  exact qa (K7 (wp_ret (qi hE rfl rfl ⟨_,(by first | rfl | (simp;done)),hM.pick [0] rfl⟩)))
theorem refDigits_c (k m : Nat) (w : World) (hk : k ≤ 8) (hm : m < 2 ^ 64) : Calls Tryz.prog 64 #[.int .i64 k,.int .u64 m] w fun e w' => ∃ v',e = .returned v' ∧ Mem w [] w' [own v' 1 k (bv (laid k m))] := by
 have h := rdigits_c k m w hm hk
 rw [laid_length] at h
 exact h
theorem refRow_c (dm : UInt8) (bb : List Nat) (ps : List (List UInt8)) (v : Value) (vs : List Value) (c : Nat) (w : World) (hv : (rd v 1 ps.length c vs).holds w) (hp : (rdv bb vs ps).holds w) (hlen : rowBytes ps ≤ 140737488355328) : Calls Tryz.prog 50 #[.int .u8 dm.toNat,v] w fun e w' => ∃ v',e = .returned (.tuple #[v',.int .i64 (((pRow dm ps).2 : Nat) : Int)]) ∧ Mem w [] w' [own v' 1 (pRow dm ps).1.length (bv (pRow dm ps).1)] := by
 have hM := Mem.startR2 hv hp rfl rfl
 have hvl : vs.length = ps.length := by have := hv.1;omega
 refine vf 38 Tryz.func50 rfl rfl rfl ?_
 intro a hE
 replace hE : Env a 38 [(0,_),(1,_)] := hE
 refine ww1 fun _ K1=>wpp (sas hE rfl fun a hE=>sas hE rfl fun a hE=>qa (K1 (ww1 fun _ K2=>ww1 fun _ K3=>wpp (sm hE rfl fun a hE=>?_))))
 refine s_len hE rfl Tryz.underlying93 (rd_slice (hM.get 0 rfl)) rfl fun a hE=>sb hE rfl rfl bin_gtr fun a hE=>qa (K3 ?_)
 refine hE.split 10 rfl (fun hb10 hE=>?_) (fun hb10 hE=>?_)
 ·replace hb10 := of_decide_eq_true hb10
  refine wct hE rfl (ww1 fun _ K4=>wpp (sas hE rfl fun a hE=>sas hE rfl fun a hE=>qa (K4 (wp_ret (qb (qj hE rfl rfl rfl ?_))))))
  have hq : pRow dm ps = ([],3) := by unfold pRow;rw [if_pos (by omega)]
  rw [hq];exact ⟨_,rfl,hM.nil.addNil 1⟩
 ·replace hb10 := of_decide_eq_false hb10
  refine wcf hE rfl (wp_skip (K2 (ww1 fun _ K4=>wpp (sm hE rfl fun a hE=>sm hE rfl fun a hE=>s_len hE rfl Tryz.underlying93 (rd_slice (hM.get 0 rfl)) rfl fun a hE=>qx hE rfl (cnv_int Tryz.underlying3 Tryz.underlying5 (wrap_u8_ofNat _)) rfl fun a hE=>qv (xs := [.tmp 11,.tmp 14]) (bv [dm,UInt8.ofNat ps.length]) hE hM sl66 rfl rfl rfl (by intro v hv;simp at hv;rcases hv with rfl | rfl <;> rfl) rfl rfl rfl rfl fun a v15 w1 hE hM=>?_))))
  refine sas hE rfl fun a hE=>qa (K4 (ww1 fun _ K5=>ww1 fun _ K6=>wpp (sas hE rfl fun a hE=>qa (K6 (wp_block ?_)))))
  refine c_loop (fun (i : Nat) a w' => i ≤ ps.length ∧ ∃ vo,Env a 38 [(1,v),(6,vo),(7,.int .i64 i)] ∧ Mem w [] w' [own vo 1 (rowBs dm ps i).length (bv (rowBs dm ps i)),rd v 1 ps.length c vs,rdv bb vs ps]) (fun i => ps.length - i) 0 ⟨Nat.zero_le _,_,hE.sel [1,6,7] rfl,hM⟩ ?_
  rintro i a w9 ⟨hi,vo,hE,hM⟩
  refine ww1 fun _ K7=>ww1 fun _ K8=>wpp (sm hE rfl fun a hE=>sm hE rfl fun a hE=>s_len hE rfl Tryz.underlying93 (rd_slice (hM.get 1 rfl)) rfl fun a hE=>sb hE rfl rfl bin_lss fun a hE=>qa (K8 ?_))
  refine hE.split 19 rfl (fun hb19 hE=>?_) (fun hb19 hE=>?_)
  ·replace hb19 := of_decide_eq_true hb19
   have hle := rowBs_le dm ps (i + 1)
   rw [rowBs_succ (by omega)] at hle
   simp only [List.length_append,laid_length] at hle
   refine wct hE rfl (wp_skip (K7 (ww1 fun _ K9=>wp_block (ww1 fun _ K10=>wpp (sm hE rfl fun a hE=>sm hE rfl fun a hE=>sm hE rfl fun a hE=>?_)))))
   refine qu (j := i) hE rfl (hM.get 1 rfl) rfl slt93 (by first | rfl | omega) (by first | omega | (simp;omega) | decide) rfl fun a p25 hE hc25 hp25=>?_
   rw [elem1 (by omega)] at hc25
   refine qt hE rfl hc25 one66 (by intro X h;cases h) rfl fun a hE=>?_
   refine s_len hE rfl Tryz.underlying66 (rd_slice (Exists.choose_spec (rdv_get (hM.get 2 rfl) (i := i) (by omega)))) rfl fun a hE=>?_
   refine qx hE rfl (cnv_int Tryz.underlying3 Tryz.underlying24 (wrap_u64 (by omega) (by omega))) rfl fun a hE=>?_
   refine qn hE rfl Tryz.call64 (refDigits_c 4 (ps.getD i []).length _ (by omega) (by omega)) rfl ?_
   rintro e w10 ⟨vd,rfl,hN⟩
   refine ⟨_,rfl,trivial,fun a hE=>?_⟩
   replace hM : Mem _ _ w10 [_,_,_,_] := hM.call0 hN ⟨rfl,trivial⟩;clear hN
   replace hM : Mem _ _ w10 [_,_,_,_] := hM.pick [1,0,2,3] rfl
   obtain ⟨cy,hy⟩ := own_rd (hM.get 1 rfl)
   refine qw hE rfl rfl hM sl66 (Src.rd Tryz.underlying66 hy (ve _)) (len47 (by omega)) (by omega) (by intro X h;cases h) rfl ?_;clear hy;intro a v30 w11 hE hM
   replace hM : Mem _ _ w11 [_,_,_] := hM.pick [0,2,3] rfl
   refine sas hE rfl fun a hE=>qa (K10 (wpp (sm hE rfl fun a hE=>sm hE rfl fun a hE=>sm hE rfl fun a hE=>qu (j := i) hE rfl (hM.get 1 rfl) rfl slt93 (by first | rfl | omega) (by first | omega | (simp;omega) | decide) rfl fun a p34 hE hc34 hp34=>?_)))
   rw [elem1 (by omega)] at hc34
   refine qt hE rfl hc34 one66 (by intro X h;cases h) rfl fun a hE=>?_
   obtain ⟨ca,hpi2⟩ := rdv_get (hM.get 2 rfl) (i := i) (by omega)
   refine qw hE rfl rfl hM sl66 (Src.rd Tryz.underlying66 hpi2 (ve _)) (len47 (by omega)) (by omega) (by intro X h;cases h) rfl ?_;clear hpi2;intro a v36 w12 hE hM
   refine sas hE rfl fun a hE=>qa (qe (K9 (wpp (sm hE rfl fun a hE=>sb hE rfl rfl (bin_add (wrap_i64 (by omega) (by omega))) fun a hE=>?_))))
   refine sas hE rfl fun a hE=>qa ?_
   replace hE := hE.cast 7 rfl (show _ = Value.int .i64 ((i + 1 : Nat) : Int) from congrArg _ (by omega))
   refine ⟨i + 1,⟨by omega,_,hE.sel [1,6,7] rfl,?_⟩,by omega⟩
   rw [rowBs_succ (by omega)];simpa [Nat.add_assoc] using hM
  ·replace hb19 := of_decide_eq_false hb19
   obtain rfl : i = ps.length := by omega
   refine wcf hE rfl (wp_exit (qc (qc (qg (K5 (ww1 fun _ K9=>wpp (sm hE rfl fun a hE=>sas hE rfl fun a hE=>?_)))))))
   refine sas hE rfl fun a hE=>qa (K9 (wp_ret (qj hE rfl rfl rfl ?_)))
   have hq : pRow dm ps = (rowBs dm ps ps.length,0) := by unfold pRow;rw [if_neg (by omega)]
   rw [hq];exact ⟨_,rfl,hM.pick [0] rfl⟩
theorem rrow10_c (x : List UInt8) (w : World) (hl_x : x.length = 32) : Calls Tryz.prog 34 #[.agg (bv x).toArray] w fun e w' => ∃ v',e = .returned (v') ∧ Mem w [] w' [own v' 1 (plT 66 x).length (bv (plT 66 x))] := by
 have hM := Mem.start0 w
 refine vf 13 Tryz.func34 rfl rfl rfl ?_
 intro a hE
 replace hE : Env a 13 [(0,_)] := hE
 refine ww1 fun _ K1=>wpp (s_box (ss := [bv x]) [32] hE hM rfl (by simp [Value.cells]) (by simp [*]) rfl fun a b1 w1 hE hM=>?_)
 refine sas hE rfl fun a hE=>qa (K1 (ww1 fun _ K2=>wp_plain [true,false,false,false,true,true,true,true,true] rfl rfl (ql hE rfl (hM.get 0 rfl) row26 rfl (by intro X h;cases h) rfl fun a hE=>?_)))
 refine qn hE rfl Tryz.call49 (rb10_c x _ hl_x) rfl ?_
 rintro e w2 ⟨v7,rfl,hN⟩
 refine ⟨_,rfl,trivial,fun a hE=>?_⟩
 replace hM : Mem _ _ w2 [_,_] := hM.call0 hN ⟨rfl,trivial⟩;clear hN
 have ho8_0 := own_one (hM.get 0 rfl)
 refine qv (xs := [.tmp 7]) ([v7]) hE hM sl93 rfl rfl rfl (by intro v hv;rw [List.mem_singleton.1 hv];rw [ho8_0.1];rfl) (by first | (simp [ho8_0.1];done) | (simp [ho8_0.1,Value.cells];done)) rfl rfl rfl fun a v8 w3 hE hM=>?_
 obtain ⟨cl1,hl1⟩ := own_rd (hM.get 0 rfl)
 obtain ⟨cz1,hz1⟩ := own_rd (hM.get 1 rfl)
 refine qn hE rfl Tryz.call50 ((by have h := refRow_c 66 _ [x] _ _ _ _ hl1 (rdv_cons (p := x) hz1 (rdv_nil _)) (by have hl_ : x.length = 32 := (by first | assumption | simp [*]);simp [rowBytes];omega);rw [plT_ok] at h;exact h)) rfl ?_
 rintro e w4 ⟨v9,rfl,hN⟩
 refine ⟨_,rfl,trivial,fun a hE=>?_⟩
 replace hM : Mem _ _ w4 [_,_,_,_] := hM.call0 hN ⟨rfl,trivial⟩;clear hN
 refine sm hE rfl fun a hE=>sx hE rfl fun a hE=>sx hE rfl fun a hE=>sas hE rfl fun a hE=>sas hE rfl fun a hE=>qa (K2 (ww1 fun _ K3=>wpp (sm hE rfl fun a hE=>?_)))
 exact sas hE rfl fun a hE=>qa (K3 (wp_ret (qi hE rfl rfl ⟨_,(by first | rfl | (simp;done)),hM.pick [0] rfl⟩)))
theorem rwrap_c (k : List UInt8) (l : List UInt8) (n : Nat) (x : List UInt8) (w : World) (hl_k : k.length = 32) (hl_x : x.length = 32) (hn : n < 18446744073709551616) (hl : l.length ≤ 2000) : Calls Tryz.prog 18 #[.agg (bv k).toArray,.string (str l),.int .u64 (n : Int),.agg (bv x).toArray] w fun e w' => e = .returned (.agg ([bv (wrapD k l n x),bv (tagB k l n (wrapD k l n x))] : List (List Value)).flatten.toArray) ∧ Mem w [] w' [] := by
 have hM := Mem.start0 w
 refine vf 24 Tryz.func18 rfl rfl rfl ?_
 intro a hE
 replace hE : Env a 24 [(0,_),(1,_),(2,_),(3,_)] := hE
 refine ww1 fun _ K1=>wpp (s_box (ss := [bv k]) [32] hE hM rfl (by simp [Value.cells]) (by simp [*]) rfl fun a b4 w1 hE hM=>?_)
 refine s_box (ss := [bv x]) [32] hE hM rfl (by simp [Value.cells]) (by simp [*]) rfl fun a b7 w2 hE hM=>?_
 refine qo [32,32] hE hM zero29 rfl rfl fun a b8 w3 hE hM=>qa (K1 (ww1 fun _ K2=>wpp (ql hE rfl (hM.get 2 rfl) row26 rfl (by intro X h;cases h) rfl fun a hE=>?_)))
 refine sm hE rfl fun a hE=>sm hE rfl fun a hE=>ql hE rfl (hM.get 1 rfl) row26 rfl (by intro X h;cases h) rfl fun a hE=>?_
 refine qn hE rfl Tryz.call31 (rmasked_c k l n x _ hl_k hl_x (by have hl_0 : k.length = 32 := hl_k;have hl_3 : x.length = 32 := hl_x;first | omega | assumption | (simp;done) | (simp;omega) | decide) (by have hl_0 : k.length = 32 := hl_k;have hl_3 : x.length = 32 := hl_x;first | omega | assumption | (simp;done) | (simp;omega) | decide)) rfl ?_
 rintro e w4 ⟨rfl,hN⟩
 refine ⟨_,rfl,trivial,fun a hE=>?_⟩
 replace hM : Mem _ _ w4 [_,_,_] := hM.call0 hN trivial;clear hN
 refine qo [32] hE hM zero26 rfl rfl fun a b9 w5 hE hM=>qr 0 hE rfl rfl hM rfl sz26 ((vj _).trans (wrapD_len (k := k) (l := l) (n := n) (x := x) (by have hl_ax : x.length = 32 := hl_x;first | assumption | (simp;done)))) (ve _) rfl ((vj _).trans (by first | (simp;done) | (simp [*];done) | (simp;omega))) rfl (by intro X h;cases h) fun w6 hM=>?_
 simp only [List.set_cons_zero,List.set_cons_succ] at hM
 refine qa (K2 (ww1 fun _ K3=>qz hM (by kernel_rfl) (fun _ => True) (fun _ => True) (.re [(2,true),(3,true),(0,true),(1,true),(5,true),(4,false),(6,false),(7,false),(8,true),(9,false)] (.fl 2 (.weak (.fl 3 (.or 4 (.re [(6,false),(7,false),(8,true),(9,false)] (.fl 0 (.fl 0 (.or 6 (.re [(7,false),(8,true),(9,false)] (.fl 0 (.fl 0 (.or 7 (.cut (.re [(8,true),(9,false)] (.fl 1 (.fl 0 (.weak (.or 9 (.cut (.re [] (.weak (.leaf 0)))) (.stop))))))) (.stop))))) (.stop))))) (.stop)))))) [(2,true),(3,true),(0,true),(1,true),(5,true),(4,false),(6,false),(7,false),(8,true),(9,false)] [(0,[(8,0),(9,0)]),(1,[(4,1),(6,4),(7,4),(8,7),(9,1)]),(4,[(6,4),(7,4),(8,7),(9,4)]),(5,[(6,5),(7,6),(8,7),(9,5)]),(6,[(7,6),(8,7),(9,6)]),(7,[(8,7),(9,7)]),(8,[(9,8)]),(9,[])] (by kernel_rfl) ?_))
 intro w7 hM' hww7;replace hM := hM'
 refine o_re (o_fl rfl (sm hE rfl fun a hE=>sm hE rfl fun a hE=>qa (qh (vc (fun _ => False) (fun _ _ => trivial) (o_fl rfl (ql hE rfl (hM.get 0 rfl) row26 rfl (by intro X h;cases h;simp) rfl fun a hE=>?_))))))
 refine ql hE rfl (hM.get 3 rfl) row26 rfl (by intro X h;cases h;simp) rfl fun a hE=>?_
 refine ql hE rfl (hM.get 0 rfl) row26 rfl (by intro X h;cases h;simp) rfl fun a hE=>?_
 refine qa (qh ?_)
 refine o_or rfl ?_ ?_
 ·refine qn hE rfl Tryz.call33 (rseal_c k l n _ hl_k (by have hl_0 : k.length = 32 := hl_k;first | omega | assumption | (simp;done) | (simp;omega) | decide) (by have hl_0 : k.length = 32 := hl_k;first | omega | assumption | (simp;done) | (simp;omega) | decide)) rfl ?_
  rintro e w8 ⟨v19,rfl,hN⟩
  refine ⟨_,rfl,hN.sta0 _,fun a hE=>?_⟩
  replace hM : Mem _ _ w8 [_,_,_,_,_] := hM.call0 hN ⟨rfl,trivial⟩;clear hN
  refine qa (qh (o_re (o_fl rfl (qa (qh (o_fl rfl (qa (qh ?_))))))))
  refine o_or rfl ?_ ?_
  ·refine qn hE rfl Tryz.call34 (rrow10_c (wrapD k l n x) _ (wrapD_len (k := k) (l := l) (n := n) (x := x) (by have hl_ax : x.length = 32 := hl_x;first | assumption | (simp;done)))) rfl ?_
   rintro e w9 ⟨v21,rfl,hN⟩
   refine ⟨_,rfl,hN.sta0 _,fun a hE=>?_⟩
   replace hM : Mem _ _ w9 [_,_,_,_,_,_] := hM.call0 hN ⟨rfl,trivial⟩;clear hN
   refine qa (qh (o_re (o_fl rfl (qa (qh (o_fl rfl (qa (qh ?_))))))))
   refine o_or rfl ?_ ?_
   ·obtain ⟨cq1,hq1⟩ := own_rd (hM.get 1 rfl)
    obtain ⟨cq2,hq2⟩ := own_rd (hM.get 0 rfl)
    refine qn hE rfl Tryz.call32 (rof_c _ _ (sealB k l n) (plT 66 (wrapD k l n x)) _ _ _ hq1 hq2 (by have hl_q : (sealB k l n).length = 32 := (sealB_len k l n);first | omega | assumption | (simp;done) | (simp;omega) | decide) (by have hl_q : (plT 66 (wrapD k l n x)).length = 38 := ((plT_len 66 (wrapD k l n x)).trans (by have hl_ax : (wrapD k l n x).length = 32 := (wrapD_len (k := k) (l := l) (n := n) (x := x) (by have hl_ax : x.length = 32 := hl_x;first | assumption | (simp;done)));omega));first | omega | assumption | (simp;done) | (simp;omega) | decide)) rfl ?_
    rintro e w10 ⟨rfl,hN⟩
    refine ⟨_,rfl,hN.sta0 _,fun a hE=>?_⟩
    replace hM : Mem _ _ w10 [_,_,_,_,_,_] := hM.call0 hN trivial;clear hN
    refine qa (qh (o_cut (fun _ => True) (o_re (o_fl rfl ?_))))
    have hbq79_0 : (wrapD k l n x).length = 32 := (wrapD_len (k := k) (l := l) (n := n) (x := x) (by have hl_ax : x.length = 32 := hl_x;first | assumption | (simp;done)))
    have hbq79_1 : (hmacW (sealB k l n) (plT 66 (wrapD k l n x))).length = 32 := (hmacW_length ..)
    refine vg [bv (wrapD k l n x),bv (hmacW (sealB k l n) (plT 66 (wrapD k l n x)))] hE rfl zero29 rfl fpl29 (by first | (simp [PartsOk,Value.cells,hbq79_0,hbq79_1];done) | (simp [PartsOk,Value.cells, *];done)) rfl fun a hE=>?_
    replace hE := hE.cast 23 rfl (show _ = Value.agg ([bv (wrapD k l n x),bv (hmacW (sealB k l n) (plT 66 (wrapD k l n x)))] : List (List Value)).flatten.toArray from (by first | rfl | simp [setAll]))
    refine qa (qh (o_fl rfl (qa (qh (vc (fun b => b = b8) (fun _ _ => trivial) ?_)))))
    refine o_or rfl ?_ ?_
    ·replace hM : Mem _ _ w10 [_,_,_,_,_,_] := hM.pick [3,0,1,2,4,5] rfl
     refine qq 0 2 (vss := [bv (wrapD k l n x),bv (hmacW (sealB k l n) (plT 66 (wrapD k l n x)))]) hE rfl rfl hM rfl sz29 (by have hl_s0 : (wrapD k l n x).length = 32 := (wrapD_len (k := k) (l := l) (n := n) (x := x) (by have hl_ax : x.length = 32 := hl_x;first | assumption | (simp;done)));have hl_s1 : (hmacW (sealB k l n) (plT 66 (wrapD k l n x))).length = 32 := (hmacW_length ..); simp only [List.map_cons,List.map_nil,vj,List.length_cons,List.length_nil,List.take_succ_cons,List.take_zero,List.drop_zero,List.drop_succ_cons,hl_s0,hl_s1]) (by decide) rfl (one_fl ⟨ve _,ve _,trivial⟩) rfl (by intro X h;cases h;rfl) ?_;intro w11 hM
     simp only [List.take_zero,List.take_succ_cons,List.drop_zero,List.drop_succ_cons,List.take_nil,List.drop_nil,List.nil_append,List.append_nil,List.cons_append] at hM
     exact qa (qh (o_cut (fun _ => True) (o_re (vc (fun _ => False) (fun _ _ => trivial) (va rfl rfl (qa (q_ph (qa (K3 (wp_ret (qi hE rfl (res_cellN rfl (hM.get 0 rfl) row29 rfl) ⟨(by first | (simp only [List.flatten_cons,List.flatten_nil,List.append_nil,List.append_assoc];done) | (simp only [tagB,List.flatten_cons,List.flatten_nil,List.append_nil,List.append_assoc];done) | rfl),hM.pick [] rfl⟩)))))))))))
    trivial
   trivial
  trivial
 trivial
theorem runwrap_c (k : List UInt8) (l : List UInt8) (n : Nat) (d : List UInt8) (t : List UInt8) (w : World) (hl_k : k.length = 32) (hl_d : d.length = 32) (hl_t : t.length = 32) (hn : n < 18446744073709551616) (hl : l.length ≤ 2000) : Calls Tryz.prog 30 #[.agg (bv k).toArray,.string (str l),.int .u64 (n : Int),.agg ([bv d,bv t] : List (List Value)).flatten.toArray] w fun e w' => e = .returned (.tuple #[.agg (bv (unwK k l n d t)).toArray,.int .i64 ((unwE k l n d t : Nat) : Int)]) ∧ Mem w [] w' [] := by
 have hM := Mem.start0 w
 refine vf 28 Tryz.func30 rfl rfl rfl ?_
 intro a hE
 replace hE : Env a 28 [(0,_),(1,_),(2,_),(3,_)] := hE
 refine ww1 fun _ K1=>wpp (s_box (ss := [bv k]) [32] hE hM rfl (by simp [Value.cells]) (by simp [*]) rfl fun a b4 w1 hE hM=>?_)
 refine s_box (ss := [bv d,bv t]) [32,32] hE hM rfl rfl (by simp [*]) rfl fun a b7 w2 hE hM=>?_
 refine qo [32] hE hM zero26 rfl rfl fun a b8 w3 hE hM=>sas hE rfl fun a hE=>qa (K1 (ww1 fun _ K2=>ww1 fun _ K3=>wp_drawnM hM (by kernel_rfl) (fun _ => False) [(0,true),(1,true),(2,true),(4,true),(5,true),(8,true),(9,true),(3,false),(6,false),(7,false),(10,true)] [(3,[(6,3),(7,3),(10,7)]),(6,[(7,6),(10,7)]),(7,[(10,7)])] (by kernel_rfl) rfl ?_))
 intro w4 hM' hww4;replace hM := hM'
 refine ql hE rfl (hM.get 2 rfl) row26 rfl (by intro X h;cases h;simp) rfl fun a hE=>?_
 refine sm hE rfl fun a hE=>sm hE rfl fun a hE=>sf hE rfl fo29_0 fun a hE=>ql hE rfl (hM.get 1 rfl) row26 rfl (by intro X h;cases h;simp) rfl fun a hE=>?_
 refine sf hE rfl fo29_1 fun a hE=>ql hE rfl (hM.get 1 rfl) row27 rfl (by intro X h;cases h;simp) rfl fun a hE=>?_
 refine qn hE rfl Tryz.call33 (rseal_c k l n _ hl_k (by have hl_0 : k.length = 32 := hl_k;first | omega | assumption | (simp;done) | (simp;omega) | decide) (by have hl_0 : k.length = 32 := hl_k;first | omega | assumption | (simp;done) | (simp;omega) | decide)) rfl ?_
 rintro e w5 ⟨v13,rfl,hN⟩
 refine ⟨_,rfl,hN.sta0 _,fun a hE=>?_⟩
 replace hM : Mem _ _ w5 [_,_,_,_] := hM.call0 hN ⟨rfl,trivial⟩;clear hN
 refine qn hE rfl Tryz.call34 (rrow10_c d _ hl_d) rfl ?_
 rintro e w6 ⟨v16,rfl,hN⟩
 refine ⟨_,rfl,hN.sta0 _,fun a hE=>?_⟩
 replace hM : Mem _ _ w6 [_,_,_,_,_] := hM.call0 hN ⟨rfl,trivial⟩;clear hN
 obtain ⟨cq1,hq1⟩ := own_rd (hM.get 1 rfl)
 obtain ⟨cq2,hq2⟩ := own_rd (hM.get 0 rfl)
 refine qn hE rfl Tryz.call32 (rof_c _ _ (sealB k l n) (plT 66 d) _ _ _ hq1 hq2 (by have hl_q : (sealB k l n).length = 32 := (sealB_len k l n);first | omega | assumption | (simp;done) | (simp;omega) | decide) (by have hl_q : (plT 66 d).length = 38 := ((plT_len 66 d).trans (by have hl_ax : d.length = 32 := hl_d;omega));first | omega | assumption | (simp;done) | (simp;omega) | decide)) rfl ?_
 rintro e w7 ⟨rfl,hN⟩
 refine ⟨_,rfl,hN.sta0 _,fun a hE=>?_⟩
 replace hM : Mem _ _ w7 [_,_,_,_,_] := hM.call0 hN trivial;clear hN
 refine s_bin hE rfl rfl (eqa27 (hmacW_length ..) hl_t).2 rfl fun a hE=>qa (K3 ?_)
 refine hE.split 20 rfl (fun hb20 hE=>?_) (fun hb20 hE=>?_)
 ·replace hb20 := of_decide_eq_false (not_true hb20)
  refine wct hE rfl (ww1 fun _ K4=>wpp (s_build (r := .agg (bv (List.replicate 32 (0 : UInt8))).toArray) _ hE rfl (fun w => by kernel_rfl) rfl fun a hE=>?_))
  replace hM : Mem _ _ w7 [_,_,_,_,_] := hM.pick [2,0,1,3,4] rfl
  refine qr 0 hE rfl rfl hM rfl sz26 ((vj _).trans (by first | (simp;done) | (simp [*];done) | (simp;omega))) (ve _) rfl ((vj _).trans (by first | (simp;done) | (simp [*];done) | (simp;omega))) rfl (by intro X h;cases h) fun w8 hM=>?_
  simp only [List.set_cons_zero,List.set_cons_succ] at hM
  exact sas hE rfl fun a hE=>qa (K4 (wp_ret (qb (qj hE rfl (res_cellN rfl (hM.get 0 rfl) row26 rfl) rfl ⟨(by first | (simp [unwK,unwE,unwB,hb20];done) | (simp [unwK,unwE,unwB,tagB,hb20];done)),hM.pick [] rfl⟩))))
 ·replace hb20 := of_decide_eq_true (not_false' hb20)
  refine wcf hE rfl (wp_skip (K2 (ww1 fun _ K4=>wpp (ql hE rfl (hM.get 4 rfl) row26 rfl (by intro X h;cases h) rfl fun a hE=>?_))))
  refine sm hE rfl fun a hE=>sm hE rfl fun a hE=>sf hE rfl fo29_0 fun a hE=>ql hE rfl (hM.get 3 rfl) row26 rfl (by intro X h;cases h) rfl fun a hE=>?_
  refine qn hE rfl Tryz.call31 (rmasked_c k l n d _ hl_k hl_d (by have hl_0 : k.length = 32 := hl_k;have hl_3 : d.length = 32 := hl_d;first | omega | assumption | (simp;done) | (simp;omega) | decide) (by have hl_0 : k.length = 32 := hl_k;have hl_3 : d.length = 32 := hl_d;first | omega | assumption | (simp;done) | (simp;omega) | decide)) rfl ?_
  rintro e w8 ⟨rfl,hN⟩
  refine ⟨_,rfl,trivial,fun a hE=>?_⟩
  replace hM : Mem _ _ w8 [_,_,_,_,_] := hM.call0 hN trivial;clear hN
  replace hM : Mem _ _ w8 [_,_,_,_,_] := hM.pick [2,0,1,3,4] rfl
  refine qr 0 hE rfl rfl hM rfl sz26 ((vj _).trans (wrapD_len (k := k) (l := l) (n := n) (x := d) (by have hl_ax : d.length = 32 := hl_d;first | assumption | (simp;done)))) (ve _) rfl ((vj _).trans (by first | (simp;done) | (simp [*];done) | (simp;omega))) rfl (by intro X h;cases h) fun w9 hM=>?_
  simp only [List.set_cons_zero,List.set_cons_succ] at hM
  exact sas hE rfl fun a hE=>qa (K4 (wp_ret (qj hE rfl (res_cellN rfl (hM.get 0 rfl) row26 rfl) rfl ⟨(by first | (simp [unwK,unwE,unwB,hb20];done) | (simp [unwK,unwE,unwB,tagB,hb20];done)),hM.pick [] rfl⟩)))
end Go.Proofs.YtniekapfoaiieaaGreatDoor
