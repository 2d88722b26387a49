/- Walks of functions of the given program that the claim reaches. -/
import Derived.Test.YtniekapfoaiieaaGreatDoorLm
set_option linter.unusedSimpArgs false
set_option linter.unusedVariables false
namespace Go.Proofs.YtniekapfoaiieaaGreatDoor
open Go Go.Kx
theorem zero23 : Zero Tryz.prog 23 [[.int .i64 0],[.int .i64 0]] := ⟨.agg ([[.int .i64 0],[.int .i64 0]] : List (List Value)).flatten.toArray,by kernel_rfl,by kernel_rfl⟩
theorem fpl23 : fldPl Tryz.prog 23 = some (plc 0 [1,1]) := by kernel_rfl
theorem eqa26 : ∀ {a b : List UInt8},a.length = 32 → b.length = 32 → Bin Tryz.prog .eql 26 (.agg (bv a).toArray) (.agg (bv b).toArray) (.bool (decide (a = b))) ∧ Bin Tryz.prog .neq 26 (.agg (bv a).toArray) (.agg (bv b).toArray) (.bool (!decide (a = b))) := fun ha hb => bins_arr8 Tryz.underlying26 (by kernel_rfl) Tryz.underlying5 (by kernel_rfl) (by kernel_rfl) ha hb
theorem rpassb_c (p : List UInt8) (w : World)  : Calls Tryz.prog 16 #[.string (str p)] w fun e w' => e = .returned (.bool (okp p)) ∧ Mem w [] w' [] := by
 have hM := Mem.start0 w
 refine vf 11 Tryz.func16 rfl rfl rfl ?_
 intro a hE
 replace hE : Env a 11 [(0,_)] := hE
 refine ww1 fun _ K1=>wpp (sas hE rfl fun a hE=>qa (K1 (ww1 fun _ K2=>wpp (sm hE rfl fun a hE=>s_len_str hE rfl Tryz.underlying9 rfl fun a hE=>?_))))
 replace hE := hE.cast 4 rfl (show _ = Value.int .i64 ((p.length : Nat) : Int) from (congrArg (fun n : Nat => Value.int .i64 (n : Int)) (by first | rfl | (simp [*];done) | (simp;omega) | (simp [*];omega))))
 refine sb hE rfl rfl bin_geq fun a hE=>sm hE rfl fun a hE=>?_
 refine hE.split 6 rfl (fun hb6 hE=>?_) (fun hb6 hE=>?_)
 ·replace hb6 := of_decide_eq_true hb6
  replace hb6 : 1 ≤ p.length := by omega
  refine gy hE rfl (sm hE rfl fun a hE=>gy hE rfl (s_len_str hE rfl Tryz.underlying9 rfl fun a hE=>?_))
  replace hE := hE.cast 8 rfl (show _ = Value.int .i64 ((p.length : Nat) : Int) from (congrArg (fun n : Nat => Value.int .i64 (n : Int)) (by first | rfl | (simp [*];done) | (simp;omega) | (simp [*];omega))))
  exact gy hE rfl (sb hE rfl rfl bin_leq fun a hE=>pkt hE rfl fun a hE=>sas hE rfl fun a hE=>qa (K2 (wp_ret (qi hE rfl rfl ⟨(by first | (simp [okp,hb6];done) | (simp [okp,hb6];omega)),hM.pick [] rfl⟩))))
 ·replace hb6 := of_decide_eq_false hb6
  replace hb6 : ¬ (1 ≤ p.length) := by omega
  exact gf hE rfl fun a hE=>gf hE rfl fun a hE=>gf hE rfl fun a hE=>pkf hE rfl fun a hE=>sas hE rfl fun a hE=>qa (K2 (wp_ret (qi hE rfl rfl ⟨(by first | (simp [okp,hb6];done) | (simp [okp,hb6];omega)),hM.pick [] rfl⟩)))
theorem phr_ok {p : List UInt8} (h : okp p = true) : 1 ≤ p.length ∧ p.length ≤ 48 := by simpa [okp] using h
theorem rpass5_ok (p : List UInt8) (w : World) (hop : okp p = true) : Calls Tryz.prog 35 #[.string (str p)] w fun e w' => ∃ v',e = .returned (.tuple #[v',.int .i64 0]) ∧ Mem w [] w' [own v' 1 (phrW p).length (bv (phrW p))] := by
 obtain ⟨ho1,ho2⟩ := phr_ok hop
 have hM := Mem.start0 w
 refine vf 31 Tryz.func35 rfl rfl rfl ?_
 intro a hE
 replace hE : Env a 31 [(0,_)] := hE
 refine ww1 fun _ K1=>wpp (sas hE rfl fun a hE=>sas hE rfl fun a hE=>qa (K1 (ww1 fun _ K2=>ww1 fun _ K3=>wpp (sm hE rfl fun a hE=>?_))))
 refine s_len_str hE rfl Tryz.underlying9 rfl fun a hE=>?_
 replace hE := hE.cast 7 rfl (show _ = Value.int .i64 ((p.length : Nat) : Int) from (congrArg (fun n : Nat => Value.int .i64 (n : Int)) (by first | rfl | (simp [*];done) | (simp;omega) | (simp [*];omega))))
 refine sb hE rfl rfl bin_eql fun a hE=>sm hE rfl fun a hE=>?_
 replace hE := hE.cast 9 rfl (show _ = Value.bool false from (congrArg Value.bool (by first | rfl | (simp;omega) | (exact decide_eq_false (by omega)))))
 refine gy hE rfl (sm hE rfl fun a hE=>gy hE rfl (s_len_str hE rfl Tryz.underlying9 rfl fun a hE=>?_))
 replace hE := hE.cast 11 rfl (show _ = Value.int .i64 ((p.length : Nat) : Int) from (congrArg (fun n : Nat => Value.int .i64 (n : Int)) (by first | rfl | (simp [*];done) | (simp;omega) | (simp [*];omega))))
 refine gy hE rfl (sb hE rfl rfl bin_gtr fun a hE=>pkf hE rfl fun a hE=>qa (K3 ?_))
 replace hE := hE.cast 13 rfl (show _ = Value.bool false from (congrArg Value.bool (by first | rfl | (simp;omega) | (exact decide_eq_false (by omega)))))
 refine wcf hE rfl (wp_skip (K2 (ww1 fun _ K4=>wpp (sm hE rfl fun a hE=>s_len_str hE rfl Tryz.underlying9 rfl fun a hE=>?_))))
 replace hE := hE.cast 15 rfl (show _ = Value.int .i64 ((p.length : Nat) : Int) from (congrArg (fun n : Nat => Value.int .i64 (n : Int)) (by first | rfl | (simp [*];done) | (simp;omega) | (simp [*];omega))))
 refine qx hE rfl (cnv_int Tryz.underlying3 Tryz.underlying5 (wrap_u8_ofNat (p.length))) rfl fun a hE=>?_
 refine qv (xs := [.tmp 16]) (bv [UInt8.ofNat p.length]) hE hM sl66 rfl rfl rfl (by intro v hv;first | (cases hv;done) | (obtain ⟨x,_,rfl⟩ := List.mem_map.1 (show v ∈ bv [UInt8.ofNat p.length] from hv);rfl)) rfl rfl rfl rfl ?_;intro a v17 w1 hE hM
 replace hM := hM.ownEq (m' := [UInt8.ofNat p.length].length) (cs' := bv [UInt8.ofNat p.length]) rfl rfl
 refine sas hE rfl fun a hE=>qa (K4 (ww1 fun _ K5=>ww1 fun _ K6=>wpp (sas hE rfl fun a hE=>qa (K6 (wp_block ?_)))))
 replace hM := Mem.ownB (p := [UInt8.ofNat p.length]) (q := UInt8.ofNat p.length :: p.take 0) hM rfl
 refine c_loop (fun (i : Nat) a w' => i ≤ p.length ∧ ∃ vl4,Env a 31 [(0,.string (str p)),(2,.slice none 0 0),(3,.int .i64 0),(4,vl4),(5,.int .i64 ((i : Nat) : Int)),(13,.bool false)] ∧ Mem w [] w' [own vl4 1 (UInt8.ofNat p.length :: p.take i).length (bv (UInt8.ofNat p.length :: p.take i))]) (fun i => p.length - i) 0 ⟨Nat.zero_le _,_,hE.sel [0,2,3,4,5,13] rfl,hM⟩ ?_
 rintro i a w2 ⟨hi,vl4,hE,hM⟩
 refine ww1 fun _ K7=>ww1 fun _ K8=>wpp (sm hE rfl fun a hE=>sm hE rfl fun a hE=>s_len_str hE rfl Tryz.underlying9 rfl fun a hE=>?_)
 replace hE := hE.cast 20 rfl (show _ = Value.int .i64 ((p.length : Nat) : Int) from (congrArg (fun n : Nat => Value.int .i64 (n : Int)) (by first | rfl | (simp [*];done) | (simp;omega) | (simp [*];omega))))
 refine sb hE rfl rfl bin_lss fun a hE=>qa (K8 ?_)
 refine hE.split 21 rfl (fun hb21 hE=>?_) (fun hb21 hE=>?_)
 ·replace hb21 := of_decide_eq_true hb21
  replace hb21 : i < p.length := by omega
  replace hb21 : i < p.length := by omega
  refine wct hE rfl (wp_skip (K7 (ww1 fun _ K9=>wp_block (wpp (sm hE rfl fun a hE=>sm hE rfl fun a hE=>sm hE rfl fun a hE=>s_indexStr (j := i) (l := p) (b := p.getD i 0) hE rfl rfl Tryz.underlying9 (by first | rfl | simp | kernel_rfl) (by first | rfl | omega) (get_getD (by first | omega | (simp;omega) | (simp [*];omega))) rfl fun a hE=>?_)))))
  refine qv (xs := [.tmp 27]) (bv [p.getD i 0]) hE hM sl66 rfl rfl rfl (by intro v hv;first | (cases hv;done) | (obtain ⟨x,_,rfl⟩ := List.mem_map.1 (show v ∈ bv [p.getD i 0] from hv);rfl)) rfl rfl rfl rfl ?_;intro a v28 w3 hE hM
  replace hM := hM.ownEq (m' := [p.getD i 0].length) (cs' := bv [p.getD i 0]) rfl rfl
  replace hM : Mem _ _ w3 [_,_] := hM.pick [1,0] rfl
  obtain ⟨cq1,hq1⟩ := own_rd (hM.get 1 rfl)
  have hLb1 : ((UInt8.ofNat p.length :: p.take i) ++ [p.getD i 0]).length = i + 1 + 1 := (by have hl_p : (UInt8.ofNat p.length :: p.take i).length = i + 1 := (by simp;omega);have hl_q : [p.getD i 0].length = 1 := (by first | (simp;done) | (simp [*];done) | (simp;omega));rw [List.length_append];omega)
  refine qw hE rfl rfl hM sl66 (Src.rd Tryz.underlying66 hq1 (ve _)) (len47 (by have hl_x : (UInt8.ofNat p.length :: p.take i).length = i + 1 := (by simp;omega);have hl_y : [p.getD i 0].length = 1 := (by first | (simp;done) | (simp [*];done) | (simp;omega));first | omega | (simp;done) | (simp;omega))) (by have hl_x : (UInt8.ofNat p.length :: p.take i).length = i + 1 := (by simp;omega);have hl_y : [p.getD i 0].length = 1 := (by first | (simp;done) | (simp [*];done) | (simp;omega));first | omega | (simp;done) | (simp;omega)) (by intro X h;cases h) rfl ?_;intro a v29 w4 hE hM
  replace hM := Mem.ownApp (p := UInt8.ofNat p.length :: p.take i) (q := [p.getD i 0]) hM (by first | rfl | (simp;done))
  replace hM : Mem _ _ w4 [_] := hM.pick [0] rfl
  refine sas hE rfl fun a hE=>qa (qe (K9 (wpp (sm hE rfl fun a hE=>sb hE rfl rfl (show Bin _ _ _ _ _ (.int .i64 ((i + 1 : Nat) : Int)) from bin_add (by rw [wrap_i64 (by omega) (by omega)];omega)) fun a hE=>?_))))
  refine sas hE rfl fun a hE=>qa ?_
  replace hE := hE.cast 5 rfl (show _ = Value.int .i64 (((i + 1) : Nat) : Int) from (congrArg _ (by omega)))
  replace hM := Mem.ownB (p := (UInt8.ofNat p.length :: p.take i) ++ [p.getD i 0]) (q := UInt8.ofNat p.length :: p.take (i + 1)) hM (by rw [List.cons_append,take_snoc (by omega)])
  replace hM : Mem _ _ w4 [_] := hM.pick [0] rfl
  exact ⟨i + 1,⟨by omega,_,hE.sel [0,2,3,4,5,13] rfl,hM⟩,by omega⟩
 ·replace hb21 := of_decide_eq_false hb21
  replace hb21 : ¬ (i < p.length) := by omega
  obtain rfl : p.length = i := by omega
  replace hM := Mem.ownB (p := UInt8.ofNat p.length :: p.take p.length) (q := phrW p) hM (by rw [take_all rfl];rfl)
  refine wcf hE rfl (wp_exit (qc (qc (qg (K5 (ww1 fun _ K9=>wpp (sm hE rfl fun a hE=>sas hE rfl fun a hE=>?_)))))))
  exact sas hE rfl fun a hE=>qa (K9 (wp_ret (qj hE rfl rfl rfl ⟨_,(by first | rfl | (simp;done)),hM.pick [0] rfl⟩)))
theorem rpass5_bad (p : List UInt8) (w : World) (hop : okp p = false) : Calls Tryz.prog 35 #[.string (str p)] w fun e w' => e = .returned (.tuple #[.slice none 0 0,.int .i64 2]) ∧ Mem w [] w' [] := by
 have hnp : p.length = 0 ∨ 48 < p.length := by simp [okp] at hop;omega
 have hM := Mem.start0 w
 refine vf 31 Tryz.func35 rfl rfl rfl ?_
 intro a hE
 replace hE : Env a 31 [(0,_)] := hE
 refine ww1 fun _ K1=>wpp (sas hE rfl fun a hE=>sas hE rfl fun a hE=>qa (K1 (ww1 fun _ K2=>ww1 fun _ K3=>wpp (sm hE rfl fun a hE=>?_))))
 refine s_len_str hE rfl Tryz.underlying9 rfl fun a hE=>?_
 replace hE := hE.cast 7 rfl (show _ = Value.int .i64 ((p.length : Nat) : Int) from (congrArg (fun n : Nat => Value.int .i64 (n : Int)) (by first | rfl | (simp [*];done) | (simp;omega) | (simp [*];omega))))
 refine sb hE rfl rfl bin_eql fun a hE=>sm hE rfl fun a hE=>?_
 refine hE.split 9 rfl (fun hb9 hE=>?_) (fun hb9 hE=>?_)
 ·replace hb9 := of_decide_eq_true hb9
  replace hb9 : p.length = 0 := by omega
  refine gt hE rfl fun a hE=>gt hE rfl fun a hE=>gt hE rfl fun a hE=>pkt hE rfl fun a hE=>qa (K3 (wct hE rfl (ww1 fun _ K4=>wpp (sas hE rfl fun a hE=>?_))))
  exact sas hE rfl fun a hE=>qa (K4 (wp_ret (qb (qj hE rfl rfl rfl ⟨(by first | rfl | (simp;done)),hM.pick [] rfl⟩))))
 ·replace hb9 := of_decide_eq_false hb9
  replace hb9 : ¬ (p.length = 0) := by omega
  refine gy hE rfl (sm hE rfl fun a hE=>gy hE rfl (s_len_str hE rfl Tryz.underlying9 rfl fun a hE=>?_))
  replace hE := hE.cast 11 rfl (show _ = Value.int .i64 ((p.length : Nat) : Int) from (congrArg (fun n : Nat => Value.int .i64 (n : Int)) (by first | rfl | (simp [*];done) | (simp;omega) | (simp [*];omega))))
  refine gy hE rfl (sb hE rfl rfl bin_gtr fun a hE=>pkf hE rfl fun a hE=>qa (K3 ?_))
  replace hE := hE.cast 13 rfl (show _ = Value.bool true from (congrArg Value.bool (by simp;omega)))
  exact wct hE rfl (ww1 fun _ K4=>wpp (sas hE rfl fun a hE=>sas hE rfl fun a hE=>qa (K4 (wp_ret (qb (qj hE rfl rfl rfl ⟨(by first | rfl | (simp;done)),hM.pick [] rfl⟩))))))
theorem rpass_a (p : List UInt8) (w : World) : Calls Tryz.prog 35 #[.string (str p)] w fun e w' => ∃ v',e = .returned (.tuple #[v',.int .i64 ((passE p : Nat) : Int)]) ∧ Mem w [] w' [own v' 1 (phrZ p).length (bv (phrZ p))] := by
 by_cases h : okp p = true
 ·rw [passE,phrZ,if_pos h,if_pos h]
  exact rpass5_ok p w h
 ·rw [passE,phrZ,if_neg h,if_neg h]
  refine (rpass5_bad p w (by simpa using h)).mono ?_
  rintro e w' ⟨rfl,hM⟩
  exact ⟨_,rfl,hM.addNil 1⟩
theorem rpkey_a (v u : Value) (pass salt : List UInt8) (c cu : Nat) (z : Int) (w : World) (hr : (rd v 1 pass.length c (bv pass)).holds w) (hu : (rd u 1 salt.length cu (bv salt)).holds w) (hk : pass.length ≤ 100000) (hf : salt.length ≤ 100000) : Calls Tryz.prog 36 #[v,u,.int .i64 z,.int .i64 32] w fun e w' => ∃ v',e = .returned (.tuple #[v',.int .i64 ((roundE z : Nat) : Int)]) ∧ Mem w [] w' [own v' 1 (keyZ pass salt z).length (bv (keyZ pass salt z))] := by
 by_cases h : okr z = true
 ·rw [roundE,keyZ,if_pos h,if_pos h]
  simp [okr] at h
  obtain ⟨r,rfl⟩ := Int.eq_ofNat_of_zero_le (show 0 ≤ z by omega)
  exact rkey_c v u pass salt c cu r 32 w hr hu hk hf (by omega) (by omega) (by decide) (by decide)
 ·rw [roundE,keyZ,if_neg h,if_neg h]
  simp [okr] at h
  refine (rkey_bad v u z 32 w (by omega)).mono ?_
  rintro e w' ⟨rfl,hM⟩
  exact ⟨_,rfl,hM.addNil 1⟩
theorem rkey25_c (p : List UInt8) (b : List UInt8) (z : Int) (w : World) (hl_b : b.length = 16) (hop : okp p = true) (hor : okr z = true) : Calls Tryz.prog 19 #[.string (str p),.agg (bv b).toArray,.int .i64 z] w fun e w' => e = .returned (.agg (bv (kK p b z)).toArray) ∧ Mem w [] w' [] := by
 have hM := Mem.start0 w
 refine vf 48 Tryz.func19 rfl rfl rfl ?_
 intro a hE
 replace hE : Env a 48 [(0,_),(1,_),(2,_)] := hE
 refine ww1 fun _ K1=>wpp (s_box (ss := [bv b]) [16] hE hM rfl (by simp [Value.cells]) (by simp [*]) rfl fun a b4 w1 hE hM=>?_)
 refine qo [32] hE hM zero26 rfl rfl fun a b6 w2 hE hM=>qa (K1 (ww1 fun _ K2=>wpp (sm hE rfl fun a hE=>qn hE rfl Tryz.call35 (rpass_a p _) rfl ?_)))
 rintro e w3 ⟨v17,rfl,hN⟩
 refine ⟨_,rfl,trivial,fun a hE=>?_⟩
 replace hM : Mem _ _ w3 [_,_,_] := hM.call0 hN ⟨rfl,trivial⟩;clear hN
 refine sm hE rfl fun a hE=>sx hE rfl fun a hE=>sx hE rfl fun a hE=>sas hE rfl fun a hE=>sas hE rfl fun a hE=>qa (K2 (ww1 fun _ K3=>wpp (sas hE rfl fun a hE=>?_)))
 refine qa (K3 (ww1 fun _ K4=>ww1 fun _ K5=>wpp (sas hE rfl fun a hE=>qa (K5 (wp_block ?_)))))
 replace hM := hM.addNil 1
 replace hM := hM.ownEq (m' := ([] : List UInt8).length) (cs' := bv []) rfl rfl
 replace hM := Mem.ownB (p := ([] : List UInt8)) (q := b.take 0) hM (by first | with_reducible rfl | (simp;done) | (simp [*];done) | rfl)
 refine c_loop (fun (i : Nat) a w' => i ≤ 16 ∧ ∃ vl9,Env a 48 [(2,.int .i64 z),(4,.pointer (some ⟨b4,0,none⟩)),(6,.pointer (some ⟨b6,0,none⟩)),(7,v17),(9,vl9),(10,.int .i64 ((i : Nat) : Int))] ∧ Mem w [] w' [own vl9 1 (b.take i).length (bv (b.take i)),own v17 1 (phrZ p).length (bv (phrZ p)),blk b6 [bv (List.replicate 32 (0 : UInt8))] [32] 26,blk b4 [bv b] [16] 34]) (fun i => 16 - i) 0 ⟨Nat.zero_le _,_,hE.sel [2,4,6,7,9,10] rfl,hM⟩ ?_
 rintro i a w4 ⟨hi,vl9,hE,hM⟩
 refine ww1 fun _ K6=>ww1 fun _ K7=>wpp (sm hE rfl fun a hE=>sb hE rfl rfl bin_lss fun a hE=>qa (K7 ?_))
 refine hE.split 21 rfl (fun hb21 hE=>?_) (fun hb21 hE=>?_)
 ·replace hb21 := of_decide_eq_true hb21
  replace hb21 : i < 16 := by omega
  replace hb21 : i < 16 := by omega
  refine wct hE rfl (wp_skip (K6 (ww1 fun _ K8=>wp_block (wpp (sm hE rfl fun a hE=>sm hE rfl fun a hE=>qp (j := i) hE rfl rfl arr34 (by first | rfl | omega) (by first | omega | decide) rfl fun a hE=>?_)))))
  refine qy (j := i) hE rfl (by omega) (hM.get 3 rfl) (bv_get (by have hl_ : b.length = 16 := hl_b;first | omega | (rw [vj];omega) | (simp;omega))) one5 (by intro X h;cases h) rfl fun a hE=>?_
  refine qv (xs := [.tmp 27]) (bv [b.getD i 0]) hE hM sl66 rfl rfl rfl (by intro v hv;first | (cases hv;done) | (obtain ⟨x,_,rfl⟩ := List.mem_map.1 (show v ∈ bv [b.getD i 0] from hv);rfl)) rfl rfl rfl rfl ?_;intro a v28 w5 hE hM
  replace hM := hM.ownEq (m' := [b.getD i 0].length) (cs' := bv [b.getD i 0]) rfl rfl
  replace hM : Mem _ _ w5 [_,_,_,_,_] := hM.pick [1,0,2,3,4] rfl
  obtain ⟨cq1,hq1⟩ := own_rd (hM.get 1 rfl)
  have hLb1 : ((b.take i) ++ [b.getD i 0]).length = i + 1 := (by have hl_p : (b.take i).length = i := (by simp;omega);have hl_q : [b.getD i 0].length = 1 := (by first | (simp;done) | (simp [*];done) | (simp;omega));rw [List.length_append];omega)
  refine qw hE rfl rfl hM sl66 (Src.rd Tryz.underlying66 hq1 (ve _)) (len47 (by have hl_x : (b.take i).length = i := (by simp;omega);have hl_y : [b.getD i 0].length = 1 := (by first | (simp;done) | (simp [*];done) | (simp;omega));first | omega | (simp;done) | (simp;omega))) (by have hl_x : (b.take i).length = i := (by simp;omega);have hl_y : [b.getD i 0].length = 1 := (by first | (simp;done) | (simp [*];done) | (simp;omega));first | omega | (simp;done) | (simp;omega)) (by intro X h;cases h) rfl ?_;intro a v29 w6 hE hM
  replace hM := Mem.ownApp (p := b.take i) (q := [b.getD i 0]) hM (by first | rfl | (simp;done))
  replace hM : Mem _ _ w6 [_,_,_,_] := hM.pick [0,2,3,4] rfl
  refine sas hE rfl fun a hE=>qa (qe (K8 (wpp (sm hE rfl fun a hE=>sb hE rfl rfl (show Bin _ _ _ _ _ (.int .i64 ((i + 1 : Nat) : Int)) from bin_add (by rw [wrap_i64 (by omega) (by omega)];omega)) fun a hE=>?_))))
  refine sas hE rfl fun a hE=>qa ?_
  replace hE := hE.cast 10 rfl (show _ = Value.int .i64 (((i + 1) : Nat) : Int) from (congrArg _ (by omega)))
  replace hM := Mem.ownB (p := (b.take i) ++ [b.getD i 0]) (q := b.take (i + 1)) hM ((take_snoc (by omega)).symm)
  replace hM : Mem _ _ w6 [_,_,_,_] := hM.pick [0,1,2,3] rfl
  exact ⟨i + 1,⟨by omega,_,hE.sel [2,4,6,7,9,10] rfl,hM⟩,by omega⟩
 ·replace hb21 := of_decide_eq_false hb21
  replace hb21 : ¬ (i < 16) := by omega
  obtain rfl : 16 = i := by omega
  replace hM := Mem.ownB (p := b.take 16) (q := b) hM (take_all hl_b)
  refine wcf hE rfl (wp_exit (qc (qc (qg (K4 (ww1 fun _ K8=>wpp (sm hE rfl fun a hE=>sm hE rfl fun a hE=>?_)))))))
  refine sm hE rfl fun a hE=>?_
  obtain ⟨cq2,hq2⟩ := own_rd (hM.get 1 rfl)
  obtain ⟨cq3,hq3⟩ := own_rd (hM.get 0 rfl)
  refine qn hE rfl Tryz.call36 (rpkey_a _ _ (phrZ p) b _ _ z _ hq2 hq3 (by have := phrZ_len p;omega) (by have hl_q : b.length = 16 := hl_b;omega)) rfl ?_
  rintro e w5 ⟨v34,rfl,hN⟩
  refine ⟨_,rfl,trivial,fun a hE=>?_⟩
  replace hM : Mem _ _ w5 [_,_,_,_,_] := hM.call0 hN ⟨rfl,trivial⟩;clear hN
  replace hM := Mem.ownB (p := keyZ (phrZ p) b z) (q := keyW (phrW p) b z.toNat 32) hM (by simp [keyZ,phrZ,hop,hor])
  refine sm hE rfl fun a hE=>sx hE rfl fun a hE=>sx hE rfl fun a hE=>sas hE rfl fun a hE=>sas hE rfl fun a hE=>qa (K8 (ww1 fun _ K9=>wpp (qo [32] hE hM zero26 rfl rfl fun a b13 w6 hE hM=>?_)))
  refine qa (K9 (ww1 fun _ K10=>ww1 fun _ K11=>wpp (sas hE rfl fun a hE=>qa (K11 (wp_block ?_)))))
  replace hM := Mem.blkB (p := List.replicate 32 (0 : UInt8)) (q := (keyW (phrW p) b z.toNat 32).take 0 ++ List.replicate (32 - 0) 0) hM (by simp)
  refine c_loop (fun (i : Nat) a w' => i ≤ 32 ∧ Env a 48 [(4,.pointer (some ⟨b4,0,none⟩)),(6,.pointer (some ⟨b6,0,none⟩)),(9,vl9),(10,.int .i64 16),(11,v34),(13,.pointer (some ⟨b13,0,none⟩)),(14,.int .i64 ((i : Nat) : Int)),(21,.bool false)] ∧ Mem w [] w' [blk b13 [bv ((keyW (phrW p) b z.toNat 32).take i ++ List.replicate (32 - i) 0)] [32] 26,own v34 1 (keyW (phrW p) b z.toNat 32).length (bv (keyW (phrW p) b z.toNat 32)),own vl9 1 b.length (bv b),own v17 1 (phrZ p).length (bv (phrZ p)),blk b6 [bv (List.replicate 32 (0 : UInt8))] [32] 26,blk b4 [bv b] [16] 34]) (fun i => 32 - i) 0 ⟨Nat.zero_le _,hE.sel [4,6,9,10,11,13,14,21] rfl,hM⟩ ?_
  rintro i a w7 ⟨hi,hE,hM⟩
  refine ww1 fun _ K12=>ww1 fun _ K13=>wpp (sm hE rfl fun a hE=>sb hE rfl rfl bin_lss fun a hE=>qa (K13 ?_))
  refine hE.split 38 rfl (fun hb38 hE=>?_) (fun hb38 hE=>?_)
  ·replace hb38 := of_decide_eq_true hb38
   replace hb38 : i < 32 := by omega
   replace hb38 : i < 32 := by omega
   refine wct hE rfl (wp_skip (K12 (ww1 fun _ K14=>wp_block (wpp (sm hE rfl fun a hE=>sm hE rfl fun a hE=>sm hE rfl fun a hE=>?_)))))
   obtain ⟨cx44,hx44⟩ := own_rd (hM.get 1 rfl)
   refine qu (j := i) hE rfl hx44 rfl slt66 (by first | rfl | omega) (by have hl_ : (keyW (phrW p) b z.toNat 32).length = 32 := (keyW_length ..);first | omega | (rw [vj];omega) | (simp;omega)) rfl ?_;intro a p44 hE hc44 hp44
   rw [bv_elem (by have hl_ : (keyW (phrW p) b z.toNat 32).length = 32 := (keyW_length ..);first | omega | (rw [vj];omega) | (simp;omega))] at hc44
   refine qt hE rfl hc44 one5 (by intro X h;cases h) rfl fun a hE=>?_
   refine qp (j := i) hE rfl rfl arr26 (by first | rfl | omega) (by first | omega | decide) rfl fun a hE=>?_
   refine s_storeIdx (j := i) hE rfl (by omega) rfl hM rfl rfl sz5 (by have hl_ : ((keyW (phrW p) b z.toNat 32).take i ++ List.replicate (32 - i) 0).length = 32 := (cpy_len (keyW_length ..) (by omega));first | omega | (rw [vj];omega) | (simp;omega)) (by intro X h;cases h) ?_;intro w8 hM
   first | rw [bv_set'] at hM | rw [bv_setI] at hM
   refine qa (qe (K14 (wpp (sm hE rfl fun a hE=>sb hE rfl rfl (show Bin _ _ _ _ _ (.int .i64 ((i + 1 : Nat) : Int)) from bin_add (by rw [wrap_i64 (by omega) (by omega)];omega)) fun a hE=>?_))))
   refine sas hE rfl fun a hE=>qa ?_
   replace hE := hE.cast 14 rfl (show _ = Value.int .i64 (((i + 1) : Nat) : Int) from (congrArg _ (by omega)))
   replace hM := Mem.blkB (p := ((keyW (phrW p) b z.toNat 32).take i ++ List.replicate (32 - i) 0).set i ((keyW (phrW p) b z.toNat 32).getD i 0)) (q := (keyW (phrW p) b z.toNat 32).take (i + 1) ++ List.replicate (32 - (i + 1)) 0) hM (cpy_set (by rw [keyW_length];omega) (keyW_length ..))
   replace hM : Mem _ _ w8 [_,_,_,_,_,_] := hM.pick [0,1,2,3,4,5] rfl
   exact ⟨i + 1,⟨by omega,hE.sel [4,6,9,10,11,13,14,21] rfl,hM⟩,by omega⟩
  ·replace hb38 := of_decide_eq_false hb38
   replace hb38 : ¬ (i < 32) := by omega
   obtain rfl : 32 = i := by omega
   replace hM := Mem.blkB (p := (keyW (phrW p) b z.toNat 32).take 32 ++ List.replicate (32 - 32) 0) (q := keyW (phrW p) b z.toNat 32) hM (cpy_end (keyW_length ..))
   refine wcf hE rfl (wp_exit (qc (qc (qg (K10 (ww1 fun _ K14=>wpp (ql hE rfl (hM.get 0 rfl) row26 rfl (by intro X h;cases h) rfl fun a hE=>?_)))))))
   replace hM : Mem _ _ w7 [_,_,_,_,_,_] := hM.pick [4,0,1,2,3,5] rfl
   refine qr 0 hE rfl rfl hM rfl sz26 ((vj _).trans (keyW_length ..)) (ve _) rfl ((vj _).trans (by first | (simp;done) | (simp [*];done) | (simp;omega))) rfl (by intro X h;cases h) fun w8 hM=>?_
   simp only [List.set_cons_zero,List.set_cons_succ] at hM
   exact qa (K14 (wp_ret (qi hE rfl (res_cellN rfl (hM.get 0 rfl) row26 rfl) ⟨(by first | (simp [kK,hop,hor];done) | rfl),hM.pick [] rfl⟩)))
theorem ropens_c (s : So) (p : List UInt8) (w : World) (hk_s : OkS s) (hop : okp p = true) (hor0 : s.1 = true → okr s.2.1 = true) : Calls Tryz.prog 17 #[.agg ([[.bool s.1],[.int .i64 s.2.1],bv s.2.2.1,bv s.2.2.2.1,bv s.2.2.2.2] : List (List Value)).flatten.toArray,.string (str p)] w fun e w' => e = .returned (.tuple #[.agg (bv (opK p s)).toArray,.bool (opS p s)]) ∧ Mem w [] w' [] := by
 have hM := Mem.start0 w
 refine vf 27 Tryz.func17 rfl rfl rfl ?_
 intro a hE
 replace hE : Env a 27 [(0,_),(1,_)] := hE
 refine ww1 fun _ K1=>wpp ?_
 have hbl2_2 : s.2.2.1.length = 16 := hk_s.2.1
 have hbl2_3 : s.2.2.2.1.length = 32 := hk_s.2.2.1
 have hbl2_4 : s.2.2.2.2.length = 32 := hk_s.2.2.2
 refine s_box (ss := [[.bool s.1],[.int .i64 s.2.1],bv s.2.2.1,bv s.2.2.2.1,bv s.2.2.2.2]) [1,1,16,32,32] hE hM rfl rfl (by simp only [List.map_cons,List.map_nil,vj,List.length_cons,List.length_nil,List.length_replicate,hbl2_2,hbl2_3,hbl2_4]) rfl fun a b2 w1 hE hM=>?_
 refine qo [32] hE hM zero26 rfl rfl fun a b4 w2 hE hM=>sas hE rfl fun a hE=>qa (K1 (ww1 fun _ K2=>ww1 fun _ K3=>wpp (sf hE rfl fo36_0 fun a hE=>qm hE rfl (hM.get 1 rfl) rfl one4 (by intro X h;cases h) rfl fun a hE=>?_)))
 refine s_not hE rfl rfl fun a hE=>qa (K3 ?_)
 refine hE.split 10 rfl (fun hb10 hE=>?_) (fun hb10 hE=>?_)
 ·replace hb10 := not_true hb10
  refine wct hE rfl (ww1 fun _ K4=>wpp (s_build (r := .agg (bv (List.replicate 32 (0 : UInt8))).toArray) _ hE rfl (fun w => by kernel_rfl) rfl fun a hE=>?_))
  refine qr 0 hE rfl rfl hM rfl sz26 ((vj _).trans (by first | (simp;done) | (simp [*];done) | (simp;omega))) (ve _) rfl ((vj _).trans (by first | (simp;done) | (simp [*];done) | (simp;omega))) rfl (by intro X h;cases h) fun w3 hM=>?_
  simp only [List.set_cons_zero,List.set_cons_succ] at hM
  exact sas hE rfl fun a hE=>qa (K4 (wp_ret (qb (qj hE rfl (res_cellN rfl (hM.get 0 rfl) row26 rfl) rfl ⟨(by simp [opK,opS,hb10]),hM.pick [] rfl⟩))))
 ·replace hb10 := not_false' hb10
  have hu1 : s.1 = true := by simpa using hb10
  have hor := hor0 hu1
  refine wcf hE rfl (wp_skip (K2 (ww1 fun _ K4=>qz hM (by kernel_rfl) (fun _ => True) (fun _ => True) (.re [(0,true),(1,true),(3,true),(6,true),(2,true),(4,true),(7,true),(5,false),(8,false),(9,true),(10,true),(11,true),(12,false),(13,false),(14,true)] (.fl 4 (.weak (.fl 3 (.or 5 (.re [(8,false),(9,true),(10,true),(11,true),(12,false),(13,false),(14,true)] (.fl 0 (.fl 0 (.or 8 (.re [(9,true),(10,true),(11,true),(12,false),(13,false),(14,true)] (.fl 3 (.fl 0 (.or 12 (.re [(13,false),(14,true)] (.fl 0 (.fl 0 (.or 13 (.cut (.re [(14,true)] (.weak (.leaf 1)))) (.stop))))) (.stop))))) (.or 12 (.cut (.re [(8,false),(9,true),(10,true),(11,true),(13,false),(14,true)] (.fl 0 (.fl 0 (.or 8 (.re [(9,true),(10,true),(11,true),(13,false),(14,true)] (.fl 3 (.fl 0 (.weak (.or 13 (.cut (.re [(14,true)] (.weak (.leaf 1)))) (.stop)))))) (.stop)))))) (.stop)))))) (.or 12 (.re [(5,false),(8,false),(9,true),(10,true),(11,true),(13,false),(14,true)] (.fl 0 (.fl 0 (.or 5 (.cut (.re [(8,false),(9,true),(10,true),(11,true),(13,false),(14,true)] (.fl 0 (.fl 0 (.or 8 (.re [(9,true),(10,true),(11,true),(13,false),(14,true)] (.fl 3 (.fl 0 (.weak (.or 13 (.cut (.re [(14,true)] (.weak (.leaf 1)))) (.stop)))))) (.stop)))))) (.stop))))) (.stop))))))) [(0,true),(1,true),(3,true),(6,true),(2,true),(4,true),(7,true),(5,false),(8,false),(9,true),(10,true),(11,true),(12,false),(13,false),(14,true)] [(1,[(2,1),(5,2),(8,5),(9,8),(10,9),(11,9),(13,1),(14,1)]),(2,[(5,2),(8,5),(9,8),(10,9),(11,9),(13,2),(14,2)]),(3,[(4,3),(5,4),(8,5),(9,8),(10,9),(11,9),(13,3),(14,3)]),(4,[(5,4),(8,5),(9,8),(10,9),(11,9),(13,4),(14,4)]),(5,[(8,5),(9,8),(10,9),(11,9),(13,5),(14,5)]),(6,[(7,6),(8,7),(9,8),(10,9),(11,9),(13,6),(14,6)]),(7,[(8,7),(9,8),(10,9),(11,9),(13,7),(14,7)]),(8,[(9,8),(10,9),(11,9),(13,8),(14,8)]),(10,[(13,10),(14,10)]),(11,[(14,11)]),(12,[(13,12),(14,12)]),(13,[(14,13)])] (by kernel_rfl) ?_)))
  intro w3 hM' hww3;replace hM := hM'
  refine o_re (o_fl rfl (sm hE rfl fun a hE=>sf hE rfl fo36_2 fun a hE=>sf hE rfl fo36_1 fun a hE=>sf hE rfl fo36_3 fun a hE=>qa (qh (vc (fun b => b ≠ b2) (fun _ _ => trivial) (o_fl rfl (ql hE rfl (hM.get 1 rfl) row34 rfl (by intro X h;cases h;simp) rfl fun a hE=>?_))))))
  refine qm hE rfl (hM.get 1 rfl) rfl one3 (by intro X h;cases h;simp) rfl fun a hE=>?_
  refine ql hE rfl (hM.get 1 rfl) row29 rfl (by intro X h;cases h;simp) rfl fun a hE=>?_
  replace hE := hE.cast 20 rfl (show _ = Value.agg ([bv s.2.2.2.1,bv s.2.2.2.2] : List (List Value)).flatten.toArray from (by first | rfl | simp only [List.flatten_cons,List.flatten_nil,List.append_nil,List.append_assoc]))
  refine qa (qh ?_)
  refine o_or rfl ?_ ?_
  ·refine qn hE rfl Tryz.call19 (rkey25_c p s.2.2.1 s.2.1 _ hk_s.2.1 (by have hl_1 : s.2.2.1.length = 16 := hk_s.2.1;first | omega | assumption | (simp;done) | (simp;omega) | decide) (by have hl_1 : s.2.2.1.length = 16 := hk_s.2.1;first | omega | assumption | (simp;done) | (simp;omega) | decide)) rfl ?_
   rintro e w4 ⟨rfl,hN⟩
   refine ⟨_,rfl,hN.sta0 _,fun a hE=>?_⟩
   replace hM : Mem _ _ w4 [_,_] := hM.call0 hN trivial;clear hN
   refine qa (qh (o_re (o_fl rfl (qa (qh (o_fl rfl (qa (qh ?_))))))))
   refine o_or rfl ?_ ?_
   ·refine qn hE rfl Tryz.call30 (runwrap_c (kK p s.2.2.1 s.2.1) [115,108,111,116] 0 s.2.2.2.1 s.2.2.2.2 _ (vh p s.2.2.1 s.2.1) hk_s.2.2.1 hk_s.2.2.2 (by have hl_0 : (kK p s.2.2.1 s.2.1).length = 32 := (vh p s.2.2.1 s.2.1);have hl_1 : [115,108,111,116].length = 4 := (by first | (simp;done) | (simp [*];done) | (simp;omega));have hl_3d : s.2.2.2.1.length = 32 := hk_s.2.2.1;have hl_3t : s.2.2.2.2.length = 32 := hk_s.2.2.2;first | omega | assumption | (simp;done) | (simp;omega) | decide) (by have hl_0 : (kK p s.2.2.1 s.2.1).length = 32 := (vh p s.2.2.1 s.2.1);have hl_1 : [115,108,111,116].length = 4 := (by first | (simp;done) | (simp [*];done) | (simp;omega));have hl_3d : s.2.2.2.1.length = 32 := hk_s.2.2.1;have hl_3t : s.2.2.2.2.length = 32 := hk_s.2.2.2;first | omega | assumption | (simp;done) | (simp;omega) | decide)) rfl ?_
    rintro e w5 ⟨rfl,hN⟩
    refine ⟨_,rfl,hN.sta0 _,fun a hE=>?_⟩
    replace hM : Mem _ _ w5 [_,_] := hM.call0 hN trivial;clear hN
    refine qa (qh (o_re (o_fl rfl (sm hE rfl fun a hE=>sx hE rfl fun a hE=>sx hE rfl fun a hE=>qa (qh (o_fl rfl (qa (qh ?_))))))))
    refine o_or rfl ?_ ?_
    ·refine qo [32] hE hM zero26 rfl rfl fun a b6 w6 hE hM=>qa (qh (o_re (o_fl rfl (qa (qh (o_fl rfl (qa (qh ?_))))))))
     refine o_or rfl ?_ ?_
     ·refine qr 0 hE rfl rfl hM rfl sz26 ((vj _).trans (unwK_len (k := (kK p s.2.2.1 s.2.1)) (l := [115,108,111,116]) (n := 0) (d := s.2.2.2.1) (t := s.2.2.2.2) (by have hl_std : s.2.2.2.1.length = 32 := hk_s.2.2.1;first | assumption | (simp;done)))) (ve _) rfl ((vj _).trans (by first | (simp;done) | (simp [*];done) | (simp;omega))) rfl (by intro X h;cases h;exact fun e => ((apart_of_get hM.apart (i := 0) (j := 2) rfl rfl (by decide)).1 _ (.head _)).1 (by rw [e];exact .head _)) ?_;intro w7 hM
      simp only [List.set_cons_zero,List.set_cons_succ] at hM
      refine qa (qh (o_cut (fun _ => True) (o_re (vc (fun _ => False) (fun _ _ => trivial) (va rfl rfl (sas hE rfl fun a hE=>qa (q_ph (qa (K4 (ww1 fun _ K5=>wpp ?_))))))))))
      refine ql hE rfl (hM.get 0 rfl) row26 rfl (by intro X h;cases h) rfl fun a hE=>?_
      refine sm hE rfl fun a hE=>sb hE rfl rfl bin_eql fun a hE=>?_
      replace hM : Mem _ _ w7 [_,_,_] := hM.pick [1,0,2] rfl
      refine qr 0 hE rfl rfl hM rfl sz26 ((vj _).trans (unwK_len (k := (kK p s.2.2.1 s.2.1)) (l := [115,108,111,116]) (n := 0) (d := s.2.2.2.1) (t := s.2.2.2.2) (by have hl_std : s.2.2.2.1.length = 32 := hk_s.2.2.1;first | assumption | (simp;done)))) (ve _) rfl ((vj _).trans (by first | (simp;done) | (simp [*];done) | (simp;omega))) rfl (by intro X h;cases h) fun w8 hM=>?_
      simp only [List.set_cons_zero,List.set_cons_succ] at hM
      exact sas hE rfl fun a hE=>qa (K5 (wp_ret (qj hE rfl (res_cellN rfl (hM.get 0 rfl) row26 rfl) rfl ⟨(by rw [opK,if_pos hu1,← unwE_op hu1];rfl),hM.pick [] rfl⟩)))
     trivial
    trivial
   refine o_or rfl ?_ ?_
   ·refine qo [32] hE hM zero26 rfl rfl fun a b6 w5 hE hM=>qa (qh (o_cut (fun _ => True) (o_re (o_fl rfl (qa (qh (o_fl rfl (qa (qh ?_)))))))))
    refine o_or rfl ?_ ?_
    ·refine qn hE rfl Tryz.call30 (runwrap_c (kK p s.2.2.1 s.2.1) [115,108,111,116] 0 s.2.2.2.1 s.2.2.2.2 _ (vh p s.2.2.1 s.2.1) hk_s.2.2.1 hk_s.2.2.2 (by have hl_0 : (kK p s.2.2.1 s.2.1).length = 32 := (vh p s.2.2.1 s.2.1);have hl_1 : [115,108,111,116].length = 4 := (by first | (simp;done) | (simp [*];done) | (simp;omega));have hl_3d : s.2.2.2.1.length = 32 := hk_s.2.2.1;have hl_3t : s.2.2.2.2.length = 32 := hk_s.2.2.2;first | omega | assumption | (simp;done) | (simp;omega) | decide) (by have hl_0 : (kK p s.2.2.1 s.2.1).length = 32 := (vh p s.2.2.1 s.2.1);have hl_1 : [115,108,111,116].length = 4 := (by first | (simp;done) | (simp [*];done) | (simp;omega));have hl_3d : s.2.2.2.1.length = 32 := hk_s.2.2.1;have hl_3t : s.2.2.2.2.length = 32 := hk_s.2.2.2;first | omega | assumption | (simp;done) | (simp;omega) | decide)) rfl ?_
     rintro e w6 ⟨rfl,hN⟩
     refine ⟨_,rfl,hN.sta0 _,fun a hE=>?_⟩
     replace hM : Mem _ _ w6 [_,_,_] := hM.call0 hN trivial;clear hN
     refine qa (qh (o_re (o_fl rfl (sm hE rfl fun a hE=>sx hE rfl fun a hE=>sx hE rfl fun a hE=>qa (qh (o_fl rfl (qa (qh (vc (fun b => b = b6) (fun _ _ => trivial) ?_)))))))))
     refine o_or rfl ?_ ?_
     ·refine qr 0 hE rfl rfl hM rfl sz26 ((vj _).trans (unwK_len (k := (kK p s.2.2.1 s.2.1)) (l := [115,108,111,116]) (n := 0) (d := s.2.2.2.1) (t := s.2.2.2.2) (by have hl_std : s.2.2.2.1.length = 32 := hk_s.2.2.1;first | assumption | (simp;done)))) (ve _) rfl ((vj _).trans (by first | (simp;done) | (simp [*];done) | (simp;omega))) rfl (by intro X h;cases h;rfl) fun w7 hM=>?_
      simp only [List.set_cons_zero,List.set_cons_succ] at hM
      refine qa (qh (o_cut (fun _ => True) (o_re (vc (fun _ => False) (fun _ _ => trivial) (va rfl rfl (sas hE rfl fun a hE=>qa (q_ph (qa (K4 (ww1 fun _ K5=>wpp ?_))))))))))
      refine ql hE rfl (hM.get 0 rfl) row26 rfl (by intro X h;cases h) rfl fun a hE=>?_
      refine sm hE rfl fun a hE=>sb hE rfl rfl bin_eql fun a hE=>?_
      replace hM : Mem _ _ w7 [_,_,_] := hM.pick [1,0,2] rfl
      refine qr 0 hE rfl rfl hM rfl sz26 ((vj _).trans (unwK_len (k := (kK p s.2.2.1 s.2.1)) (l := [115,108,111,116]) (n := 0) (d := s.2.2.2.1) (t := s.2.2.2.2) (by have hl_std : s.2.2.2.1.length = 32 := hk_s.2.2.1;first | assumption | (simp;done)))) (ve _) rfl ((vj _).trans (by first | (simp;done) | (simp [*];done) | (simp;omega))) rfl (by intro X h;cases h) fun w8 hM=>?_
      simp only [List.set_cons_zero,List.set_cons_succ] at hM
      exact sas hE rfl fun a hE=>qa (K5 (wp_ret (qj hE rfl (res_cellN rfl (hM.get 0 rfl) row26 rfl) rfl ⟨(by rw [opK,if_pos hu1,← unwE_op hu1];rfl),hM.pick [] rfl⟩)))
     trivial
    trivial
   trivial
  refine o_or rfl ?_ ?_
  ·refine qo [32] hE hM zero26 rfl rfl fun a b6 w4 hE hM=>qa (qh (o_re (o_fl rfl (qa (qh (o_fl rfl (qa (qh ?_))))))))
   refine o_or rfl ?_ ?_
   ·refine qn hE rfl Tryz.call19 (rkey25_c p s.2.2.1 s.2.1 _ hk_s.2.1 (by have hl_1 : s.2.2.1.length = 16 := hk_s.2.1;first | omega | assumption | (simp;done) | (simp;omega) | decide) (by have hl_1 : s.2.2.1.length = 16 := hk_s.2.1;first | omega | assumption | (simp;done) | (simp;omega) | decide)) rfl ?_
    rintro e w5 ⟨rfl,hN⟩
    refine ⟨_,rfl,hN.sta0 _,fun a hE=>?_⟩
    replace hM : Mem _ _ w5 [_,_,_] := hM.call0 hN trivial;clear hN
    refine qa (qh (o_cut (fun _ => True) (o_re (o_fl rfl (qa (qh (o_fl rfl (qa (qh ?_)))))))))
    refine o_or rfl ?_ ?_
    ·refine qn hE rfl Tryz.call30 (runwrap_c (kK p s.2.2.1 s.2.1) [115,108,111,116] 0 s.2.2.2.1 s.2.2.2.2 _ (vh p s.2.2.1 s.2.1) hk_s.2.2.1 hk_s.2.2.2 (by have hl_0 : (kK p s.2.2.1 s.2.1).length = 32 := (vh p s.2.2.1 s.2.1);have hl_1 : [115,108,111,116].length = 4 := (by first | (simp;done) | (simp [*];done) | (simp;omega));have hl_3d : s.2.2.2.1.length = 32 := hk_s.2.2.1;have hl_3t : s.2.2.2.2.length = 32 := hk_s.2.2.2;first | omega | assumption | (simp;done) | (simp;omega) | decide) (by have hl_0 : (kK p s.2.2.1 s.2.1).length = 32 := (vh p s.2.2.1 s.2.1);have hl_1 : [115,108,111,116].length = 4 := (by first | (simp;done) | (simp [*];done) | (simp;omega));have hl_3d : s.2.2.2.1.length = 32 := hk_s.2.2.1;have hl_3t : s.2.2.2.2.length = 32 := hk_s.2.2.2;first | omega | assumption | (simp;done) | (simp;omega) | decide)) rfl ?_
     rintro e w6 ⟨rfl,hN⟩
     refine ⟨_,rfl,hN.sta0 _,fun a hE=>?_⟩
     replace hM : Mem _ _ w6 [_,_,_] := hM.call0 hN trivial;clear hN
     refine qa (qh (o_re (o_fl rfl (sm hE rfl fun a hE=>sx hE rfl fun a hE=>sx hE rfl fun a hE=>qa (qh (o_fl rfl (qa (qh (vc (fun b => b = b6) (fun _ _ => trivial) ?_)))))))))
     refine o_or rfl ?_ ?_
     ·refine qr 0 hE rfl rfl hM rfl sz26 ((vj _).trans (unwK_len (k := (kK p s.2.2.1 s.2.1)) (l := [115,108,111,116]) (n := 0) (d := s.2.2.2.1) (t := s.2.2.2.2) (by have hl_std : s.2.2.2.1.length = 32 := hk_s.2.2.1;first | assumption | (simp;done)))) (ve _) rfl ((vj _).trans (by first | (simp;done) | (simp [*];done) | (simp;omega))) rfl (by intro X h;cases h;rfl) fun w7 hM=>?_
      simp only [List.set_cons_zero,List.set_cons_succ] at hM
      refine qa (qh (o_cut (fun _ => True) (o_re (vc (fun _ => False) (fun _ _ => trivial) (va rfl rfl (sas hE rfl fun a hE=>qa (q_ph (qa (K4 (ww1 fun _ K5=>wpp ?_))))))))))
      refine ql hE rfl (hM.get 0 rfl) row26 rfl (by intro X h;cases h) rfl fun a hE=>?_
      refine sm hE rfl fun a hE=>sb hE rfl rfl bin_eql fun a hE=>?_
      replace hM : Mem _ _ w7 [_,_,_] := hM.pick [1,0,2] rfl
      refine qr 0 hE rfl rfl hM rfl sz26 ((vj _).trans (unwK_len (k := (kK p s.2.2.1 s.2.1)) (l := [115,108,111,116]) (n := 0) (d := s.2.2.2.1) (t := s.2.2.2.2) (by have hl_std : s.2.2.2.1.length = 32 := hk_s.2.2.1;first | assumption | (simp;done)))) (ve _) rfl ((vj _).trans (by first | (simp;done) | (simp [*];done) | (simp;omega))) rfl (by intro X h;cases h) fun w8 hM=>?_
      simp only [List.set_cons_zero,List.set_cons_succ] at hM
      exact sas hE rfl fun a hE=>qa (K5 (wp_ret (qj hE rfl (res_cellN rfl (hM.get 0 rfl) row26 rfl) rfl ⟨(by rw [opK,if_pos hu1,← unwE_op hu1];rfl),hM.pick [] rfl⟩)))
     trivial
    trivial
   trivial
  trivial
set_option maxRecDepth 20000 in
theorem empty25_c  (w : World)  : Calls Tryz.prog 22 #[] w fun e w' => e = .returned (.agg ([[.int .i64 emptyH.m],[.int .i64 emptyH.r],[.bool emptyH.v0.1],[.int .u64 ((emptyH.v0.2.1 : Nat) : Int)],bv emptyH.v0.2.2.1,bv emptyH.v0.2.2.2,[.bool emptyH.v1.1],[.int .u64 ((emptyH.v1.2.1 : Nat) : Int)],bv emptyH.v1.2.2.1,bv emptyH.v1.2.2.2,[.bool emptyH.s0.1],[.int .i64 emptyH.s0.2.1],bv emptyH.s0.2.2.1,bv emptyH.s0.2.2.2.1,bv emptyH.s0.2.2.2.2,[.bool emptyH.s1.1],[.int .i64 emptyH.s1.2.1],bv emptyH.s1.2.2.1,bv emptyH.s1.2.2.2.1,bv emptyH.s1.2.2.2.2,[.bool emptyH.s2.1],[.int .i64 emptyH.s2.2.1],bv emptyH.s2.2.2.1,bv emptyH.s2.2.2.2.1,bv emptyH.s2.2.2.2.2,[.bool emptyH.s3.1],[.int .i64 emptyH.s3.2.1],bv emptyH.s3.2.2.1,bv emptyH.s3.2.2.2.1,bv emptyH.s3.2.2.2.2] : List (List Value)).flatten.toArray) ∧ Mem w [] w' [] := by
 have hM := Mem.start0 w
 refine vf 3 Tryz.func22 rfl rfl rfl ?_
 intro a hE
 replace hE : Env a 3 [] := hE
 refine ww1 fun _ K1=>wpp (qo [1,1,1,1,32,32,1,1,32,32,1,1,16,32,32,1,1,16,32,32,1,1,16,32,32,1,1,16,32,32] hE hM zeroL39 rfl rfl fun a b0 w1 hE hM=>qa (K1 (ww1 fun _ K2=>wpp (vg [[.int .i64 4],[.int .i64 1]] hE rfl zero23 (by kernel_rfl) fpl23 (by first | (simp [PartsOk,Value.cells];done) | (simp [PartsOk,Value.cells];omega)) rfl fun a hE=>?_))))
 replace hE := hE.cast 1 rfl (show _ = Value.agg ([[.int .i64 4],[.int .i64 1]] : List (List Value)).flatten.toArray from (by first | rfl | simp [setAll] | (simp only [setAll,List.set_cons_zero,List.set_cons_succ,List.flatten_cons,List.flatten_nil,List.append_nil,List.append_assoc,List.replicate_succ,List.replicate_zero])))
 refine vg [([[.int .i64 4],[.int .i64 1]] : List (List Value)).flatten] hE rfl zero39 (by kernel_rfl) fpl39 (by first | (simp [PartsOk,Value.cells];done) | (simp [PartsOk,Value.cells];omega)) rfl fun a hE=>?_
 replace hE := hE.cast 2 rfl (show _ = Value.agg ([[.int .i64 4],[.int .i64 1],[.bool false],[.int .u64 0],bv (List.replicate 32 (0 : UInt8)),bv (List.replicate 32 (0 : UInt8)),[.bool false],[.int .u64 0],bv (List.replicate 32 (0 : UInt8)),bv (List.replicate 32 (0 : UInt8)),[.bool false],[.int .i64 0],bv (List.replicate 16 (0 : UInt8)),bv (List.replicate 32 (0 : UInt8)),bv (List.replicate 32 (0 : UInt8)),[.bool false],[.int .i64 0],bv (List.replicate 16 (0 : UInt8)),bv (List.replicate 32 (0 : UInt8)),bv (List.replicate 32 (0 : UInt8)),[.bool false],[.int .i64 0],bv (List.replicate 16 (0 : UInt8)),bv (List.replicate 32 (0 : UInt8)),bv (List.replicate 32 (0 : UInt8)),[.bool false],[.int .i64 0],bv (List.replicate 16 (0 : UInt8)),bv (List.replicate 32 (0 : UInt8)),bv (List.replicate 32 (0 : UInt8))] : List (List Value)).flatten.toArray from (by first | rfl | simp [setAll] | (simp only [setAll,List.set_cons_zero,List.set_cons_succ,List.flatten_cons,List.flatten_nil,List.append_nil,List.append_assoc,List.replicate_succ,List.replicate_zero])))
 have hsl16_4 : (List.replicate 32 (0 : UInt8)).length = 32 := List.length_replicate
 have hsl16_5 : (List.replicate 32 (0 : UInt8)).length = 32 := List.length_replicate
 have hsl16_8 : (List.replicate 32 (0 : UInt8)).length = 32 := List.length_replicate
 have hsl16_9 : (List.replicate 32 (0 : UInt8)).length = 32 := List.length_replicate
 have hsl16_12 : (List.replicate 16 (0 : UInt8)).length = 16 := List.length_replicate
 have hsl16_13 : (List.replicate 32 (0 : UInt8)).length = 32 := List.length_replicate
 have hsl16_14 : (List.replicate 32 (0 : UInt8)).length = 32 := List.length_replicate
 have hsl16_17 : (List.replicate 16 (0 : UInt8)).length = 16 := List.length_replicate
 have hsl16_18 : (List.replicate 32 (0 : UInt8)).length = 32 := List.length_replicate
 have hsl16_19 : (List.replicate 32 (0 : UInt8)).length = 32 := List.length_replicate
 have hsl16_22 : (List.replicate 16 (0 : UInt8)).length = 16 := List.length_replicate
 have hsl16_23 : (List.replicate 32 (0 : UInt8)).length = 32 := List.length_replicate
 have hsl16_24 : (List.replicate 32 (0 : UInt8)).length = 32 := List.length_replicate
 have hsl16_27 : (List.replicate 16 (0 : UInt8)).length = 16 := List.length_replicate
 have hsl16_28 : (List.replicate 32 (0 : UInt8)).length = 32 := List.length_replicate
 have hsl16_29 : (List.replicate 32 (0 : UInt8)).length = 32 := List.length_replicate
 refine qq 0 30 (vss := [[.int .i64 4],[.int .i64 1],[.bool false],[.int .u64 0],bv (List.replicate 32 (0 : UInt8)),bv (List.replicate 32 (0 : UInt8)),[.bool false],[.int .u64 0],bv (List.replicate 32 (0 : UInt8)),bv (List.replicate 32 (0 : UInt8)),[.bool false],[.int .i64 0],bv (List.replicate 16 (0 : UInt8)),bv (List.replicate 32 (0 : UInt8)),bv (List.replicate 32 (0 : UInt8)),[.bool false],[.int .i64 0],bv (List.replicate 16 (0 : UInt8)),bv (List.replicate 32 (0 : UInt8)),bv (List.replicate 32 (0 : UInt8)),[.bool false],[.int .i64 0],bv (List.replicate 16 (0 : UInt8)),bv (List.replicate 32 (0 : UInt8)),bv (List.replicate 32 (0 : UInt8)),[.bool false],[.int .i64 0],bv (List.replicate 16 (0 : UInt8)),bv (List.replicate 32 (0 : UInt8)),bv (List.replicate 32 (0 : UInt8))]) hE rfl rfl hM rfl sz39 (by simp only [List.take_succ_cons,List.take_zero,List.drop_zero,List.drop_succ_cons];simp only [List.map_cons,List.map_nil,vj,List.length_cons,List.length_nil,List.length_replicate,hsl16_4,hsl16_5,hsl16_8,hsl16_9,hsl16_12,hsl16_13,hsl16_14,hsl16_17,hsl16_18,hsl16_19,hsl16_22,hsl16_23,hsl16_24,hsl16_27,hsl16_28,hsl16_29]) (by decide) rfl (one_fl ⟨one1 rfl,one1 rfl,one1 rfl,one1 rfl,ve _,ve _,one1 rfl,one1 rfl,ve _,ve _,one1 rfl,one1 rfl,ve _,ve _,ve _,one1 rfl,one1 rfl,ve _,ve _,ve _,one1 rfl,one1 rfl,ve _,ve _,ve _,one1 rfl,one1 rfl,ve _,ve _,ve _,trivial⟩) rfl (by intro X h;cases h) fun w2 hM=>?_
 try simp only [List.take_zero,List.take_succ_cons,List.drop_zero,List.drop_succ_cons,List.take_nil,List.drop_nil,List.nil_append,List.append_nil,List.cons_append] at hM
 exact qa (K2 (wp_ret (qi hE rfl (res_cellN rfl (hM.get 0 rfl) row39 rfl) ⟨(by simp only [emptyH,zV,zS];rfl),hM.pick [] rfl⟩)))
theorem two25_c  (w : World) (hG : (glb 1).holds w) (hT : tabP.holds w) : Calls Tryz.prog 9 #[] w fun e w' => e = .returned (.tuple #[.agg ([[.int .i64 h2T.m],[.int .i64 h2T.r],[.bool h2T.v0.1],[.int .u64 ((h2T.v0.2.1 : Nat) : Int)],bv h2T.v0.2.2.1,bv h2T.v0.2.2.2,[.bool h2T.v1.1],[.int .u64 ((h2T.v1.2.1 : Nat) : Int)],bv h2T.v1.2.2.1,bv h2T.v1.2.2.2,[.bool h2T.s0.1],[.int .i64 h2T.s0.2.1],bv h2T.s0.2.2.1,bv h2T.s0.2.2.2.1,bv h2T.s0.2.2.2.2,[.bool h2T.s1.1],[.int .i64 h2T.s1.2.1],bv h2T.s1.2.2.1,bv h2T.s1.2.2.2.1,bv h2T.s1.2.2.2.2,[.bool h2T.s2.1],[.int .i64 h2T.s2.2.1],bv h2T.s2.2.2.1,bv h2T.s2.2.2.2.1,bv h2T.s2.2.2.2.2,[.bool h2T.s3.1],[.int .i64 h2T.s3.2.1],bv h2T.s3.2.2.1,bv h2T.s3.2.2.2.1,bv h2T.s3.2.2.2.2] : List (List Value)).flatten.toArray,.bool true]) ∧ Mem w [] w' [] := by
 have hM : Mem w [] w [glb 1,tabP] := Mem.startR w (fun g hg => by
  simp only [List.mem_cons,List.not_mem_nil,or_false] at hg
  rcases hg with rfl | rfl
  ·exact ⟨hG,rfl⟩
  ·exact ⟨hT,rfl⟩)
 refine vf 39 Tryz.func9 rfl rfl rfl ?_
 intro a hE
 replace hE : Env a 39 [] := hE
 refine ww1 fun _ K1=>wpp (qo [1,1,1,1,32,32,1,1,32,32,1,1,16,32,32,1,1,16,32,32,1,1,16,32,32,1,1,16,32,32] hE hM zeroL39 rfl rfl fun a b0 w1 hE hM=>sas hE rfl fun a hE=>qa (K1 (ww1 fun _ K2=>wpp (qn hE rfl Tryz.call22 (empty25_c  _ ) rfl ?_))))
 rintro e w2 ⟨rfl,hN⟩
 refine ⟨_,rfl,trivial,fun a hE=>?_⟩
 replace hM : Mem _ _ w2 [_,_,_] := hM.call0 hN trivial;clear hN
 refine s_build (r := .agg (bv [7,0,0,0,0,0,0,0,0,0,0,0,0,0,0,0,0,0,0,0,0,0,0,0,0,0,0,0,0,0,0,0]).toArray) _ hE rfl (fun w => by kernel_rfl) rfl fun a hE=>?_
 refine s_build (r := .agg (bv [1,0,0,0,0,0,0,0,0,0,0,0,0,0,0,0]).toArray) _ hE rfl (fun w => by kernel_rfl) rfl fun a hE=>?_
 refine qn hE rfl Tryz.call6 ((by have h := add_c emptyH k7 [97,98] sa1 2 _ (hM.get 1 rfl) (hM.get 2 rfl) emptyH_ok (by decide) (by decide) (by unfold In64;decide);rw [add1T] at h;exact h)) rfl ?_
 rintro e w3 ⟨rfl,hN⟩
 refine ⟨_,rfl,trivial,fun a hE=>?_⟩
 replace hM : Mem _ _ w3 [_,_,_] := hM.call0 hN trivial;clear hN
 refine sm hE rfl fun a hE=>sx hE rfl fun a hE=>sx hE rfl fun a hE=>sx hE rfl fun a hE=>qo [1,1,1,1,32,32,1,1,32,32,1,1,16,32,32,1,1,16,32,32,1,1,16,32,32,1,1,16,32,32] hE hM zeroL39 rfl rfl fun a b2 w4 hE hM=>?_
 have hsl33_4 : h1T.v0.2.2.1.length = 32 := h1T_ok.v0.2.1
 have hsl33_5 : h1T.v0.2.2.2.length = 32 := h1T_ok.v0.2.2
 have hsl33_8 : h1T.v1.2.2.1.length = 32 := h1T_ok.v1.2.1
 have hsl33_9 : h1T.v1.2.2.2.length = 32 := h1T_ok.v1.2.2
 have hsl33_12 : h1T.s0.2.2.1.length = 16 := h1T_ok.s0.2.1
 have hsl33_13 : h1T.s0.2.2.2.1.length = 32 := h1T_ok.s0.2.2.1
 have hsl33_14 : h1T.s0.2.2.2.2.length = 32 := h1T_ok.s0.2.2.2
 have hsl33_17 : h1T.s1.2.2.1.length = 16 := h1T_ok.s1.2.1
 have hsl33_18 : h1T.s1.2.2.2.1.length = 32 := h1T_ok.s1.2.2.1
 have hsl33_19 : h1T.s1.2.2.2.2.length = 32 := h1T_ok.s1.2.2.2
 have hsl33_22 : h1T.s2.2.2.1.length = 16 := h1T_ok.s2.2.1
 have hsl33_23 : h1T.s2.2.2.2.1.length = 32 := h1T_ok.s2.2.2.1
 have hsl33_24 : h1T.s2.2.2.2.2.length = 32 := h1T_ok.s2.2.2.2
 have hsl33_27 : h1T.s3.2.2.1.length = 16 := h1T_ok.s3.2.1
 have hsl33_28 : h1T.s3.2.2.2.1.length = 32 := h1T_ok.s3.2.2.1
 have hsl33_29 : h1T.s3.2.2.2.2.length = 32 := h1T_ok.s3.2.2.2
 refine qq 0 30 (vss := [[.int .i64 h1T.m],[.int .i64 h1T.r],[.bool h1T.v0.1],[.int .u64 ((h1T.v0.2.1 : Nat) : Int)],bv h1T.v0.2.2.1,bv h1T.v0.2.2.2,[.bool h1T.v1.1],[.int .u64 ((h1T.v1.2.1 : Nat) : Int)],bv h1T.v1.2.2.1,bv h1T.v1.2.2.2,[.bool h1T.s0.1],[.int .i64 h1T.s0.2.1],bv h1T.s0.2.2.1,bv h1T.s0.2.2.2.1,bv h1T.s0.2.2.2.2,[.bool h1T.s1.1],[.int .i64 h1T.s1.2.1],bv h1T.s1.2.2.1,bv h1T.s1.2.2.2.1,bv h1T.s1.2.2.2.2,[.bool h1T.s2.1],[.int .i64 h1T.s2.2.1],bv h1T.s2.2.2.1,bv h1T.s2.2.2.2.1,bv h1T.s2.2.2.2.2,[.bool h1T.s3.1],[.int .i64 h1T.s3.2.1],bv h1T.s3.2.2.1,bv h1T.s3.2.2.2.1,bv h1T.s3.2.2.2.2]) hE rfl rfl hM rfl sz39 (by simp only [List.take_succ_cons,List.take_zero,List.drop_zero,List.drop_succ_cons];simp only [List.map_cons,List.map_nil,vj,List.length_cons,List.length_nil,List.length_replicate,hsl33_4,hsl33_5,hsl33_8,hsl33_9,hsl33_12,hsl33_13,hsl33_14,hsl33_17,hsl33_18,hsl33_19,hsl33_22,hsl33_23,hsl33_24,hsl33_27,hsl33_28,hsl33_29]) (by decide) rfl (one_fl ⟨one1 rfl,one1 rfl,one1 rfl,one1 rfl,ve _,ve _,one1 rfl,one1 rfl,ve _,ve _,one1 rfl,one1 rfl,ve _,ve _,ve _,one1 rfl,one1 rfl,ve _,ve _,ve _,one1 rfl,one1 rfl,ve _,ve _,ve _,one1 rfl,one1 rfl,ve _,ve _,ve _,trivial⟩) rfl (by intro X h;cases h) fun w5 hM=>?_
 try simp only [List.take_zero,List.take_succ_cons,List.drop_zero,List.drop_succ_cons,List.take_nil,List.drop_nil,List.nil_append,List.append_nil,List.cons_append] at hM
 refine sas hE rfl fun a hE=>sas hE rfl fun a hE=>qa (K2 (ww1 fun _ K3=>wpp (ql hE rfl (hM.get 0 rfl) row39 rfl (by intro X h;cases h) rfl fun a hE=>?_)))
 replace hE := hE.cast 17 rfl (show _ = Value.agg ([[.int .i64 h1T.m],[.int .i64 h1T.r],[.bool h1T.v0.1],[.int .u64 ((h1T.v0.2.1 : Nat) : Int)],bv h1T.v0.2.2.1,bv h1T.v0.2.2.2,[.bool h1T.v1.1],[.int .u64 ((h1T.v1.2.1 : Nat) : Int)],bv h1T.v1.2.2.1,bv h1T.v1.2.2.2,[.bool h1T.s0.1],[.int .i64 h1T.s0.2.1],bv h1T.s0.2.2.1,bv h1T.s0.2.2.2.1,bv h1T.s0.2.2.2.2,[.bool h1T.s1.1],[.int .i64 h1T.s1.2.1],bv h1T.s1.2.2.1,bv h1T.s1.2.2.2.1,bv h1T.s1.2.2.2.2,[.bool h1T.s2.1],[.int .i64 h1T.s2.2.1],bv h1T.s2.2.2.1,bv h1T.s2.2.2.2.1,bv h1T.s2.2.2.2.2,[.bool h1T.s3.1],[.int .i64 h1T.s3.2.1],bv h1T.s3.2.2.1,bv h1T.s3.2.2.2.1,bv h1T.s3.2.2.2.2] : List (List Value)).flatten.toArray from (by first | rfl | simp only [List.flatten_cons,List.flatten_nil,List.append_nil,List.append_assoc]))
 refine s_build (r := .agg (bv [7,0,0,0,0,0,0,0,0,0,0,0,0,0,0,0,0,0,0,0,0,0,0,0,0,0,0,0,0,0,0,0]).toArray) _ hE rfl (fun w => by kernel_rfl) rfl fun a hE=>?_
 refine s_build (r := .agg (bv [2,0,0,0,0,0,0,0,0,0,0,0,0,0,0,0]).toArray) _ hE rfl (fun w => by kernel_rfl) rfl fun a hE=>?_
 refine qn hE rfl Tryz.call6 ((by have h := add_c h1T k7 [99,100] sa2 1 _ (hM.get 2 rfl) (hM.get 3 rfl) h1T_ok (by decide) (by decide) (by unfold In64;decide);rw [add2T] at h;exact h)) rfl ?_
 rintro e w6 ⟨rfl,hN⟩
 refine ⟨_,rfl,trivial,fun a hE=>?_⟩
 replace hM : Mem _ _ w6 [_,_,_,_] := hM.call0 hN trivial;clear hN
 refine sm hE rfl fun a hE=>sx hE rfl fun a hE=>sx hE rfl fun a hE=>sx hE rfl fun a hE=>qo [1,1,1,1,32,32,1,1,32,32,1,1,16,32,32,1,1,16,32,32,1,1,16,32,32,1,1,16,32,32] hE hM zeroL39 rfl rfl fun a b5 w7 hE hM=>?_
 have hsl72_4 : h2T.v0.2.2.1.length = 32 := h2T_ok.v0.2.1
 have hsl72_5 : h2T.v0.2.2.2.length = 32 := h2T_ok.v0.2.2
 have hsl72_8 : h2T.v1.2.2.1.length = 32 := h2T_ok.v1.2.1
 have hsl72_9 : h2T.v1.2.2.2.length = 32 := h2T_ok.v1.2.2
 have hsl72_12 : h2T.s0.2.2.1.length = 16 := h2T_ok.s0.2.1
 have hsl72_13 : h2T.s0.2.2.2.1.length = 32 := h2T_ok.s0.2.2.1
 have hsl72_14 : h2T.s0.2.2.2.2.length = 32 := h2T_ok.s0.2.2.2
 have hsl72_17 : h2T.s1.2.2.1.length = 16 := h2T_ok.s1.2.1
 have hsl72_18 : h2T.s1.2.2.2.1.length = 32 := h2T_ok.s1.2.2.1
 have hsl72_19 : h2T.s1.2.2.2.2.length = 32 := h2T_ok.s1.2.2.2
 have hsl72_22 : h2T.s2.2.2.1.length = 16 := h2T_ok.s2.2.1
 have hsl72_23 : h2T.s2.2.2.2.1.length = 32 := h2T_ok.s2.2.2.1
 have hsl72_24 : h2T.s2.2.2.2.2.length = 32 := h2T_ok.s2.2.2.2
 have hsl72_27 : h2T.s3.2.2.1.length = 16 := h2T_ok.s3.2.1
 have hsl72_28 : h2T.s3.2.2.2.1.length = 32 := h2T_ok.s3.2.2.1
 have hsl72_29 : h2T.s3.2.2.2.2.length = 32 := h2T_ok.s3.2.2.2
 refine qq 0 30 (vss := [[.int .i64 h2T.m],[.int .i64 h2T.r],[.bool h2T.v0.1],[.int .u64 ((h2T.v0.2.1 : Nat) : Int)],bv h2T.v0.2.2.1,bv h2T.v0.2.2.2,[.bool h2T.v1.1],[.int .u64 ((h2T.v1.2.1 : Nat) : Int)],bv h2T.v1.2.2.1,bv h2T.v1.2.2.2,[.bool h2T.s0.1],[.int .i64 h2T.s0.2.1],bv h2T.s0.2.2.1,bv h2T.s0.2.2.2.1,bv h2T.s0.2.2.2.2,[.bool h2T.s1.1],[.int .i64 h2T.s1.2.1],bv h2T.s1.2.2.1,bv h2T.s1.2.2.2.1,bv h2T.s1.2.2.2.2,[.bool h2T.s2.1],[.int .i64 h2T.s2.2.1],bv h2T.s2.2.2.1,bv h2T.s2.2.2.2.1,bv h2T.s2.2.2.2.2,[.bool h2T.s3.1],[.int .i64 h2T.s3.2.1],bv h2T.s3.2.2.1,bv h2T.s3.2.2.2.1,bv h2T.s3.2.2.2.2]) hE rfl rfl hM rfl sz39 (by simp only [List.take_succ_cons,List.take_zero,List.drop_zero,List.drop_succ_cons];simp only [List.map_cons,List.map_nil,vj,List.length_cons,List.length_nil,List.length_replicate,hsl72_4,hsl72_5,hsl72_8,hsl72_9,hsl72_12,hsl72_13,hsl72_14,hsl72_17,hsl72_18,hsl72_19,hsl72_22,hsl72_23,hsl72_24,hsl72_27,hsl72_28,hsl72_29]) (by decide) rfl (one_fl ⟨one1 rfl,one1 rfl,one1 rfl,one1 rfl,ve _,ve _,one1 rfl,one1 rfl,ve _,ve _,one1 rfl,one1 rfl,ve _,ve _,ve _,one1 rfl,one1 rfl,ve _,ve _,ve _,one1 rfl,one1 rfl,ve _,ve _,ve _,one1 rfl,one1 rfl,ve _,ve _,ve _,trivial⟩) rfl (by intro X h;cases h) fun w8 hM=>?_
 try simp only [List.take_zero,List.take_succ_cons,List.drop_zero,List.drop_succ_cons,List.take_nil,List.drop_nil,List.nil_append,List.append_nil,List.cons_append] at hM
 refine sas hE rfl fun a hE=>sas hE rfl fun a hE=>qa (K3 (ww1 fun _ K4=>wpp (ql hE rfl (hM.get 0 rfl) row39 rfl (by intro X h;cases h) rfl fun a hE=>?_)))
 replace hE := hE.cast 24 rfl (show _ = Value.agg ([[.int .i64 h2T.m],[.int .i64 h2T.r],[.bool h2T.v0.1],[.int .u64 ((h2T.v0.2.1 : Nat) : Int)],bv h2T.v0.2.2.1,bv h2T.v0.2.2.2,[.bool h2T.v1.1],[.int .u64 ((h2T.v1.2.1 : Nat) : Int)],bv h2T.v1.2.2.1,bv h2T.v1.2.2.2,[.bool h2T.s0.1],[.int .i64 h2T.s0.2.1],bv h2T.s0.2.2.1,bv h2T.s0.2.2.2.1,bv h2T.s0.2.2.2.2,[.bool h2T.s1.1],[.int .i64 h2T.s1.2.1],bv h2T.s1.2.2.1,bv h2T.s1.2.2.2.1,bv h2T.s1.2.2.2.2,[.bool h2T.s2.1],[.int .i64 h2T.s2.2.1],bv h2T.s2.2.2.1,bv h2T.s2.2.2.2.1,bv h2T.s2.2.2.2.2,[.bool h2T.s3.1],[.int .i64 h2T.s3.2.1],bv h2T.s3.2.2.1,bv h2T.s3.2.2.2.1,bv h2T.s3.2.2.2.2] : List (List Value)).flatten.toArray from (by first | rfl | simp only [List.flatten_cons,List.flatten_nil,List.append_nil,List.append_assoc]))
 refine sm hE rfl fun a hE=>sb hE rfl rfl bin_eql fun a hE=>?_
 replace hE := hE.cast 26 rfl (show _ = Value.bool true from (congrArg Value.bool (by decide)))
 refine sm hE rfl fun a hE=>gy hE rfl (sm hE rfl fun a hE=>gy hE rfl (sb hE rfl rfl bin_eql fun a hE=>?_))
 replace hE := hE.cast 29 rfl (show _ = Value.bool true from (congrArg Value.bool (by decide)))
 refine pkt hE rfl fun a hE=>sm hE rfl fun a hE=>gy hE rfl (sm hE rfl fun a hE=>gy hE rfl (sb hE rfl rfl bin_eql fun a hE=>?_))
 replace hE := hE.cast 33 rfl (show _ = Value.bool true from (congrArg Value.bool (by decide)))
 refine pkt hE rfl fun a hE=>sm hE rfl fun a hE=>gy hE rfl (sm hE rfl fun a hE=>gy hE rfl (sb hE rfl rfl bin_eql fun a hE=>?_))
 replace hE := hE.cast 37 rfl (show _ = Value.bool true from (congrArg Value.bool (by decide)))
 refine pkt hE rfl fun a hE=>?_
 have hsl123_4 : h2T.v0.2.2.1.length = 32 := h2T_ok.v0.2.1
 have hsl123_5 : h2T.v0.2.2.2.length = 32 := h2T_ok.v0.2.2
 have hsl123_8 : h2T.v1.2.2.1.length = 32 := h2T_ok.v1.2.1
 have hsl123_9 : h2T.v1.2.2.2.length = 32 := h2T_ok.v1.2.2
 have hsl123_12 : h2T.s0.2.2.1.length = 16 := h2T_ok.s0.2.1
 have hsl123_13 : h2T.s0.2.2.2.1.length = 32 := h2T_ok.s0.2.2.1
 have hsl123_14 : h2T.s0.2.2.2.2.length = 32 := h2T_ok.s0.2.2.2
 have hsl123_17 : h2T.s1.2.2.1.length = 16 := h2T_ok.s1.2.1
 have hsl123_18 : h2T.s1.2.2.2.1.length = 32 := h2T_ok.s1.2.2.1
 have hsl123_19 : h2T.s1.2.2.2.2.length = 32 := h2T_ok.s1.2.2.2
 have hsl123_22 : h2T.s2.2.2.1.length = 16 := h2T_ok.s2.2.1
 have hsl123_23 : h2T.s2.2.2.2.1.length = 32 := h2T_ok.s2.2.2.1
 have hsl123_24 : h2T.s2.2.2.2.2.length = 32 := h2T_ok.s2.2.2.2
 have hsl123_27 : h2T.s3.2.2.1.length = 16 := h2T_ok.s3.2.1
 have hsl123_28 : h2T.s3.2.2.2.1.length = 32 := h2T_ok.s3.2.2.1
 have hsl123_29 : h2T.s3.2.2.2.2.length = 32 := h2T_ok.s3.2.2.2
 replace hM : Mem _ _ w8 [_,_,_,_,_] := hM.pick [2,0,1,3,4] rfl
 refine qq 0 30 (vss := [[.int .i64 h2T.m],[.int .i64 h2T.r],[.bool h2T.v0.1],[.int .u64 ((h2T.v0.2.1 : Nat) : Int)],bv h2T.v0.2.2.1,bv h2T.v0.2.2.2,[.bool h2T.v1.1],[.int .u64 ((h2T.v1.2.1 : Nat) : Int)],bv h2T.v1.2.2.1,bv h2T.v1.2.2.2,[.bool h2T.s0.1],[.int .i64 h2T.s0.2.1],bv h2T.s0.2.2.1,bv h2T.s0.2.2.2.1,bv h2T.s0.2.2.2.2,[.bool h2T.s1.1],[.int .i64 h2T.s1.2.1],bv h2T.s1.2.2.1,bv h2T.s1.2.2.2.1,bv h2T.s1.2.2.2.2,[.bool h2T.s2.1],[.int .i64 h2T.s2.2.1],bv h2T.s2.2.2.1,bv h2T.s2.2.2.2.1,bv h2T.s2.2.2.2.2,[.bool h2T.s3.1],[.int .i64 h2T.s3.2.1],bv h2T.s3.2.2.1,bv h2T.s3.2.2.2.1,bv h2T.s3.2.2.2.2]) hE rfl rfl hM rfl sz39 (by simp only [List.take_succ_cons,List.take_zero,List.drop_zero,List.drop_succ_cons];simp only [List.map_cons,List.map_nil,vj,List.length_cons,List.length_nil,List.length_replicate,hsl123_4,hsl123_5,hsl123_8,hsl123_9,hsl123_12,hsl123_13,hsl123_14,hsl123_17,hsl123_18,hsl123_19,hsl123_22,hsl123_23,hsl123_24,hsl123_27,hsl123_28,hsl123_29]) (by decide) rfl (one_fl ⟨one1 rfl,one1 rfl,one1 rfl,one1 rfl,ve _,ve _,one1 rfl,one1 rfl,ve _,ve _,one1 rfl,one1 rfl,ve _,ve _,ve _,one1 rfl,one1 rfl,ve _,ve _,ve _,one1 rfl,one1 rfl,ve _,ve _,ve _,one1 rfl,one1 rfl,ve _,ve _,ve _,trivial⟩) rfl (by intro X h;cases h) fun w9 hM=>?_
 try simp only [List.take_zero,List.take_succ_cons,List.drop_zero,List.drop_succ_cons,List.take_nil,List.drop_nil,List.nil_append,List.append_nil,List.cons_append] at hM
 exact sas hE rfl fun a hE=>qa (K4 (wp_ret (qj hE rfl (res_cellN rfl (hM.get 0 rfl) row39 rfl) rfl ⟨(by first | rfl | (simp;done)),hM.pick [] rfl⟩)))
theorem opens25_c (h : Hd) (p : List UInt8) (j : Nat) (w : World) (hG : (glb 1).holds w) (hT : tabP.holds w) (hk_h : OkHd h) : Calls Tryz.prog 10 #[.agg ([[.int .i64 h.m],[.int .i64 h.r],[.bool h.v0.1],[.int .u64 ((h.v0.2.1 : Nat) : Int)],bv h.v0.2.2.1,bv h.v0.2.2.2,[.bool h.v1.1],[.int .u64 ((h.v1.2.1 : Nat) : Int)],bv h.v1.2.2.1,bv h.v1.2.2.2,[.bool h.s0.1],[.int .i64 h.s0.2.1],bv h.s0.2.2.1,bv h.s0.2.2.2.1,bv h.s0.2.2.2.2,[.bool h.s1.1],[.int .i64 h.s1.2.1],bv h.s1.2.2.1,bv h.s1.2.2.2.1,bv h.s1.2.2.2.2,[.bool h.s2.1],[.int .i64 h.s2.2.1],bv h.s2.2.2.1,bv h.s2.2.2.2.1,bv h.s2.2.2.2.2,[.bool h.s3.1],[.int .i64 h.s3.2.1],bv h.s3.2.2.1,bv h.s3.2.2.2.1,bv h.s3.2.2.2.2] : List (List Value)).flatten.toArray,.string (str p),.int .i64 (j : Int)] w fun e w' => e = .returned (.bool (opensB h p j)) ∧ Mem w [] w' [] := by
 have hM : Mem w [] w [glb 1,tabP] := Mem.startR w (fun g hg => by
  simp only [List.mem_cons,List.not_mem_nil,or_false] at hg
  rcases hg with rfl | rfl
  ·exact ⟨hG,rfl⟩
  ·exact ⟨hT,rfl⟩)
 refine vf 29 Tryz.func10 rfl rfl rfl ?_
 intro a hE
 replace hE : Env a 29 [(0,_),(1,_),(2,_)] := hE
 refine ww1 fun _ K1=>wpp ?_
 have hbl3_4 : h.v0.2.2.1.length = 32 := hk_h.v0.2.1
 have hbl3_5 : h.v0.2.2.2.length = 32 := hk_h.v0.2.2
 have hbl3_8 : h.v1.2.2.1.length = 32 := hk_h.v1.2.1
 have hbl3_9 : h.v1.2.2.2.length = 32 := hk_h.v1.2.2
 have hbl3_12 : h.s0.2.2.1.length = 16 := hk_h.s0.2.1
 have hbl3_13 : h.s0.2.2.2.1.length = 32 := hk_h.s0.2.2.1
 have hbl3_14 : h.s0.2.2.2.2.length = 32 := hk_h.s0.2.2.2
 have hbl3_17 : h.s1.2.2.1.length = 16 := hk_h.s1.2.1
 have hbl3_18 : h.s1.2.2.2.1.length = 32 := hk_h.s1.2.2.1
 have hbl3_19 : h.s1.2.2.2.2.length = 32 := hk_h.s1.2.2.2
 have hbl3_22 : h.s2.2.2.1.length = 16 := hk_h.s2.2.1
 have hbl3_23 : h.s2.2.2.2.1.length = 32 := hk_h.s2.2.2.1
 have hbl3_24 : h.s2.2.2.2.2.length = 32 := hk_h.s2.2.2.2
 have hbl3_27 : h.s3.2.2.1.length = 16 := hk_h.s3.2.1
 have hbl3_28 : h.s3.2.2.2.1.length = 32 := hk_h.s3.2.2.1
 have hbl3_29 : h.s3.2.2.2.2.length = 32 := hk_h.s3.2.2.2
 refine s_box (ss := [[.int .i64 h.m],[.int .i64 h.r],[.bool h.v0.1],[.int .u64 ((h.v0.2.1 : Nat) : Int)],bv h.v0.2.2.1,bv h.v0.2.2.2,[.bool h.v1.1],[.int .u64 ((h.v1.2.1 : Nat) : Int)],bv h.v1.2.2.1,bv h.v1.2.2.2,[.bool h.s0.1],[.int .i64 h.s0.2.1],bv h.s0.2.2.1,bv h.s0.2.2.2.1,bv h.s0.2.2.2.2,[.bool h.s1.1],[.int .i64 h.s1.2.1],bv h.s1.2.2.1,bv h.s1.2.2.2.1,bv h.s1.2.2.2.2,[.bool h.s2.1],[.int .i64 h.s2.2.1],bv h.s2.2.2.1,bv h.s2.2.2.2.1,bv h.s2.2.2.2.2,[.bool h.s3.1],[.int .i64 h.s3.2.1],bv h.s3.2.2.1,bv h.s3.2.2.2.1,bv h.s3.2.2.2.2]) [1,1,1,1,32,32,1,1,32,32,1,1,16,32,32,1,1,16,32,32,1,1,16,32,32,1,1,16,32,32] hE hM rfl rfl (by simp only [List.map_cons,List.map_nil,vj,List.length_cons,List.length_nil,List.length_replicate,hbl3_4,hbl3_5,hbl3_8,hbl3_9,hbl3_12,hbl3_13,hbl3_14,hbl3_17,hbl3_18,hbl3_19,hbl3_22,hbl3_23,hbl3_24,hbl3_27,hbl3_28,hbl3_29]) rfl fun a b3 w1 hE hM=>?_
 refine sas hE rfl fun a hE=>qa (K1 (ww1 fun _ K2=>wpp (ql hE rfl (hM.get 0 rfl) row39 rfl (by intro X h;cases h) rfl fun a hE=>?_)))
 replace hE := hE.cast 11 rfl (show _ = Value.agg ([[.int .i64 h.m],[.int .i64 h.r],[.bool h.v0.1],[.int .u64 ((h.v0.2.1 : Nat) : Int)],bv h.v0.2.2.1,bv h.v0.2.2.2,[.bool h.v1.1],[.int .u64 ((h.v1.2.1 : Nat) : Int)],bv h.v1.2.2.1,bv h.v1.2.2.2,[.bool h.s0.1],[.int .i64 h.s0.2.1],bv h.s0.2.2.1,bv h.s0.2.2.2.1,bv h.s0.2.2.2.2,[.bool h.s1.1],[.int .i64 h.s1.2.1],bv h.s1.2.2.1,bv h.s1.2.2.2.1,bv h.s1.2.2.2.2,[.bool h.s2.1],[.int .i64 h.s2.2.1],bv h.s2.2.2.1,bv h.s2.2.2.2.1,bv h.s2.2.2.2.2,[.bool h.s3.1],[.int .i64 h.s3.2.1],bv h.s3.2.2.1,bv h.s3.2.2.2.1,bv h.s3.2.2.2.2] : List (List Value)).flatten.toArray from (by first | rfl | simp only [List.flatten_cons,List.flatten_nil,List.append_nil,List.append_assoc]))
 refine sm hE rfl fun a hE=>qn hE rfl Tryz.call23 (unlock_c h p _ (hM.get 1 rfl) (hM.get 2 rfl) hk_h) rfl ?_
 rintro e w2 ⟨rfl,hN⟩
 refine ⟨_,rfl,trivial,fun a hE=>?_⟩
 replace hM : Mem _ _ w2 [_,_,_] := hM.call0 hN trivial;clear hN
 refine sm hE rfl fun a hE=>sx hE rfl fun a hE=>sx hE rfl fun a hE=>sx hE rfl fun a hE=>qo [32] hE hM zero26 rfl rfl fun a b7 w3 hE hM=>qr 0 hE rfl rfl hM rfl sz26 ((vj _).trans (unl_len hk_h p)) (ve _) rfl ((vj _).trans (by first | (simp;done) | (simp [*];done) | (simp;omega))) rfl (by intro X h;cases h) fun w4 hM=>?_
 simp only [List.set_cons_zero,List.set_cons_succ] at hM
 refine sas hE rfl fun a hE=>sas hE rfl fun a hE=>qa (K2 (ww1 fun _ K3=>wpp (ql hE rfl (hM.get 0 rfl) row26 rfl (by intro X h;cases h) rfl fun a hE=>?_)))
 refine s_build (r := .agg (bv [7,0,0,0,0,0,0,0,0,0,0,0,0,0,0,0,0,0,0,0,0,0,0,0,0,0,0,0,0,0,0,0]).toArray) _ hE rfl (fun w => by kernel_rfl) rfl fun a hE=>?_
 refine s_bin hE rfl rfl (eqa26 (unl_len hk_h p) (by first | (simp;done) | (simp [*];done) | (simp;omega))).1 rfl fun a hE=>?_
 refine sm hE rfl fun a hE=>?_
 refine hE.split 20 rfl (fun hb20 hE=>?_) (fun hb20 hE=>?_)
 ·replace hb20 := of_decide_eq_true hb20
  refine gy hE rfl (sm hE rfl fun a hE=>gy hE rfl (sm hE rfl fun a hE=>gy hE rfl (sb hE rfl rfl bin_eql fun a hE=>pkt hE rfl fun a hE=>sm hE rfl fun a hE=>?_)))
  refine hE.split 25 rfl (fun hb25 hE=>?_) (fun hb25 hE=>?_)
  ·replace hb25 := of_decide_eq_true hb25
   replace hb25 : ((unl h p).2.1) = j := by omega
   exact gy hE rfl (sm hE rfl fun a hE=>gy hE rfl (sb hE rfl rfl bin_eql fun a hE=>pkt hE rfl fun a hE=>sas hE rfl fun a hE=>qa (K3 (wp_ret (qi hE rfl rfl ⟨(by simp [opensB,k7,hb20,hb25]),hM.pick [] rfl⟩)))))
  ·replace hb25 := of_decide_eq_false hb25
   replace hb25 : ¬ (((unl h p).2.1) = j) := by omega
   exact gf hE rfl fun a hE=>gf hE rfl fun a hE=>pkf hE rfl fun a hE=>sas hE rfl fun a hE=>qa (K3 (wp_ret (qi hE rfl rfl ⟨(by simp [opensB,k7,hb20,hb25]),hM.pick [] rfl⟩)))
 ·replace hb20 := of_decide_eq_false hb20
  refine gf hE rfl fun a hE=>gf hE rfl fun a hE=>gf hE rfl fun a hE=>pkf hE rfl fun a hE=>sm hE rfl fun a hE=>gf hE rfl fun a hE=>gf hE rfl fun a hE=>pkf hE rfl fun a hE=>sas hE rfl fun a hE=>qa ?_
  exact K3 (wp_ret (qi hE rfl rfl ⟨(by simp [opensB,k7,hb20]),hM.pick [] rfl⟩))
set_option maxRecDepth 20000 in
theorem awake25_c  (w : World) (hG : (glb 1).holds w) (hT : tabP.holds w) : Calls Tryz.prog 5 #[] w fun e w' => e = .returned (.bool true) ∧ Mem w [] w' [] := by
 have hM : Mem w [] w [glb 1,tabP] := Mem.startR w (fun g hg => by
  simp only [List.mem_cons,List.not_mem_nil,or_false] at hg
  rcases hg with rfl | rfl
  ·exact ⟨hG,rfl⟩
  ·exact ⟨hT,rfl⟩)
 refine vf 16 Tryz.func5 rfl rfl rfl ?_
 intro a hE
 replace hE : Env a 16 [] := hE
 refine ww1 fun _ K1=>wpp (sas hE rfl fun a hE=>qa (K1 (ww1 fun _ K2=>wpp (qn hE rfl Tryz.call9 (two25_c  _ (hM.get 0 rfl) (hM.get 1 rfl)) rfl ?_))))
 rintro e w1 ⟨rfl,hN⟩
 refine ⟨_,rfl,trivial,fun a hE=>?_⟩
 replace hM : Mem _ _ w1 [_,_] := hM.call0 hN trivial;clear hN
 refine sm hE rfl fun a hE=>sx hE rfl fun a hE=>sx hE rfl fun a hE=>qo [1,1,1,1,32,32,1,1,32,32,1,1,16,32,32,1,1,16,32,32,1,1,16,32,32,1,1,16,32,32] hE hM zeroL39 rfl rfl fun a b1 w2 hE hM=>?_
 have hsl24_4 : h2T.v0.2.2.1.length = 32 := h2T_ok.v0.2.1
 have hsl24_5 : h2T.v0.2.2.2.length = 32 := h2T_ok.v0.2.2
 have hsl24_8 : h2T.v1.2.2.1.length = 32 := h2T_ok.v1.2.1
 have hsl24_9 : h2T.v1.2.2.2.length = 32 := h2T_ok.v1.2.2
 have hsl24_12 : h2T.s0.2.2.1.length = 16 := h2T_ok.s0.2.1
 have hsl24_13 : h2T.s0.2.2.2.1.length = 32 := h2T_ok.s0.2.2.1
 have hsl24_14 : h2T.s0.2.2.2.2.length = 32 := h2T_ok.s0.2.2.2
 have hsl24_17 : h2T.s1.2.2.1.length = 16 := h2T_ok.s1.2.1
 have hsl24_18 : h2T.s1.2.2.2.1.length = 32 := h2T_ok.s1.2.2.1
 have hsl24_19 : h2T.s1.2.2.2.2.length = 32 := h2T_ok.s1.2.2.2
 have hsl24_22 : h2T.s2.2.2.1.length = 16 := h2T_ok.s2.2.1
 have hsl24_23 : h2T.s2.2.2.2.1.length = 32 := h2T_ok.s2.2.2.1
 have hsl24_24 : h2T.s2.2.2.2.2.length = 32 := h2T_ok.s2.2.2.2
 have hsl24_27 : h2T.s3.2.2.1.length = 16 := h2T_ok.s3.2.1
 have hsl24_28 : h2T.s3.2.2.2.1.length = 32 := h2T_ok.s3.2.2.1
 have hsl24_29 : h2T.s3.2.2.2.2.length = 32 := h2T_ok.s3.2.2.2
 refine qq 0 30 (vss := [[.int .i64 h2T.m],[.int .i64 h2T.r],[.bool h2T.v0.1],[.int .u64 ((h2T.v0.2.1 : Nat) : Int)],bv h2T.v0.2.2.1,bv h2T.v0.2.2.2,[.bool h2T.v1.1],[.int .u64 ((h2T.v1.2.1 : Nat) : Int)],bv h2T.v1.2.2.1,bv h2T.v1.2.2.2,[.bool h2T.s0.1],[.int .i64 h2T.s0.2.1],bv h2T.s0.2.2.1,bv h2T.s0.2.2.2.1,bv h2T.s0.2.2.2.2,[.bool h2T.s1.1],[.int .i64 h2T.s1.2.1],bv h2T.s1.2.2.1,bv h2T.s1.2.2.2.1,bv h2T.s1.2.2.2.2,[.bool h2T.s2.1],[.int .i64 h2T.s2.2.1],bv h2T.s2.2.2.1,bv h2T.s2.2.2.2.1,bv h2T.s2.2.2.2.2,[.bool h2T.s3.1],[.int .i64 h2T.s3.2.1],bv h2T.s3.2.2.1,bv h2T.s3.2.2.2.1,bv h2T.s3.2.2.2.2]) hE rfl rfl hM rfl sz39 (by simp only [List.take_succ_cons,List.take_zero,List.drop_zero,List.drop_succ_cons];simp only [List.map_cons,List.map_nil,vj,List.length_cons,List.length_nil,List.length_replicate,hsl24_4,hsl24_5,hsl24_8,hsl24_9,hsl24_12,hsl24_13,hsl24_14,hsl24_17,hsl24_18,hsl24_19,hsl24_22,hsl24_23,hsl24_24,hsl24_27,hsl24_28,hsl24_29]) (by decide) rfl (one_fl ⟨one1 rfl,one1 rfl,one1 rfl,one1 rfl,ve _,ve _,one1 rfl,one1 rfl,ve _,ve _,one1 rfl,one1 rfl,ve _,ve _,ve _,one1 rfl,one1 rfl,ve _,ve _,ve _,one1 rfl,one1 rfl,ve _,ve _,ve _,one1 rfl,one1 rfl,ve _,ve _,ve _,trivial⟩) rfl (by intro X h;cases h) fun w3 hM=>?_
 try simp only [List.take_zero,List.take_succ_cons,List.drop_zero,List.drop_succ_cons,List.take_nil,List.drop_nil,List.nil_append,List.append_nil,List.cons_append] at hM
 refine sas hE rfl fun a hE=>qa (K2 (ww1 fun _ K3=>wpp (sm hE rfl fun a hE=>sm hE rfl fun a hE=>?_)))
 replace hE := hE.cast 8 rfl (show _ = Value.bool true from (congrArg Value.bool (by first | (with_reducible rfl) | (with_reducible exact opens1T) | (with_reducible exact opens2T))))
 refine gy hE rfl (ql hE rfl (hM.get 0 rfl) row39 rfl (by intro X h;cases h) rfl fun a hE=>?_)
 replace hE := hE.cast 9 rfl (show _ = Value.agg ([[.int .i64 h2T.m],[.int .i64 h2T.r],[.bool h2T.v0.1],[.int .u64 ((h2T.v0.2.1 : Nat) : Int)],bv h2T.v0.2.2.1,bv h2T.v0.2.2.2,[.bool h2T.v1.1],[.int .u64 ((h2T.v1.2.1 : Nat) : Int)],bv h2T.v1.2.2.1,bv h2T.v1.2.2.2,[.bool h2T.s0.1],[.int .i64 h2T.s0.2.1],bv h2T.s0.2.2.1,bv h2T.s0.2.2.2.1,bv h2T.s0.2.2.2.2,[.bool h2T.s1.1],[.int .i64 h2T.s1.2.1],bv h2T.s1.2.2.1,bv h2T.s1.2.2.2.1,bv h2T.s1.2.2.2.2,[.bool h2T.s2.1],[.int .i64 h2T.s2.2.1],bv h2T.s2.2.2.1,bv h2T.s2.2.2.2.1,bv h2T.s2.2.2.2.2,[.bool h2T.s3.1],[.int .i64 h2T.s3.2.1],bv h2T.s3.2.2.1,bv h2T.s3.2.2.2.1,bv h2T.s3.2.2.2.2] : List (List Value)).flatten.toArray from (by first | rfl | simp only [List.flatten_cons,List.flatten_nil,List.append_nil,List.append_assoc]))
 refine gy hE rfl (qn hE rfl Tryz.call10 (opens25_c h2T [97,98] 0 _ (hM.get 1 rfl) (hM.get 2 rfl) h2T_ok) rfl ?_)
 rintro e w4 ⟨rfl,hN⟩
 refine ⟨_,rfl,trivial,fun a hE=>?_⟩
 replace hM : Mem _ _ w4 [_,_,_] := hM.call0 hN trivial;clear hN
 refine pkt hE rfl fun a hE=>sm hE rfl fun a hE=>?_
 replace hE := hE.cast 12 rfl (show _ = Value.bool true from (congrArg Value.bool (by first | (with_reducible rfl) | (with_reducible exact opens1T) | (with_reducible exact opens2T))))
 refine gy hE rfl (ql hE rfl (hM.get 0 rfl) row39 rfl (by intro X h;cases h) rfl fun a hE=>?_)
 replace hE := hE.cast 13 rfl (show _ = Value.agg ([[.int .i64 h2T.m],[.int .i64 h2T.r],[.bool h2T.v0.1],[.int .u64 ((h2T.v0.2.1 : Nat) : Int)],bv h2T.v0.2.2.1,bv h2T.v0.2.2.2,[.bool h2T.v1.1],[.int .u64 ((h2T.v1.2.1 : Nat) : Int)],bv h2T.v1.2.2.1,bv h2T.v1.2.2.2,[.bool h2T.s0.1],[.int .i64 h2T.s0.2.1],bv h2T.s0.2.2.1,bv h2T.s0.2.2.2.1,bv h2T.s0.2.2.2.2,[.bool h2T.s1.1],[.int .i64 h2T.s1.2.1],bv h2T.s1.2.2.1,bv h2T.s1.2.2.2.1,bv h2T.s1.2.2.2.2,[.bool h2T.s2.1],[.int .i64 h2T.s2.2.1],bv h2T.s2.2.2.1,bv h2T.s2.2.2.2.1,bv h2T.s2.2.2.2.2,[.bool h2T.s3.1],[.int .i64 h2T.s3.2.1],bv h2T.s3.2.2.1,bv h2T.s3.2.2.2.1,bv h2T.s3.2.2.2.2] : List (List Value)).flatten.toArray from (by first | rfl | simp only [List.flatten_cons,List.flatten_nil,List.append_nil,List.append_assoc]))
 refine gy hE rfl (qn hE rfl Tryz.call10 (opens25_c h2T [99,100] 1 _ (hM.get 1 rfl) (hM.get 2 rfl) h2T_ok) rfl ?_)
 rintro e w5 ⟨rfl,hN⟩
 refine ⟨_,rfl,trivial,fun a hE=>?_⟩
 replace hM : Mem _ _ w5 [_,_,_] := hM.call0 hN trivial;clear hN
 exact pkt hE rfl fun a hE=>sas hE rfl fun a hE=>qa (K3 (wp_ret (qi hE rfl rfl ⟨(by first | (with_reducible rfl) | rw [opens1T,opens2T] | rw [opens2T]),hM.pick [] rfl⟩)))
theorem large25_c (h : Hd) (p : List UInt8) (z : Int) (w : World) (hk_h : OkHd h) : Calls Tryz.prog 4 #[.agg ([[.int .i64 h.m],[.int .i64 h.r],[.bool h.v0.1],[.int .u64 ((h.v0.2.1 : Nat) : Int)],bv h.v0.2.2.1,bv h.v0.2.2.2,[.bool h.v1.1],[.int .u64 ((h.v1.2.1 : Nat) : Int)],bv h.v1.2.2.1,bv h.v1.2.2.2,[.bool h.s0.1],[.int .i64 h.s0.2.1],bv h.s0.2.2.1,bv h.s0.2.2.2.1,bv h.s0.2.2.2.2,[.bool h.s1.1],[.int .i64 h.s1.2.1],bv h.s1.2.2.1,bv h.s1.2.2.2.1,bv h.s1.2.2.2.2,[.bool h.s2.1],[.int .i64 h.s2.2.1],bv h.s2.2.2.1,bv h.s2.2.2.2.1,bv h.s2.2.2.2.2,[.bool h.s3.1],[.int .i64 h.s3.2.1],bv h.s3.2.2.1,bv h.s3.2.2.2.1,bv h.s3.2.2.2.2] : List (List Value)).flatten.toArray,.string (str p),.int .i64 z] w fun e w' => e = .returned (.bool (largeB h p z)) ∧ Mem w [] w' [] := by
 have hi0 := hk_h.s0.1
 have hi1 := hk_h.s1.1
 have hi2 := hk_h.s2.1
 have hi3 := hk_h.s3.1
 have hM := Mem.start0 w
 refine vf 41 Tryz.func4 rfl rfl rfl ?_
 intro a hE
 replace hE : Env a 41 [(0,_),(1,_),(2,_)] := hE
 refine ww1 fun _ K1=>wpp ?_
 have hbl3_4 : h.v0.2.2.1.length = 32 := hk_h.v0.2.1
 have hbl3_5 : h.v0.2.2.2.length = 32 := hk_h.v0.2.2
 have hbl3_8 : h.v1.2.2.1.length = 32 := hk_h.v1.2.1
 have hbl3_9 : h.v1.2.2.2.length = 32 := hk_h.v1.2.2
 have hbl3_12 : h.s0.2.2.1.length = 16 := hk_h.s0.2.1
 have hbl3_13 : h.s0.2.2.2.1.length = 32 := hk_h.s0.2.2.1
 have hbl3_14 : h.s0.2.2.2.2.length = 32 := hk_h.s0.2.2.2
 have hbl3_17 : h.s1.2.2.1.length = 16 := hk_h.s1.2.1
 have hbl3_18 : h.s1.2.2.2.1.length = 32 := hk_h.s1.2.2.1
 have hbl3_19 : h.s1.2.2.2.2.length = 32 := hk_h.s1.2.2.2
 have hbl3_22 : h.s2.2.2.1.length = 16 := hk_h.s2.2.1
 have hbl3_23 : h.s2.2.2.2.1.length = 32 := hk_h.s2.2.2.1
 have hbl3_24 : h.s2.2.2.2.2.length = 32 := hk_h.s2.2.2.2
 have hbl3_27 : h.s3.2.2.1.length = 16 := hk_h.s3.2.1
 have hbl3_28 : h.s3.2.2.2.1.length = 32 := hk_h.s3.2.2.1
 have hbl3_29 : h.s3.2.2.2.2.length = 32 := hk_h.s3.2.2.2
 refine s_box (ss := [[.int .i64 h.m],[.int .i64 h.r],[.bool h.v0.1],[.int .u64 ((h.v0.2.1 : Nat) : Int)],bv h.v0.2.2.1,bv h.v0.2.2.2,[.bool h.v1.1],[.int .u64 ((h.v1.2.1 : Nat) : Int)],bv h.v1.2.2.1,bv h.v1.2.2.2,[.bool h.s0.1],[.int .i64 h.s0.2.1],bv h.s0.2.2.1,bv h.s0.2.2.2.1,bv h.s0.2.2.2.2,[.bool h.s1.1],[.int .i64 h.s1.2.1],bv h.s1.2.2.1,bv h.s1.2.2.2.1,bv h.s1.2.2.2.2,[.bool h.s2.1],[.int .i64 h.s2.2.1],bv h.s2.2.2.1,bv h.s2.2.2.2.1,bv h.s2.2.2.2.2,[.bool h.s3.1],[.int .i64 h.s3.2.1],bv h.s3.2.2.1,bv h.s3.2.2.2.1,bv h.s3.2.2.2.2]) [1,1,1,1,32,32,1,1,32,32,1,1,16,32,32,1,1,16,32,32,1,1,16,32,32,1,1,16,32,32] hE hM rfl rfl (by simp only [List.map_cons,List.map_nil,vj,List.length_cons,List.length_nil,List.length_replicate,hbl3_4,hbl3_5,hbl3_8,hbl3_9,hbl3_12,hbl3_13,hbl3_14,hbl3_17,hbl3_18,hbl3_19,hbl3_22,hbl3_23,hbl3_24,hbl3_27,hbl3_28,hbl3_29]) rfl fun a b3 w1 hE hM=>?_
 refine sas hE rfl fun a hE=>qa (K1 (ww1 fun _ K2=>ww1 fun _ K3=>wpp (sas hE rfl fun a hE=>qa (K3 (wp_block ?_)))))
 refine wp_loop_rounds 5 ?_
 refine c_roundsJ (fun a w' => largeS h h.s0 = false ∧ Env a 41 [(1,.string (str p)),(2,.int .i64 z),(3,.pointer (some ⟨b3,0,none⟩)),(6,.bool false),(7,.int .i64 1)] ∧ Mem w [] w' [blk b3 [[.int .i64 h.m],[.int .i64 h.r],[.bool h.v0.1],[.int .u64 ((h.v0.2.1 : Nat) : Int)],bv h.v0.2.2.1,bv h.v0.2.2.2,[.bool h.v1.1],[.int .u64 ((h.v1.2.1 : Nat) : Int)],bv h.v1.2.2.1,bv h.v1.2.2.2,[.bool h.s0.1],[.int .i64 h.s0.2.1],bv h.s0.2.2.1,bv h.s0.2.2.2.1,bv h.s0.2.2.2.2,[.bool h.s1.1],[.int .i64 h.s1.2.1],bv h.s1.2.2.1,bv h.s1.2.2.2.1,bv h.s1.2.2.2.2,[.bool h.s2.1],[.int .i64 h.s2.2.1],bv h.s2.2.2.1,bv h.s2.2.2.2.1,bv h.s2.2.2.2.2,[.bool h.s3.1],[.int .i64 h.s3.2.1],bv h.s3.2.2.1,bv h.s3.2.2.2.1,bv h.s3.2.2.2.2] [1,1,1,1,32,32,1,1,32,32,1,1,16,32,32,1,1,16,32,32,1,1,16,32,32,1,1,16,32,32] 39]) ?_ ?_
 ·skip
  refine ww1 fun _ K4=>ww1 fun _ K5=>wpp (sm hE rfl fun a hE=>sb hE rfl rfl bin_lss fun a hE=>?_)
  replace hE := hE.cast 9 rfl (show _ = Value.bool true from (congrArg Value.bool (by decide)))
  refine qa (K5 (wct hE rfl (wp_skip (K4 (ww1 fun _ K6=>wp_block (ww1 fun _ K7=>wpp (sm hE rfl fun a hE=>?_)))))))
  refine sf hE rfl fo39_2 fun a hE=>qp (j := 0) hE rfl rfl arr37 rfl (by decide) rfl fun a hE=>?_
  refine sf hE rfl fo36_0 fun a hE=>qm hE rfl (hM.get 0 rfl) rfl one4 (by intro X h;cases h) rfl fun a hE=>?_
  refine sm hE rfl fun a hE=>?_
  refine hE.split 17 rfl (fun hb17 hE=>?_) (fun hb17 hE=>?_)
  ·refine gy hE rfl (sm hE rfl fun a hE=>gy hE rfl (sf hE rfl fo39_2 fun a hE=>gy hE rfl (qp (j := 0) hE rfl rfl arr37 rfl (by decide) rfl fun a hE=>?_)))
   refine gy hE rfl (sf hE rfl fo36_1 fun a hE=>gy hE rfl (qm hE rfl (hM.get 0 rfl) rfl one3 (by intro X h;cases h) rfl fun a hE=>?_))
   refine gy hE rfl (sb hE rfl rfl bin_gtr fun a hE=>pkt hE rfl fun a hE=>sm hE rfl fun a hE=>?_)
   refine hE.split 25 rfl (fun hb25 hE=>?_) (fun hb25 hE=>?_)
   ·replace hb25 := of_decide_eq_true hb25
    refine gy hE rfl (ql hE rfl (hM.get 0 rfl) row39 rfl (by intro X h;cases h) rfl fun a hE=>?_)
    replace hE := hE.cast 26 rfl (show _ = Value.agg ([[.int .i64 h.m],[.int .i64 h.r],[.bool h.v0.1],[.int .u64 ((h.v0.2.1 : Nat) : Int)],bv h.v0.2.2.1,bv h.v0.2.2.2,[.bool h.v1.1],[.int .u64 ((h.v1.2.1 : Nat) : Int)],bv h.v1.2.2.1,bv h.v1.2.2.2,[.bool h.s0.1],[.int .i64 h.s0.2.1],bv h.s0.2.2.1,bv h.s0.2.2.2.1,bv h.s0.2.2.2.2,[.bool h.s1.1],[.int .i64 h.s1.2.1],bv h.s1.2.2.1,bv h.s1.2.2.2.1,bv h.s1.2.2.2.2,[.bool h.s2.1],[.int .i64 h.s2.2.1],bv h.s2.2.2.1,bv h.s2.2.2.2.1,bv h.s2.2.2.2.2,[.bool h.s3.1],[.int .i64 h.s3.2.1],bv h.s3.2.2.1,bv h.s3.2.2.2.1,bv h.s3.2.2.2.2] : List (List Value)).flatten.toArray from (by first | rfl | simp only [List.flatten_cons,List.flatten_nil,List.append_nil,List.append_assoc]))
    refine gy hE rfl (qn hE rfl Tryz.call8 (rcheck_c h _ hk_h ) rfl ?_)
    rintro e w2 ⟨rfl,hN⟩
    refine ⟨_,rfl,trivial,fun a hE=>?_⟩
    replace hM : Mem _ _ w2 [_] := hM.call0 hN trivial;clear hN
    refine gy hE rfl (sb hE rfl rfl bin_eql fun a hE=>pkt hE rfl fun a hE=>qa (K7 ?_))
    refine hE.split 29 rfl (fun hb29 hE=>?_) (fun hb29 hE=>?_)
    ·replace hb29 := of_decide_eq_true hb29
     replace hb29 : (checkH h) = 0 := by omega
     refine wct hE rfl (ww1 fun _ K8=>wpp (sas hE rfl fun a hE=>qa (K8 (wp_ret (qf (qb (qb ?_)))))))
     exact qf (qb (qi hE rfl rfl ⟨(by first | (simp [largeB,hb17,hb25,hb29];done) | (simp [largeB,largeS,hb17,hb25,hb29];done) | (simp [largeB,largeS,hb17,hb25,hb29];omega)),hM.pick [] rfl⟩))
    ·replace hb29 := of_decide_eq_false hb29
     replace hb29 : ¬ ((checkH h) = 0) := by omega
     refine wcf hE rfl (wp_skip (qe (K6 (wpp (sm hE rfl fun a hE=>sb hE rfl rfl (show Bin _ _ _ _ _ (.int .i64 1) from bin_add (by rw [wrap_i64 (by omega) (by omega)];omega)) fun a hE=>?_)))))
     refine sas hE rfl fun a hE=>qa ?_
     replace hM : Mem _ _ w2 [_] := hM.pick [0] rfl
     refine qd ⟨(by first | (simp [largeS,hb17,hb25,hb29];done) | (simp [largeS,hb17,hb25,hb29];omega)),hE.sel [1,2,3,6,7] rfl,hM⟩
   ·replace hb25 := of_decide_eq_false hb25
    refine gf hE rfl fun a hE=>gf hE rfl fun a hE=>gf hE rfl fun a hE=>pkf hE rfl fun a hE=>qa (K7 (wcf hE rfl (wp_skip (qe (K6 ?_)))))
    refine wpp (sm hE rfl fun a hE=>sb hE rfl rfl (show Bin _ _ _ _ _ (.int .i64 1) from bin_add (by rw [wrap_i64 (by omega) (by omega)];omega)) fun a hE=>?_)
    refine sas hE rfl fun a hE=>qa ?_
    replace hM : Mem _ _ w1 [_] := hM.pick [0] rfl
    refine qd ⟨(by first | (simp [largeS,hb17,hb25];done) | (simp [largeS,hb17,hb25];omega)),hE.sel [1,2,3,6,7] rfl,hM⟩
  ·refine gf hE rfl fun a hE=>gf hE rfl fun a hE=>gf hE rfl fun a hE=>gf hE rfl fun a hE=>gf hE rfl fun a hE=>gf hE rfl fun a hE=>pkf hE rfl fun a hE=>sm hE rfl fun a hE=>gf hE rfl fun a hE=>gf hE rfl fun a hE=>?_
   refine gf hE rfl fun a hE=>pkf hE rfl fun a hE=>qa (K7 (wcf hE rfl (wp_skip (qe (K6 (wpp (sm hE rfl fun a hE=>?_)))))))
   refine sb hE rfl rfl (show Bin _ _ _ _ _ (.int .i64 1) from bin_add (by rw [wrap_i64 (by omega) (by omega)];omega)) fun a hE=>?_
   refine sas hE rfl fun a hE=>qa ?_
   replace hM : Mem _ _ w1 [_] := hM.pick [0] rfl
   refine qd ⟨(by first | (simp [largeS,hb17];done) | (simp [largeS,hb17];omega)),hE.sel [1,2,3,6,7] rfl,hM⟩
 rintro a w2 ⟨hJ2_0,hE,hM⟩
 refine c_roundsJ (fun a w' => largeS h h.s1 = false ∧ Env a 41 [(1,.string (str p)),(2,.int .i64 z),(3,.pointer (some ⟨b3,0,none⟩)),(6,.bool false),(7,.int .i64 2)] ∧ Mem w [] w' [blk b3 [[.int .i64 h.m],[.int .i64 h.r],[.bool h.v0.1],[.int .u64 ((h.v0.2.1 : Nat) : Int)],bv h.v0.2.2.1,bv h.v0.2.2.2,[.bool h.v1.1],[.int .u64 ((h.v1.2.1 : Nat) : Int)],bv h.v1.2.2.1,bv h.v1.2.2.2,[.bool h.s0.1],[.int .i64 h.s0.2.1],bv h.s0.2.2.1,bv h.s0.2.2.2.1,bv h.s0.2.2.2.2,[.bool h.s1.1],[.int .i64 h.s1.2.1],bv h.s1.2.2.1,bv h.s1.2.2.2.1,bv h.s1.2.2.2.2,[.bool h.s2.1],[.int .i64 h.s2.2.1],bv h.s2.2.2.1,bv h.s2.2.2.2.1,bv h.s2.2.2.2.2,[.bool h.s3.1],[.int .i64 h.s3.2.1],bv h.s3.2.2.1,bv h.s3.2.2.2.1,bv h.s3.2.2.2.2] [1,1,1,1,32,32,1,1,32,32,1,1,16,32,32,1,1,16,32,32,1,1,16,32,32,1,1,16,32,32] 39]) ?_ ?_
 ·skip
  refine ww1 fun _ K4=>ww1 fun _ K5=>wpp (sm hE rfl fun a hE=>sb hE rfl rfl bin_lss fun a hE=>?_)
  replace hE := hE.cast 9 rfl (show _ = Value.bool true from (congrArg Value.bool (by decide)))
  refine qa (K5 (wct hE rfl (wp_skip (K4 (ww1 fun _ K6=>wp_block (ww1 fun _ K7=>wpp (sm hE rfl fun a hE=>?_)))))))
  refine sf hE rfl fo39_2 fun a hE=>qp (j := 1) hE rfl rfl arr37 rfl (by decide) rfl fun a hE=>?_
  refine sf hE rfl fo36_0 fun a hE=>qm hE rfl (hM.get 0 rfl) rfl one4 (by intro X h;cases h) rfl fun a hE=>?_
  refine sm hE rfl fun a hE=>?_
  refine hE.split 17 rfl (fun hb17 hE=>?_) (fun hb17 hE=>?_)
  ·refine gy hE rfl (sm hE rfl fun a hE=>gy hE rfl (sf hE rfl fo39_2 fun a hE=>gy hE rfl (qp (j := 1) hE rfl rfl arr37 rfl (by decide) rfl fun a hE=>?_)))
   refine gy hE rfl (sf hE rfl fo36_1 fun a hE=>gy hE rfl (qm hE rfl (hM.get 0 rfl) rfl one3 (by intro X h;cases h) rfl fun a hE=>?_))
   refine gy hE rfl (sb hE rfl rfl bin_gtr fun a hE=>pkt hE rfl fun a hE=>sm hE rfl fun a hE=>?_)
   refine hE.split 25 rfl (fun hb25 hE=>?_) (fun hb25 hE=>?_)
   ·replace hb25 := of_decide_eq_true hb25
    refine gy hE rfl (ql hE rfl (hM.get 0 rfl) row39 rfl (by intro X h;cases h) rfl fun a hE=>?_)
    replace hE := hE.cast 26 rfl (show _ = Value.agg ([[.int .i64 h.m],[.int .i64 h.r],[.bool h.v0.1],[.int .u64 ((h.v0.2.1 : Nat) : Int)],bv h.v0.2.2.1,bv h.v0.2.2.2,[.bool h.v1.1],[.int .u64 ((h.v1.2.1 : Nat) : Int)],bv h.v1.2.2.1,bv h.v1.2.2.2,[.bool h.s0.1],[.int .i64 h.s0.2.1],bv h.s0.2.2.1,bv h.s0.2.2.2.1,bv h.s0.2.2.2.2,[.bool h.s1.1],[.int .i64 h.s1.2.1],bv h.s1.2.2.1,bv h.s1.2.2.2.1,bv h.s1.2.2.2.2,[.bool h.s2.1],[.int .i64 h.s2.2.1],bv h.s2.2.2.1,bv h.s2.2.2.2.1,bv h.s2.2.2.2.2,[.bool h.s3.1],[.int .i64 h.s3.2.1],bv h.s3.2.2.1,bv h.s3.2.2.2.1,bv h.s3.2.2.2.2] : List (List Value)).flatten.toArray from (by first | rfl | simp only [List.flatten_cons,List.flatten_nil,List.append_nil,List.append_assoc]))
    refine gy hE rfl (qn hE rfl Tryz.call8 (rcheck_c h _ hk_h ) rfl ?_)
    rintro e w3 ⟨rfl,hN⟩
    refine ⟨_,rfl,trivial,fun a hE=>?_⟩
    replace hM : Mem _ _ w3 [_] := hM.call0 hN trivial;clear hN
    refine gy hE rfl (sb hE rfl rfl bin_eql fun a hE=>pkt hE rfl fun a hE=>qa (K7 ?_))
    refine hE.split 29 rfl (fun hb29 hE=>?_) (fun hb29 hE=>?_)
    ·replace hb29 := of_decide_eq_true hb29
     replace hb29 : (checkH h) = 0 := by omega
     refine wct hE rfl (ww1 fun _ K8=>wpp (sas hE rfl fun a hE=>qa (K8 (wp_ret (qf (qb (qb ?_)))))))
     exact qf (qb (qi hE rfl rfl ⟨(by first | (simp [largeB,hJ2_0,hJ2_0,hb17,hb25,hb29];done) | (simp [largeB,largeS,hJ2_0,hJ2_0,hb17,hb25,hb29];done) | (simp [largeB,largeS,hJ2_0,hJ2_0,hb17,hb25,hb29];omega)),hM.pick [] rfl⟩))
    ·replace hb29 := of_decide_eq_false hb29
     replace hb29 : ¬ ((checkH h) = 0) := by omega
     refine wcf hE rfl (wp_skip (qe (K6 (wpp (sm hE rfl fun a hE=>sb hE rfl rfl (show Bin _ _ _ _ _ (.int .i64 2) from bin_add (by rw [wrap_i64 (by omega) (by omega)];omega)) fun a hE=>?_)))))
     refine sas hE rfl fun a hE=>qa ?_
     replace hM : Mem _ _ w3 [_] := hM.pick [0] rfl
     refine qd ⟨(by first | (simp [largeS,hJ2_0,hb17,hb25,hb29];done) | (simp [largeS,hJ2_0,hb17,hb25,hb29];omega)),hE.sel [1,2,3,6,7] rfl,hM⟩
   ·replace hb25 := of_decide_eq_false hb25
    refine gf hE rfl fun a hE=>gf hE rfl fun a hE=>gf hE rfl fun a hE=>pkf hE rfl fun a hE=>qa (K7 (wcf hE rfl (wp_skip (qe (K6 ?_)))))
    refine wpp (sm hE rfl fun a hE=>sb hE rfl rfl (show Bin _ _ _ _ _ (.int .i64 2) from bin_add (by rw [wrap_i64 (by omega) (by omega)];omega)) fun a hE=>?_)
    refine sas hE rfl fun a hE=>qa ?_
    replace hM : Mem _ _ w2 [_] := hM.pick [0] rfl
    refine qd ⟨(by first | (simp [largeS,hJ2_0,hb17,hb25];done) | (simp [largeS,hJ2_0,hb17,hb25];omega)),hE.sel [1,2,3,6,7] rfl,hM⟩
  ·refine gf hE rfl fun a hE=>gf hE rfl fun a hE=>gf hE rfl fun a hE=>gf hE rfl fun a hE=>gf hE rfl fun a hE=>gf hE rfl fun a hE=>pkf hE rfl fun a hE=>sm hE rfl fun a hE=>gf hE rfl fun a hE=>gf hE rfl fun a hE=>?_
   refine gf hE rfl fun a hE=>pkf hE rfl fun a hE=>qa (K7 (wcf hE rfl (wp_skip (qe (K6 (wpp (sm hE rfl fun a hE=>?_)))))))
   refine sb hE rfl rfl (show Bin _ _ _ _ _ (.int .i64 2) from bin_add (by rw [wrap_i64 (by omega) (by omega)];omega)) fun a hE=>?_
   refine sas hE rfl fun a hE=>qa ?_
   replace hM : Mem _ _ w2 [_] := hM.pick [0] rfl
   refine qd ⟨(by first | (simp [largeS,hJ2_0,hb17];done) | (simp [largeS,hJ2_0,hb17];omega)),hE.sel [1,2,3,6,7] rfl,hM⟩
 rintro a w3 ⟨hJ2_1,hE,hM⟩
 refine c_roundsJ (fun a w' => largeS h h.s2 = false ∧ Env a 41 [(1,.string (str p)),(2,.int .i64 z),(3,.pointer (some ⟨b3,0,none⟩)),(6,.bool false),(7,.int .i64 3)] ∧ Mem w [] w' [blk b3 [[.int .i64 h.m],[.int .i64 h.r],[.bool h.v0.1],[.int .u64 ((h.v0.2.1 : Nat) : Int)],bv h.v0.2.2.1,bv h.v0.2.2.2,[.bool h.v1.1],[.int .u64 ((h.v1.2.1 : Nat) : Int)],bv h.v1.2.2.1,bv h.v1.2.2.2,[.bool h.s0.1],[.int .i64 h.s0.2.1],bv h.s0.2.2.1,bv h.s0.2.2.2.1,bv h.s0.2.2.2.2,[.bool h.s1.1],[.int .i64 h.s1.2.1],bv h.s1.2.2.1,bv h.s1.2.2.2.1,bv h.s1.2.2.2.2,[.bool h.s2.1],[.int .i64 h.s2.2.1],bv h.s2.2.2.1,bv h.s2.2.2.2.1,bv h.s2.2.2.2.2,[.bool h.s3.1],[.int .i64 h.s3.2.1],bv h.s3.2.2.1,bv h.s3.2.2.2.1,bv h.s3.2.2.2.2] [1,1,1,1,32,32,1,1,32,32,1,1,16,32,32,1,1,16,32,32,1,1,16,32,32,1,1,16,32,32] 39]) ?_ ?_
 ·skip
  refine ww1 fun _ K4=>ww1 fun _ K5=>wpp (sm hE rfl fun a hE=>sb hE rfl rfl bin_lss fun a hE=>?_)
  replace hE := hE.cast 9 rfl (show _ = Value.bool true from (congrArg Value.bool (by decide)))
  refine qa (K5 (wct hE rfl (wp_skip (K4 (ww1 fun _ K6=>wp_block (ww1 fun _ K7=>wpp (sm hE rfl fun a hE=>?_)))))))
  refine sf hE rfl fo39_2 fun a hE=>qp (j := 2) hE rfl rfl arr37 rfl (by decide) rfl fun a hE=>?_
  refine sf hE rfl fo36_0 fun a hE=>qm hE rfl (hM.get 0 rfl) rfl one4 (by intro X h;cases h) rfl fun a hE=>?_
  refine sm hE rfl fun a hE=>?_
  refine hE.split 17 rfl (fun hb17 hE=>?_) (fun hb17 hE=>?_)
  ·refine gy hE rfl (sm hE rfl fun a hE=>gy hE rfl (sf hE rfl fo39_2 fun a hE=>gy hE rfl (qp (j := 2) hE rfl rfl arr37 rfl (by decide) rfl fun a hE=>?_)))
   refine gy hE rfl (sf hE rfl fo36_1 fun a hE=>gy hE rfl (qm hE rfl (hM.get 0 rfl) rfl one3 (by intro X h;cases h) rfl fun a hE=>?_))
   refine gy hE rfl (sb hE rfl rfl bin_gtr fun a hE=>pkt hE rfl fun a hE=>sm hE rfl fun a hE=>?_)
   refine hE.split 25 rfl (fun hb25 hE=>?_) (fun hb25 hE=>?_)
   ·replace hb25 := of_decide_eq_true hb25
    refine gy hE rfl (ql hE rfl (hM.get 0 rfl) row39 rfl (by intro X h;cases h) rfl fun a hE=>?_)
    replace hE := hE.cast 26 rfl (show _ = Value.agg ([[.int .i64 h.m],[.int .i64 h.r],[.bool h.v0.1],[.int .u64 ((h.v0.2.1 : Nat) : Int)],bv h.v0.2.2.1,bv h.v0.2.2.2,[.bool h.v1.1],[.int .u64 ((h.v1.2.1 : Nat) : Int)],bv h.v1.2.2.1,bv h.v1.2.2.2,[.bool h.s0.1],[.int .i64 h.s0.2.1],bv h.s0.2.2.1,bv h.s0.2.2.2.1,bv h.s0.2.2.2.2,[.bool h.s1.1],[.int .i64 h.s1.2.1],bv h.s1.2.2.1,bv h.s1.2.2.2.1,bv h.s1.2.2.2.2,[.bool h.s2.1],[.int .i64 h.s2.2.1],bv h.s2.2.2.1,bv h.s2.2.2.2.1,bv h.s2.2.2.2.2,[.bool h.s3.1],[.int .i64 h.s3.2.1],bv h.s3.2.2.1,bv h.s3.2.2.2.1,bv h.s3.2.2.2.2] : List (List Value)).flatten.toArray from (by first | rfl | simp only [List.flatten_cons,List.flatten_nil,List.append_nil,List.append_assoc]))
    refine gy hE rfl (qn hE rfl Tryz.call8 (rcheck_c h _ hk_h ) rfl ?_)
    rintro e w4 ⟨rfl,hN⟩
    refine ⟨_,rfl,trivial,fun a hE=>?_⟩
    replace hM : Mem _ _ w4 [_] := hM.call0 hN trivial;clear hN
    refine gy hE rfl (sb hE rfl rfl bin_eql fun a hE=>pkt hE rfl fun a hE=>qa (K7 ?_))
    refine hE.split 29 rfl (fun hb29 hE=>?_) (fun hb29 hE=>?_)
    ·replace hb29 := of_decide_eq_true hb29
     replace hb29 : (checkH h) = 0 := by omega
     refine wct hE rfl (ww1 fun _ K8=>wpp (sas hE rfl fun a hE=>qa (K8 (wp_ret (qf (qb (qb ?_)))))))
     exact qf (qb (qi hE rfl rfl ⟨(by first | (simp [largeB,hJ2_0,hJ2_1,hJ2_0,hJ2_1,hb17,hb25,hb29];done) | (simp [largeB,largeS,hJ2_0,hJ2_1,hJ2_0,hJ2_1,hb17,hb25,hb29];done) | (simp [largeB,largeS,hJ2_0,hJ2_1,hJ2_0,hJ2_1,hb17,hb25,hb29];omega)),hM.pick [] rfl⟩))
    ·replace hb29 := of_decide_eq_false hb29
     replace hb29 : ¬ ((checkH h) = 0) := by omega
     refine wcf hE rfl (wp_skip (qe (K6 (wpp (sm hE rfl fun a hE=>sb hE rfl rfl (show Bin _ _ _ _ _ (.int .i64 3) from bin_add (by rw [wrap_i64 (by omega) (by omega)];omega)) fun a hE=>?_)))))
     refine sas hE rfl fun a hE=>qa ?_
     replace hM : Mem _ _ w4 [_] := hM.pick [0] rfl
     refine qd ⟨(by first | (simp [largeS,hJ2_0,hJ2_1,hb17,hb25,hb29];done) | (simp [largeS,hJ2_0,hJ2_1,hb17,hb25,hb29];omega)),hE.sel [1,2,3,6,7] rfl,hM⟩
   ·replace hb25 := of_decide_eq_false hb25
    refine gf hE rfl fun a hE=>gf hE rfl fun a hE=>gf hE rfl fun a hE=>pkf hE rfl fun a hE=>qa (K7 (wcf hE rfl (wp_skip (qe (K6 ?_)))))
    refine wpp (sm hE rfl fun a hE=>sb hE rfl rfl (show Bin _ _ _ _ _ (.int .i64 3) from bin_add (by rw [wrap_i64 (by omega) (by omega)];omega)) fun a hE=>?_)
    refine sas hE rfl fun a hE=>qa ?_
    replace hM : Mem _ _ w3 [_] := hM.pick [0] rfl
    refine qd ⟨(by first | (simp [largeS,hJ2_0,hJ2_1,hb17,hb25];done) | (simp [largeS,hJ2_0,hJ2_1,hb17,hb25];omega)),hE.sel [1,2,3,6,7] rfl,hM⟩
  ·refine gf hE rfl fun a hE=>gf hE rfl fun a hE=>gf hE rfl fun a hE=>gf hE rfl fun a hE=>gf hE rfl fun a hE=>gf hE rfl fun a hE=>pkf hE rfl fun a hE=>sm hE rfl fun a hE=>gf hE rfl fun a hE=>gf hE rfl fun a hE=>?_
   refine gf hE rfl fun a hE=>pkf hE rfl fun a hE=>qa (K7 (wcf hE rfl (wp_skip (qe (K6 (wpp (sm hE rfl fun a hE=>?_)))))))
   refine sb hE rfl rfl (show Bin _ _ _ _ _ (.int .i64 3) from bin_add (by rw [wrap_i64 (by omega) (by omega)];omega)) fun a hE=>?_
   refine sas hE rfl fun a hE=>qa ?_
   replace hM : Mem _ _ w3 [_] := hM.pick [0] rfl
   refine qd ⟨(by first | (simp [largeS,hJ2_0,hJ2_1,hb17];done) | (simp [largeS,hJ2_0,hJ2_1,hb17];omega)),hE.sel [1,2,3,6,7] rfl,hM⟩
 rintro a w4 ⟨hJ2_2,hE,hM⟩
 refine c_roundsJ (fun a w' => largeS h h.s3 = false ∧ Env a 41 [(1,.string (str p)),(2,.int .i64 z),(3,.pointer (some ⟨b3,0,none⟩)),(6,.bool false),(7,.int .i64 4)] ∧ Mem w [] w' [blk b3 [[.int .i64 h.m],[.int .i64 h.r],[.bool h.v0.1],[.int .u64 ((h.v0.2.1 : Nat) : Int)],bv h.v0.2.2.1,bv h.v0.2.2.2,[.bool h.v1.1],[.int .u64 ((h.v1.2.1 : Nat) : Int)],bv h.v1.2.2.1,bv h.v1.2.2.2,[.bool h.s0.1],[.int .i64 h.s0.2.1],bv h.s0.2.2.1,bv h.s0.2.2.2.1,bv h.s0.2.2.2.2,[.bool h.s1.1],[.int .i64 h.s1.2.1],bv h.s1.2.2.1,bv h.s1.2.2.2.1,bv h.s1.2.2.2.2,[.bool h.s2.1],[.int .i64 h.s2.2.1],bv h.s2.2.2.1,bv h.s2.2.2.2.1,bv h.s2.2.2.2.2,[.bool h.s3.1],[.int .i64 h.s3.2.1],bv h.s3.2.2.1,bv h.s3.2.2.2.1,bv h.s3.2.2.2.2] [1,1,1,1,32,32,1,1,32,32,1,1,16,32,32,1,1,16,32,32,1,1,16,32,32,1,1,16,32,32] 39]) ?_ ?_
 ·skip
  refine ww1 fun _ K4=>ww1 fun _ K5=>wpp (sm hE rfl fun a hE=>sb hE rfl rfl bin_lss fun a hE=>?_)
  replace hE := hE.cast 9 rfl (show _ = Value.bool true from (congrArg Value.bool (by decide)))
  refine qa (K5 (wct hE rfl (wp_skip (K4 (ww1 fun _ K6=>wp_block (ww1 fun _ K7=>wpp (sm hE rfl fun a hE=>?_)))))))
  refine sf hE rfl fo39_2 fun a hE=>qp (j := 3) hE rfl rfl arr37 rfl (by decide) rfl fun a hE=>?_
  refine sf hE rfl fo36_0 fun a hE=>qm hE rfl (hM.get 0 rfl) rfl one4 (by intro X h;cases h) rfl fun a hE=>?_
  refine sm hE rfl fun a hE=>?_
  refine hE.split 17 rfl (fun hb17 hE=>?_) (fun hb17 hE=>?_)
  ·refine gy hE rfl (sm hE rfl fun a hE=>gy hE rfl (sf hE rfl fo39_2 fun a hE=>gy hE rfl (qp (j := 3) hE rfl rfl arr37 rfl (by decide) rfl fun a hE=>?_)))
   refine gy hE rfl (sf hE rfl fo36_1 fun a hE=>gy hE rfl (qm hE rfl (hM.get 0 rfl) rfl one3 (by intro X h;cases h) rfl fun a hE=>?_))
   refine gy hE rfl (sb hE rfl rfl bin_gtr fun a hE=>pkt hE rfl fun a hE=>sm hE rfl fun a hE=>?_)
   refine hE.split 25 rfl (fun hb25 hE=>?_) (fun hb25 hE=>?_)
   ·replace hb25 := of_decide_eq_true hb25
    refine gy hE rfl (ql hE rfl (hM.get 0 rfl) row39 rfl (by intro X h;cases h) rfl fun a hE=>?_)
    replace hE := hE.cast 26 rfl (show _ = Value.agg ([[.int .i64 h.m],[.int .i64 h.r],[.bool h.v0.1],[.int .u64 ((h.v0.2.1 : Nat) : Int)],bv h.v0.2.2.1,bv h.v0.2.2.2,[.bool h.v1.1],[.int .u64 ((h.v1.2.1 : Nat) : Int)],bv h.v1.2.2.1,bv h.v1.2.2.2,[.bool h.s0.1],[.int .i64 h.s0.2.1],bv h.s0.2.2.1,bv h.s0.2.2.2.1,bv h.s0.2.2.2.2,[.bool h.s1.1],[.int .i64 h.s1.2.1],bv h.s1.2.2.1,bv h.s1.2.2.2.1,bv h.s1.2.2.2.2,[.bool h.s2.1],[.int .i64 h.s2.2.1],bv h.s2.2.2.1,bv h.s2.2.2.2.1,bv h.s2.2.2.2.2,[.bool h.s3.1],[.int .i64 h.s3.2.1],bv h.s3.2.2.1,bv h.s3.2.2.2.1,bv h.s3.2.2.2.2] : List (List Value)).flatten.toArray from (by first | rfl | simp only [List.flatten_cons,List.flatten_nil,List.append_nil,List.append_assoc]))
    refine gy hE rfl (qn hE rfl Tryz.call8 (rcheck_c h _ hk_h ) rfl ?_)
    rintro e w5 ⟨rfl,hN⟩
    refine ⟨_,rfl,trivial,fun a hE=>?_⟩
    replace hM : Mem _ _ w5 [_] := hM.call0 hN trivial;clear hN
    refine gy hE rfl (sb hE rfl rfl bin_eql fun a hE=>pkt hE rfl fun a hE=>qa (K7 ?_))
    refine hE.split 29 rfl (fun hb29 hE=>?_) (fun hb29 hE=>?_)
    ·replace hb29 := of_decide_eq_true hb29
     replace hb29 : (checkH h) = 0 := by omega
     refine wct hE rfl (ww1 fun _ K8=>wpp (sas hE rfl fun a hE=>qa (K8 (wp_ret (qf (qb (qb ?_)))))))
     exact qf (qb (qi hE rfl rfl ⟨(by first | (simp [largeB,hJ2_0,hJ2_1,hJ2_2,hJ2_0,hJ2_1,hJ2_2,hb17,hb25,hb29];done) | (simp [largeB,largeS,hJ2_0,hJ2_1,hJ2_2,hJ2_0,hJ2_1,hJ2_2,hb17,hb25,hb29];done) | (simp [largeB,largeS,hJ2_0,hJ2_1,hJ2_2,hJ2_0,hJ2_1,hJ2_2,hb17,hb25,hb29];omega)),hM.pick [] rfl⟩))
    ·replace hb29 := of_decide_eq_false hb29
     replace hb29 : ¬ ((checkH h) = 0) := by omega
     refine wcf hE rfl (wp_skip (qe (K6 (wpp (sm hE rfl fun a hE=>sb hE rfl rfl (show Bin _ _ _ _ _ (.int .i64 4) from bin_add (by rw [wrap_i64 (by omega) (by omega)];omega)) fun a hE=>?_)))))
     refine sas hE rfl fun a hE=>qa ?_
     replace hM : Mem _ _ w5 [_] := hM.pick [0] rfl
     refine qd ⟨(by first | (simp [largeS,hJ2_0,hJ2_1,hJ2_2,hb17,hb25,hb29];done) | (simp [largeS,hJ2_0,hJ2_1,hJ2_2,hb17,hb25,hb29];omega)),hE.sel [1,2,3,6,7] rfl,hM⟩
   ·replace hb25 := of_decide_eq_false hb25
    refine gf hE rfl fun a hE=>gf hE rfl fun a hE=>gf hE rfl fun a hE=>pkf hE rfl fun a hE=>qa (K7 (wcf hE rfl (wp_skip (qe (K6 ?_)))))
    refine wpp (sm hE rfl fun a hE=>sb hE rfl rfl (show Bin _ _ _ _ _ (.int .i64 4) from bin_add (by rw [wrap_i64 (by omega) (by omega)];omega)) fun a hE=>?_)
    refine sas hE rfl fun a hE=>qa ?_
    replace hM : Mem _ _ w4 [_] := hM.pick [0] rfl
    refine qd ⟨(by first | (simp [largeS,hJ2_0,hJ2_1,hJ2_2,hb17,hb25];done) | (simp [largeS,hJ2_0,hJ2_1,hJ2_2,hb17,hb25];omega)),hE.sel [1,2,3,6,7] rfl,hM⟩
  ·refine gf hE rfl fun a hE=>gf hE rfl fun a hE=>gf hE rfl fun a hE=>gf hE rfl fun a hE=>gf hE rfl fun a hE=>gf hE rfl fun a hE=>pkf hE rfl fun a hE=>sm hE rfl fun a hE=>gf hE rfl fun a hE=>gf hE rfl fun a hE=>?_
   refine gf hE rfl fun a hE=>pkf hE rfl fun a hE=>qa (K7 (wcf hE rfl (wp_skip (qe (K6 (wpp (sm hE rfl fun a hE=>?_)))))))
   refine sb hE rfl rfl (show Bin _ _ _ _ _ (.int .i64 4) from bin_add (by rw [wrap_i64 (by omega) (by omega)];omega)) fun a hE=>?_
   refine sas hE rfl fun a hE=>qa ?_
   replace hM : Mem _ _ w4 [_] := hM.pick [0] rfl
   refine qd ⟨(by first | (simp [largeS,hJ2_0,hJ2_1,hJ2_2,hb17];done) | (simp [largeS,hJ2_0,hJ2_1,hJ2_2,hb17];omega)),hE.sel [1,2,3,6,7] rfl,hM⟩
 rintro a w5 ⟨hJ2_3,hE,hM⟩
 refine c_rounds (ww1 fun _ K4=>ww1 fun _ K5=>wpp (sm hE rfl fun a hE=>sb hE rfl rfl bin_lss fun a hE=>?_))
 replace hE := hE.cast 9 rfl (show _ = Value.bool false from (congrArg Value.bool (by decide)))
 refine qa (K5 (wcf hE rfl (wp_exit (qc (qc (qg (K2 (ww1 fun _ K6=>wpp ?_))))))))
 refine sm hE rfl fun a hE=>s_len_str hE rfl Tryz.underlying9 rfl fun a hE=>?_
 replace hE := hE.cast 31 rfl (show _ = Value.int .i64 ((p.length : Nat) : Int) from (congrArg (fun n : Nat => Value.int .i64 (n : Int)) (by first | rfl | (simp [*];done) | (simp;omega) | (simp [*];omega))))
 refine sb hE rfl rfl bin_gtr fun a hE=>sm hE rfl fun a hE=>?_
 refine hE.split 33 rfl (fun hb33 hE=>?_) (fun hb33 hE=>?_)
 ·replace hb33 := of_decide_eq_true hb33
  replace hb33 : 1000 < p.length := by omega
  refine gt hE rfl fun a hE=>gt hE rfl fun a hE=>gt hE rfl fun a hE=>g_und hE rfl rfl rfl fun a hE=>g_und hE rfl rfl rfl fun a hE=>gt hE rfl fun a hE=>pkt hE rfl fun a hE=>sas hE rfl fun a hE=>qa (K6 ?_)
  exact wp_ret (qi hE rfl rfl ⟨(by first | (simp [largeB,hJ2_0,hJ2_1,hJ2_2,hJ2_3,hJ2_0,hJ2_1,hJ2_2,hJ2_3,hb33];done) | (simp [largeB,largeS,hJ2_0,hJ2_1,hJ2_2,hJ2_3,hJ2_0,hJ2_1,hJ2_2,hJ2_3,hb33];done) | (simp [largeB,largeS,hJ2_0,hJ2_1,hJ2_2,hJ2_3,hJ2_0,hJ2_1,hJ2_2,hJ2_3,hb33];omega)),hM.pick [] rfl⟩)
 ·replace hb33 := of_decide_eq_false hb33
  replace hb33 : ¬ (1000 < p.length) := by omega
  refine gy hE rfl (sm hE rfl fun a hE=>gy hE rfl (sb hE rfl rfl bin_gtr fun a hE=>gy hE rfl (sm hE rfl fun a hE=>?_)))
  refine hE.split 36 rfl (fun hb36 hE=>?_) (fun hb36 hE=>?_)
  ·replace hb36 := of_decide_eq_true hb36
   refine gy hE rfl (sm hE rfl fun a hE=>gy hE rfl (sb hE rfl rfl bin_leq fun a hE=>gy hE rfl (pkt hE rfl fun a hE=>pkf hE rfl fun a hE=>sas hE rfl fun a hE=>qa (K6 ?_))))
   exact wp_ret (qi hE rfl rfl ⟨(by first | (simp [largeB,hJ2_0,hJ2_1,hJ2_2,hJ2_3,hJ2_0,hJ2_1,hJ2_2,hJ2_3,hb33,hb36];done) | (simp [largeB,largeS,hJ2_0,hJ2_1,hJ2_2,hJ2_3,hJ2_0,hJ2_1,hJ2_2,hJ2_3,hb33,hb36];done) | (simp [largeB,largeS,hJ2_0,hJ2_1,hJ2_2,hJ2_3,hJ2_0,hJ2_1,hJ2_2,hJ2_3,hb33,hb36];omega)),hM.pick [] rfl⟩)
  ·replace hb36 := of_decide_eq_false hb36
   exact gf hE rfl fun a hE=>gf hE rfl fun a hE=>gy hE rfl (pkf hE rfl fun a hE=>pkf hE rfl fun a hE=>sas hE rfl fun a hE=>qa (K6 (wp_ret (qi hE rfl rfl ⟨(by first | (simp [largeB,hJ2_0,hJ2_1,hJ2_2,hJ2_3,hJ2_0,hJ2_1,hJ2_2,hJ2_3,hb33,hb36];done) | (simp [largeB,largeS,hJ2_0,hJ2_1,hJ2_2,hJ2_3,hJ2_0,hJ2_1,hJ2_2,hJ2_3,hb33,hb36];done) | (simp [largeB,largeS,hJ2_0,hJ2_1,hJ2_2,hJ2_3,hJ2_0,hJ2_1,hJ2_2,hJ2_3,hb33,hb36];omega)),hM.pick [] rfl⟩))))
end Go.Proofs.YtniekapfoaiieaaGreatDoor
