/- Walks of functions of the given program that the claim reaches. -/
import Derived.Test.YtniekapfoaiieaaDoorLh
set_option linter.unusedSimpArgs false
set_option linter.unusedVariables false
namespace Go.Proofs.YtniekapfoaiieaaDoor
open Go Go.Kx
theorem zero22 : Zero Tryd.prog 22 [bv (List.replicate 32 0)] := ⟨.agg ([bv (List.replicate 32 0)] : List (List Value)).flatten.toArray,by kernel_rfl,by kernel_rfl⟩
theorem arr22 : arrT Tryd.prog 22 = some (32,1) := by kernel_rfl
theorem row22 : RowT Tryd.prog 22 32 := RowT.of Tryd.underlying22 rfl (by kernel_rfl)
theorem sz22 : (Tryd.prog.info? 22).map (·.size) = some 32 := by kernel_rfl
theorem pass_ok (s : ByteArray) (w : World) (h1 : 1 ≤ s.size) (h2 : s.size ≤ 48) : Calls Tryd.prog 30 #[.string s] w fun e w' => ∃ v',e = .returned (.tuple #[v',.int .i64 0]) ∧ Mem w [] w' [own v' 1 (phrW s.data.toList).length (bv (phrW s.data.toList))] := by
 have hM := Mem.start0 w
 have hsz : s.data.toList.length = s.size := rfl
 refine ve 18 Tryd.func30 rfl rfl rfl ?_
 intro a hE
 replace hE : Env a 18 [(0,_)] := hE
 refine ww1 fun _ K1=>wpp (sas hE rfl fun a hE=>sas hE rfl fun a hE=>qa (K1 (ww1 fun _ K2=>ww1 fun _ K3=>wpp (sm hE rfl fun a hE=>?_))))
 refine s_len_str hE rfl Tryd.underlying9 rfl fun a hE=>sb hE rfl rfl bin_lss fun a hE=>sm hE rfl fun a hE=>?_
 replace hE := hE.cast 7 rfl (show _ = Value.bool false from (congrArg Value.bool (decide_eq_false (by omega))))
 refine gy hE rfl (sm hE rfl fun a hE=>gy hE rfl (s_len_str hE rfl Tryd.underlying9 rfl fun a hE=>gy hE rfl (sb hE rfl rfl bin_gtr fun a hE=>pkf hE rfl fun a hE=>qa (K3 ?_))))
 replace hE := hE.cast 11 rfl (show _ = Value.bool false from (congrArg Value.bool (decide_eq_false (by omega))))
 refine wcf hE rfl (wp_skip (K2 (ww1 fun _ K4=>wpp (sm hE rfl fun a hE=>s_len_str hE rfl Tryd.underlying9 rfl fun a hE=>qx hE rfl (cnv_int Tryd.underlying3 Tryd.underlying5 (wrap_u8_ofNat _)) rfl fun a hE=>qv (xs := [.tmp 14]) (bv [UInt8.ofNat s.size]) hE hM sl42 rfl rfl rfl (by intro v hv;simp at hv;subst hv;rfl) rfl rfl rfl rfl fun a v15 w1 hE hM=>?_))))
 refine sm hE rfl fun a hE=>qw hE rfl rfl hM sl42 (Src.str Tryd.underlying9 s) (len47 (by omega)) (by omega) (by intro X h;cases h) rfl fun a v17 w2 hE hM=>?_
 refine sas hE rfl fun a hE=>sas hE rfl fun a hE=>qa (K4 (wp_ret (qj hE rfl rfl rfl (⟨_,rfl,?_⟩))))
 replace hM := hM.ownEq (m' := (phrW s.data.toList).length) (cs' := bv (phrW s.data.toList)) (by simp [phrW,hsz];omega) (by rw [← bv_append];rfl)
 exact hM
theorem pass_bad (s : ByteArray) (w : World) (h : s.size < 1 ∨ 48 < s.size) : Calls Tryd.prog 30 #[.string s] w fun e w' => e = .returned (.tuple #[.slice none 0 0,.int .i64 2]) ∧ Mem w [] w' [] := by
 have hM := Mem.start0 w
 refine ve 18 Tryd.func30 rfl rfl rfl ?_
 intro a hE
 replace hE : Env a 18 [(0,_)] := hE
 refine ww1 fun _ K1=>wpp (sas hE rfl fun a hE=>sas hE rfl fun a hE=>qa (K1 (ww1 fun _ K2=>ww1 fun _ K3=>wpp (sm hE rfl fun a hE=>?_))))
 refine s_len_str hE rfl Tryd.underlying9 rfl fun a hE=>sb hE rfl rfl bin_lss fun a hE=>sm hE rfl fun a hE=>?_
 refine hE.split 7 rfl (fun hb7 hE=>?_) (fun hb7 hE=>?_)
 ·replace hb7 := of_decide_eq_true hb7
  refine gt hE rfl fun a hE=>gt hE rfl fun a hE=>gt hE rfl fun a hE=>pkt hE rfl fun a hE=>qa (K3 (wct hE rfl (ww1 fun _ K4=>wpp (sas hE rfl fun a hE=>?_))))
  exact sas hE rfl fun a hE=>qa (K4 (wp_ret (qb (qj hE rfl rfl rfl ⟨rfl,hM⟩))))
 ·replace hb7 := of_decide_eq_false hb7
  refine gy hE rfl (sm hE rfl fun a hE=>gy hE rfl (s_len_str hE rfl Tryd.underlying9 rfl fun a hE=>gy hE rfl (sb hE rfl rfl bin_gtr fun a hE=>pkf hE rfl fun a hE=>qa (K3 ?_))))
  replace hE := hE.cast 11 rfl (show _ = Value.bool true from (congrArg Value.bool (decide_eq_true (by omega))))
  exact wct hE rfl (ww1 fun _ K4=>wpp (sas hE rfl fun a hE=>sas hE rfl fun a hE=>qa (K4 (wp_ret (qb (qj hE rfl rfl rfl ⟨rfl,hM⟩))))))
theorem block_c (v u : Value) (pass salt : List UInt8) (c cu r : Nat) (i : UInt8) (w : World) (hG : (glb 1).holds w) (hr : (rd v 1 pass.length c (bv pass)).holds w) (hu : (rd u 1 salt.length cu (bv salt)).holds w) (hk : pass.length ≤ 1099511627776) (hf : salt.length ≤ 274877906944) (hrr : r ≤ 4096) : Calls Tryd.prog 57 #[v,u,.int .i64 (r : Int),.int .u8 (i.toNat : Int)] w fun e w' => e = .returned (.agg (bv (oW pass salt i r)).toArray) ∧ Mem w [] w' [] := by
 have hM : Mem w [] w [rd v 1 pass.length c (bv pass),rd u 1 salt.length cu (bv salt),glb 1] := Mem.startR w (fun g hg => by
  simp only [List.mem_cons,List.not_mem_nil,or_false] at hg
  rcases hg with rfl | rfl | rfl
  ·exact ⟨hr,rfl⟩
  ·exact ⟨hu,rfl⟩
  ·exact ⟨hG,rfl⟩)
 refine ve 41 Tryd.func57 rfl rfl rfl ?_
 intro a hE
 replace hE : Env a 41 [(0,_),(1,_),(2,_),(3,_)] := hE
 refine ww1 fun _ K1=>wpp (qo [32] hE hM zero22 rfl rfl fun a b8 w1 hE hM=>qa (K1 (ww1 fun _ K2=>wpp (sm hE rfl fun a hE=>sm hE rfl fun a hE=>sm hE rfl fun a hE=>?_))))
 refine qv (xs := [.const (.int .u8 0),.const (.int .u8 0),.const (.int .u8 0),.tmp 14]) (bv [0,0,0,i]) hE hM sl42 rfl rfl rfl (by intro v hv;obtain ⟨x,_,rfl⟩ := List.mem_map.1 (show v ∈ bv [0,0,0,i] from hv);rfl) rfl rfl rfl rfl fun a v15 w2 hE hM=>?_
 have h1 := rd_one (hM.get 3 rfl)
 have h2 := own_one (hM.get 0 rfl)
 refine qv (xs := [.tmp 13,.tmp 15]) ([u,v15]) hE hM sl117 rfl rfl rfl (by intro v hv;simp only [List.mem_cons,List.not_mem_nil,or_false] at hv;rcases hv with rfl | rfl;rw [h1.1];rfl;rw [h2.1];rfl) (by simp [h1.1,h2.1]) rfl rfl rfl fun a v16 w3 hE hM=>?_
 obtain ⟨cl,hl⟩ := own_rd (hM.get 0 rfl)
 obtain ⟨cf,h4⟩ := own_rd (hM.get 1 rfl)
 refine qn hE rfl Tryd.call66 ((by have h := parts_c v _ pass [salt,[0,0,0,i]] _ _ c _ _ (hM.get 5 rfl) (hM.get 3 rfl) hl (rdv_cons (hM.get 4 rfl) (rdv_cons (p := [0,0,0,i]) h4 (rdv_nil _))) hk (by simp;omega) (by simp);rw [show ([salt,[0,0,0,i]] : List (List UInt8)).flatten = salt ++ [0,0,0,i] from by simp] at h;exact h)) rfl ?_
 rintro e w4 ⟨rfl,hN⟩
 refine ⟨_,rfl,trivial,fun a hE=>?_⟩
 replace hM : Mem _ _ w4 [_,_,_,_,_,_] := hM.call0 hN trivial;clear hN
 refine qo [32] hE hM zero27 rfl rfl fun a b9 w5 hE hM=>qr 0 hE rfl rfl hM rfl sz27 (by simp) (vc _) rfl (by simp) rfl (by intro X h;cases h) fun w6 hM=>?_
 simp only [List.set_cons_zero,List.set_cons_succ] at hM
 refine qa (K2 (ww1 fun _ K3=>ww1 fun _ K4=>wpp (sm hE rfl fun a hE=>sm hE rfl fun a hE=>qa (K4 (wp_block ?_)))))
 replace hM : Mem _ _ w6 [_,_,_,_,_,_,_] := hM.pick [3,0,4,6,1,2,5] rfl
 replace hM : Mem _ _ w6 [_,_,_,_] := hM.pick [0,1,2,3] rfl
 refine c_loop (fun (n : Nat) a w' => n ≤ r ∧ Env a 41 [(0,v),(8,.pointer (some ⟨b8,0,none⟩)),(9,.pointer (some ⟨b9,0,none⟩)),(18,.int .i64 (r : Int)),(19,.int .i64 (n : Int))] ∧ Mem w [] w' [blk b8 [bv (oW pass salt i n)] [32] 22,blk b9 [bv (uW pass salt i (n - 1))] [32] 27,rd v 1 pass.length c (bv pass),glb 1]) (fun n => r - n) 0 ⟨Nat.zero_le _,hE.sel [0,8,9,18,19] rfl,hM⟩ ?_
 rintro n a w7 ⟨hn,hE,hM⟩
 refine ww1 fun _ K5=>wpp (sb hE rfl rfl bin_lss fun a hE=>qa (K5 (ww1 fun _ K6=>?_)))
 refine hE.split 20 rfl (fun hb20 hE=>?_) (fun hb20 hE=>?_)
 ·replace hb20 := of_decide_eq_true hb20
  replace hb20 : n < r := by omega
  refine wct hE rfl (wp_skip (K6 (ww1 fun _ K7=>wp_block (ww1 fun _ K8=>wpp (sm hE rfl fun a hE=>sas hE rfl fun a hE=>qa ?_)))))
  refine K8 (ww1 fun _ K9=>ww1 fun _ K10=>wpp (sm hE rfl fun a hE=>sb hE rfl rfl bin_gtr fun a hE=>qa (K10 ?_)))
  refine hE.split 23 rfl (fun hb23 hE=>?_) (fun hb23 hE=>?_)
  ·replace hb23 := of_decide_eq_true hb23
   replace hb23 : 0 < n := by omega
   refine wct hE rfl (wpp (sm hE rfl fun a hE=>s_sliceArr (l := 0) (h := 32) (mx' := 32) hE rfl arr27 rfl rfl rfl (by simp) (by omega) (by omega) (by omega) rfl fun a hE=>?_))
   replace hE := hE.cast 25 rfl (show _ = Value.slice (some ⟨b9,0,none⟩) 32 32 from rfl)
   refine qn hE rfl Tryd.call45 (of_c v _ pass (uW pass salt i (n - 1)) c _ _ (hM.get 3 rfl) (hM.get 2 rfl) (rd_of_arr (hM.get 1 rfl) (by simp)) hk (by simp)) rfl ?_
   rintro e w8 ⟨rfl,hN⟩
   refine ⟨_,rfl,trivial,fun a hE=>?_⟩
   replace hM : Mem _ _ w8 [_,_,_,_] := hM.call0 hN trivial;clear hN
   replace hM : Mem _ _ w8 [_,_,_,_] := hM.pick [1,0,2,3] rfl
   refine qr 0 hE rfl rfl hM rfl sz27 (by simp) (vc _) rfl (by simp) rfl (by intro X h;cases h) fun w9 hM=>?_
   simp only [List.set_cons_zero,List.set_cons_succ] at hM
   refine qa (K9 (ww1 fun _ K11=>wpp (sm hE rfl fun a hE=>qa (K11 (wp_block ?_)))))
   replace hM : Mem _ _ w9 [_,_,_,_] := hM.pick [1,0,2,3] rfl
   rw [uW_step hb23] at hM
   have hou : (oW pass salt i n).length = (uW pass salt i n).length := by simp
   have hol : (oW pass salt i n).length = 32 := by simp
   refine c_loop (fun (k : Nat) a w' => k ≤ 32 ∧ Env a 41 [(0,v),(8,.pointer (some ⟨b8,0,none⟩)),(9,.pointer (some ⟨b9,0,none⟩)),(18,.int .i64 (r : Int)),(19,.int .i64 ((n : Nat) : Int)),(27,.int .i64 (k : Int))] ∧ Mem w [] w' [blk b8 [bv (xorI (oW pass salt i n) (uW pass salt i n) k)] [32] 22,blk b9 [bv (uW pass salt i n)] [32] 27,rd v 1 pass.length c (bv pass),glb 1]) (fun k => 32 - k) 0 ⟨Nat.zero_le _,hE.sel [0,8,9,18,19,27] rfl,by rw [xorI_zero];exact hM⟩ ?_
   rintro k a w10 ⟨hk,hE,hM⟩
   refine ww1 fun _ K12=>wpp (sb hE rfl rfl bin_lss fun a hE=>qa (K12 (ww1 fun _ K13=>?_)))
   refine hE.split 28 rfl (fun hb28 hE=>?_) (fun hb28 hE=>?_)
   ·replace hb28 := of_decide_eq_true hb28
    replace hb28 : k < 32 := by omega
    refine wct hE rfl (wp_skip (K13 (ww1 fun _ K14=>wp_block (ww1 fun _ K15=>wpp (sm hE rfl fun a hE=>sas hE rfl fun a hE=>qa ?_)))))
    refine K15 (wp_drawnM2 hM (by kernel_rfl) (fun _ => False) (fun _ => True) [(0,true),(1,true),(2,true),(3,true),(4,true),(5,true),(6,true),(7,true)] [(8,false)] [(8,[]),(1,[(2,1),(6,2),(7,1),(8,1)]),(2,[(6,2),(7,2),(8,2)]),(4,[(5,4),(6,5),(7,4),(8,4)]),(5,[(6,5),(7,5),(8,5)]),(6,[(7,6),(8,6)]),(7,[(8,7)])] (by kernel_rfl) (by kernel_rfl) rfl rfl ?_)
    intro w11 hM' hww11;replace hM := hM'
    refine sm hE rfl fun a hE=>qp (j := k) hE rfl rfl arr22 (by first | rfl | omega) (by first | omega | decide) rfl fun a hE=>?_
    refine qy (j := k) hE rfl (by omega) (hM.get 0 rfl) (bv_get (by simp only [vh,xorI_length hou,hol];exact hb28)) one5 (by intro X h;cases h;simp) rfl fun a hE=>?_
    refine sm hE rfl fun a hE=>qp (j := k) hE rfl rfl arr27 (by first | rfl | omega) (by first | omega | decide) rfl fun a hE=>?_
    refine qy (j := k) hE rfl (by omega) (hM.get 1 rfl) (bv_get (by simp;omega)) one5 (by intro X h;cases h;simp) rfl fun a hE=>?_
    refine sb hE rfl rfl bin_xor8 fun a hE=>qp (j := k) hE rfl rfl arr22 (by first | rfl | omega) (by first | omega | decide) rfl fun a hE=>?_
    refine qa (q_ph (s_storeIdx (j := k) hE rfl (by omega) rfl hM rfl rfl sz5 (by simp only [vh,xorI_length hou,hol];exact hb28) (by intro X h;cases h;first | (simp;done) | simp [valBlocks]) fun w12 hM=>?_))
    first | rw [bv_set'] at hM | rw [bv_setI] at hM
    refine qa (qe (K14 (wpp (sb hE rfl rfl (bin_add (wrap_i64 (by omega) (by omega))) fun a hE=>?_))))
    refine sm hE rfl fun a hE=>qa ?_
    replace hE := hE.cast 27 rfl (show _ = Value.int .i64 ((k + 1 : Nat) : Int) from congrArg _ (by omega))
    rw [xorI_get hou (by omega),xorI_set hou (by omega)] at hM
    exact ⟨k + 1,⟨by omega,hE.sel [0,8,9,18,19,27] rfl,hM⟩,by omega⟩
   ·replace hb28 := of_decide_eq_false hb28
    replace hb28 : ¬ k < 32 := by omega
    obtain rfl : k = 32 := by omega
    rw [show xorI (oW pass salt i n) (uW pass salt i n) 32 = oW pass salt i (n + 1) from by rw [oW,← xorI_all hou,hol]] at hM
    refine wcf hE rfl (wp_exit (qc (qc (qg (qe (K7 (wpp (sb hE rfl rfl (bin_add (wrap_i64 (by omega) (by omega))) fun a hE=>?_))))))))
    refine sm hE rfl fun a hE=>qa ?_
    replace hE := hE.cast 19 rfl (show _ = Value.int .i64 ((n + 1 : Nat) : Int) from congrArg _ (by omega))
    exact ⟨n + 1,⟨by omega,hE.sel [0,8,9,18,19] rfl,hM⟩,by omega⟩
  ·replace hb23 := of_decide_eq_false hb23
   replace hb23 : ¬ 0 < n := by omega
   refine wcf hE rfl (wp_skip (K9 (ww1 fun _ K11=>wpp (sm hE rfl fun a hE=>qa (K11 (wp_block ?_))))))
   rw [show n - 1 = n by omega] at hM
   have hou : (oW pass salt i n).length = (uW pass salt i n).length := by simp
   have hol : (oW pass salt i n).length = 32 := by simp
   refine c_loop (fun (k : Nat) a w' => k ≤ 32 ∧ Env a 41 [(0,v),(8,.pointer (some ⟨b8,0,none⟩)),(9,.pointer (some ⟨b9,0,none⟩)),(18,.int .i64 (r : Int)),(19,.int .i64 ((n : Nat) : Int)),(27,.int .i64 (k : Int))] ∧ Mem w [] w' [blk b8 [bv (xorI (oW pass salt i n) (uW pass salt i n) k)] [32] 22,blk b9 [bv (uW pass salt i n)] [32] 27,rd v 1 pass.length c (bv pass),glb 1]) (fun k => 32 - k) 0 ⟨Nat.zero_le _,hE.sel [0,8,9,18,19,27] rfl,by rw [xorI_zero];exact hM⟩ ?_
   rintro k a w8 ⟨hk,hE,hM⟩
   refine ww1 fun _ K12=>wpp (sb hE rfl rfl bin_lss fun a hE=>qa (K12 (ww1 fun _ K13=>?_)))
   refine hE.split 28 rfl (fun hb28 hE=>?_) (fun hb28 hE=>?_)
   ·replace hb28 := of_decide_eq_true hb28
    replace hb28 : k < 32 := by omega
    refine wct hE rfl (wp_skip (K13 (ww1 fun _ K14=>wp_block (ww1 fun _ K15=>wpp (sm hE rfl fun a hE=>sas hE rfl fun a hE=>qa ?_)))))
    refine K15 (wp_drawnM2 hM (by kernel_rfl) (fun _ => False) (fun _ => True) [(0,true),(1,true),(2,true),(3,true),(4,true),(5,true),(6,true),(7,true)] [(8,false)] [(8,[]),(1,[(2,1),(6,2),(7,1),(8,1)]),(2,[(6,2),(7,2),(8,2)]),(4,[(5,4),(6,5),(7,4),(8,4)]),(5,[(6,5),(7,5),(8,5)]),(6,[(7,6),(8,6)]),(7,[(8,7)])] (by kernel_rfl) (by kernel_rfl) rfl rfl ?_)
    intro w9 hM' hww9;replace hM := hM'
    refine sm hE rfl fun a hE=>qp (j := k) hE rfl rfl arr22 (by first | rfl | omega) (by first | omega | decide) rfl fun a hE=>?_
    refine qy (j := k) hE rfl (by omega) (hM.get 0 rfl) (bv_get (by simp only [vh,xorI_length hou,hol];exact hb28)) one5 (by intro X h;cases h;simp) rfl fun a hE=>?_
    refine sm hE rfl fun a hE=>qp (j := k) hE rfl rfl arr27 (by first | rfl | omega) (by first | omega | decide) rfl fun a hE=>?_
    refine qy (j := k) hE rfl (by omega) (hM.get 1 rfl) (bv_get (by simp;omega)) one5 (by intro X h;cases h;simp) rfl fun a hE=>?_
    refine sb hE rfl rfl bin_xor8 fun a hE=>qp (j := k) hE rfl rfl arr22 (by first | rfl | omega) (by first | omega | decide) rfl fun a hE=>?_
    refine qa (q_ph (s_storeIdx (j := k) hE rfl (by omega) rfl hM rfl rfl sz5 (by simp only [vh,xorI_length hou,hol];exact hb28) (by intro X h;cases h;first | (simp;done) | simp [valBlocks]) fun w10 hM=>?_))
    first | rw [bv_set'] at hM | rw [bv_setI] at hM
    refine qa (qe (K14 (wpp (sb hE rfl rfl (bin_add (wrap_i64 (by omega) (by omega))) fun a hE=>?_))))
    refine sm hE rfl fun a hE=>qa ?_
    replace hE := hE.cast 27 rfl (show _ = Value.int .i64 ((k + 1 : Nat) : Int) from congrArg _ (by omega))
    rw [xorI_get hou (by omega),xorI_set hou (by omega)] at hM
    exact ⟨k + 1,⟨by omega,hE.sel [0,8,9,18,19,27] rfl,hM⟩,by omega⟩
   ·replace hb28 := of_decide_eq_false hb28
    replace hb28 : ¬ k < 32 := by omega
    obtain rfl : k = 32 := by omega
    rw [show xorI (oW pass salt i n) (uW pass salt i n) 32 = oW pass salt i (n + 1) from by rw [oW,← xorI_all hou,hol]] at hM
    refine wcf hE rfl (wp_exit (qc (qc (qg (qe (K7 (wpp (sb hE rfl rfl (bin_add (wrap_i64 (by omega) (by omega))) fun a hE=>?_))))))))
    refine sm hE rfl fun a hE=>qa ?_
    replace hE := hE.cast 19 rfl (show _ = Value.int .i64 ((n + 1 : Nat) : Int) from congrArg _ (by omega))
    exact ⟨n + 1,⟨by omega,hE.sel [0,8,9,18,19] rfl,hM⟩,by omega⟩
 ·replace hb20 := of_decide_eq_false hb20
  replace hb20 : ¬ n < r := by omega
  obtain rfl : n = r := by omega
  refine wcf hE rfl (wp_exit (qc (qc (qg (K3 (ww1 fun _ K7=>wpp (ql hE rfl (hM.get 0 rfl) row22 rfl (by intro X h;cases h) rfl fun a hE=>?_)))))))
  refine qr 0 hE rfl rfl hM rfl sz22 (by simp) (vc _) rfl (by simp) rfl (by intro X h;cases h) fun w8 hM=>?_
  simp only [List.set_cons_zero,List.set_cons_succ] at hM
  exact qa (K7 (wp_ret (qi hE rfl (res_cellN rfl (hM.get 0 rfl) row22 rfl) ⟨rfl,hM.nil⟩)))
theorem key_bad (v u : Value) (z y : Int) (w : World) (h : z < 1 ∨ 4096 < z ∨ y < 1 ∨ 128 < y) : Calls Tryd.prog 31 #[v,u,.int .i64 z,.int .i64 y] w fun e w' => e = .returned (.tuple #[.slice none 0 0,.int .i64 2]) ∧ Mem w [] w' [] := by
 have hM := Mem.start0 w
 refine ve 45 Tryd.func31 rfl rfl rfl ?_
 intro a hE
 replace hE : Env a 45 [(0,_),(1,_),(2,_),(3,_)] := hE
 refine ww1 fun _ K1=>wpp (sas hE rfl fun a hE=>sas hE rfl fun a hE=>qa (K1 (ww1 fun _ K2=>ww1 fun _ K3=>wpp (sm hE rfl fun a hE=>?_))))
 refine sb hE rfl rfl bin_lss fun a hE=>sm hE rfl fun a hE=>?_
 refine hE.split 15 rfl (fun hb15 hE=>?_) (fun hb15 hE=>?_)
 ·replace hb15 := of_decide_eq_true hb15
  refine gt hE rfl fun a hE=>gt hE rfl fun a hE=>pkt hE rfl fun a hE=>sm hE rfl fun a hE=>gt hE rfl fun a hE=>gt hE rfl fun a hE=>pkt hE rfl fun a hE=>sm hE rfl fun a hE=>gt hE rfl fun a hE=>gt hE rfl fun a hE=>?_
  refine pkt hE rfl fun a hE=>qa (K3 (wct hE rfl (ww1 fun _ K4=>wpp (sas hE rfl fun a hE=>sas hE rfl fun a hE=>qa (K4 ?_)))))
  exact wp_ret (qb (qj hE rfl rfl rfl ⟨rfl,hM⟩))
 ·replace hb15 := of_decide_eq_false hb15
  refine gy hE rfl (sm hE rfl fun a hE=>gy hE rfl (sb hE rfl rfl bin_gtr fun a hE=>pkf hE rfl fun a hE=>sm hE rfl fun a hE=>?_))
  refine hE.split 19 rfl (fun hb19 hE=>?_) (fun hb19 hE=>?_)
  ·replace hb19 := of_decide_eq_true hb19
   refine gt hE rfl fun a hE=>gt hE rfl fun a hE=>pkt hE rfl fun a hE=>sm hE rfl fun a hE=>gt hE rfl fun a hE=>gt hE rfl fun a hE=>pkt hE rfl fun a hE=>qa (K3 (wct hE rfl ?_))
   exact ww1 fun _ K4=>wpp (sas hE rfl fun a hE=>sas hE rfl fun a hE=>qa (K4 (wp_ret (qb (qj hE rfl rfl rfl ⟨rfl,hM⟩)))))
  ·replace hb19 := of_decide_eq_false hb19
   refine gy hE rfl (sm hE rfl fun a hE=>gy hE rfl (sb hE rfl rfl bin_lss fun a hE=>pkf hE rfl fun a hE=>sm hE rfl fun a hE=>?_))
   refine hE.split 23 rfl (fun hb23 hE=>?_) (fun hb23 hE=>?_)
   ·replace hb23 := of_decide_eq_true hb23
    refine gt hE rfl fun a hE=>gt hE rfl fun a hE=>pkt hE rfl fun a hE=>qa (K3 (wct hE rfl (ww1 fun _ K4=>wpp (sas hE rfl fun a hE=>sas hE rfl fun a hE=>?_))))
    exact qa (K4 (wp_ret (qb (qj hE rfl rfl rfl ⟨rfl,hM⟩))))
   ·replace hb23 := of_decide_eq_false hb23
    refine gy hE rfl (sm hE rfl fun a hE=>gy hE rfl (sb hE rfl rfl bin_gtr fun a hE=>pkf hE rfl fun a hE=>qa (K3 ?_)))
    replace hE := hE.cast 26 rfl (show _ = Value.bool true from (congrArg Value.bool (decide_eq_true (by omega))))
    exact wct hE rfl (ww1 fun _ K4=>wpp (sas hE rfl fun a hE=>sas hE rfl fun a hE=>qa (K4 (wp_ret (qb (qj hE rfl rfl rfl ⟨rfl,hM⟩))))))
end Go.Proofs.YtniekapfoaiieaaDoor
