/- Walks of functions of the given program that the claim reaches. -/
import Derived.Test.YtniekapfoaiieaaDoorLg
set_option linter.unusedSimpArgs false
set_option linter.unusedVariables false
namespace Go.Proofs.YtniekapfoaiieaaDoor
open Go Go.Kx
theorem fo52_0 : fieldOff Tryd.prog 52 0 = some 0 := by kernel_rfl
theorem fo52_1 : fieldOff Tryd.prog 52 1 = some 1 := by kernel_rfl
theorem fo54_1 : fieldOff Tryd.prog 54 1 = some 1 := by kernel_rfl
theorem fo54_0 : fieldOff Tryd.prog 54 0 = some 0 := by kernel_rfl
theorem row54 : RowT Tryd.prog 54 66 := RowT.of Tryd.underlying54 rfl (by kernel_rfl)
theorem zero54 : Zero Tryd.prog 54 [[.bool false],[.int .u64 0],(bv (List.replicate 32 0)) ++ (bv (List.replicate 32 0))] := ⟨.agg ([[.bool false],[.int .u64 0],(bv (List.replicate 32 0)) ++ (bv (List.replicate 32 0))] : List (List Value)).flatten.toArray,by kernel_rfl,by kernel_rfl⟩
theorem fpl54 : fldPl Tryd.prog 54 = some (plc 0 [1,1,64]) := by kernel_rfl
theorem kl54 : ∀ {k : Nat} {x0 : Bool} {x1 : Int} {x2 : List UInt8} {x3 : List UInt8} (hx1 : (Lit.int .u64 x1).wf = true) (hx2 : x2.length = 32) (hx3 : x3.length = 32),KL Tryd.prog (k + 4) 54 ([[.bool x0],[.int .u64 x1],[bv x2,bv x3].flatten].flatten) := fun {k} {x0} {x1} {x2} {x3} hx1 hx2 hx3 => KL.struct [1,1,64] Tryd.underlying54 (by kernel_rfl) (by kernel_rfl) (by kernel_rfl) (by simp [*]) [4,24,29] (by kernel_rfl) ⟨KL.bool Tryd.underlying4,KL.int Tryd.underlying24 hx1,KL.struct [32,32] Tryd.underlying29 (by kernel_rfl) (by kernel_rfl) (by kernel_rfl) (by simp [*]) [23,27] (by kernel_rfl) ⟨KL.arr8 Tryd.underlying23 Tryd.underlying5 (by kernel_rfl) (by kernel_rfl) hx2,KL.arr8 Tryd.underlying27 Tryd.underlying5 (by kernel_rfl) (by kernel_rfl) hx3,trivial⟩,trivial⟩
theorem klL54 : ∀ {k : Nat} {x0 : Bool} {x1 : Int} {x2 : List UInt8} {x3 : List UInt8} (hx1 : (Lit.int .u64 x1).wf = true) (hx2 : x2.length = 32) (hx3 : x3.length = 32),KL Tryd.prog (k + 4) 54 ([[.bool x0],[.int .u64 x1],bv x2,bv x3] : List (List Value)).flatten := fun {k} {x0} {x1} {x2} {x3} hx1 hx2 hx3 => by
 have h := kl54 (k := k) (x0 := x0) (x1 := x1) (x2 := x2) (x3 := x3) hx1 hx2 hx3
 simpa only [List.flatten_cons,List.flatten_nil,List.append_nil,List.append_assoc] using h
theorem eqk54 : ∀ {cs ds : List Value} {b : Bool} {k k' : Nat},KL Tryd.prog k 54 cs → KL Tryd.prog k' 54 ds → (b = true ↔ cs = ds) → Bin Tryd.prog .eql 54 (.agg cs.toArray) (.agg ds.toArray) (.bool b) ∧ Bin Tryd.prog .neq 54 (.agg cs.toArray) (.agg ds.toArray) (.bool (!b)) := fun h1 h2 hb => bins_key (m := 4) (by kernel_rfl) rfl (by kernel_rfl) (by rw [Tryd.underlying54]) h1 h2 hb
theorem fo59_0 : fieldOff Tryd.prog 59 0 = some 0 := by kernel_rfl
theorem row59 : RowT Tryd.prog 59 82 := RowT.of Tryd.underlying59 rfl (by kernel_rfl)
theorem zero59 : Zero Tryd.prog 59 [[.bool false],[.int .i64 0],bv (List.replicate 16 0),(bv (List.replicate 32 0)) ++ (bv (List.replicate 32 0))] := ⟨.agg ([[.bool false],[.int .i64 0],bv (List.replicate 16 0),(bv (List.replicate 32 0)) ++ (bv (List.replicate 32 0))] : List (List Value)).flatten.toArray,by kernel_rfl,by kernel_rfl⟩
theorem fpl59 : fldPl Tryd.prog 59 = some (plc 0 [1,1,16,64]) := by kernel_rfl
theorem kl59 : ∀ {k : Nat} {x0 : Bool} {x1 : Int} {x2 : List UInt8} {x3 : List UInt8} {x4 : List UInt8} (hx1 : (Lit.int .i64 x1).wf = true) (hx2 : x2.length = 16) (hx3 : x3.length = 32) (hx4 : x4.length = 32),KL Tryd.prog (k + 4) 59 ([[.bool x0],[.int .i64 x1],bv x2,[bv x3,bv x4].flatten].flatten) := fun {k} {x0} {x1} {x2} {x3} {x4} hx1 hx2 hx3 hx4 => KL.struct [1,1,16,64] Tryd.underlying59 (by kernel_rfl) (by kernel_rfl) (by kernel_rfl) (by simp [*]) [4,3,57,29] (by kernel_rfl) ⟨KL.bool Tryd.underlying4,KL.int Tryd.underlying3 hx1,KL.arr8 Tryd.underlying57 Tryd.underlying5 (by kernel_rfl) (by kernel_rfl) hx2,KL.struct [32,32] Tryd.underlying29 (by kernel_rfl) (by kernel_rfl) (by kernel_rfl) (by simp [*]) [23,27] (by kernel_rfl) ⟨KL.arr8 Tryd.underlying23 Tryd.underlying5 (by kernel_rfl) (by kernel_rfl) hx3,KL.arr8 Tryd.underlying27 Tryd.underlying5 (by kernel_rfl) (by kernel_rfl) hx4,trivial⟩,trivial⟩
theorem klL59 : ∀ {k : Nat} {x0 : Bool} {x1 : Int} {x2 : List UInt8} {x3 : List UInt8} {x4 : List UInt8} (hx1 : (Lit.int .i64 x1).wf = true) (hx2 : x2.length = 16) (hx3 : x3.length = 32) (hx4 : x4.length = 32),KL Tryd.prog (k + 4) 59 ([[.bool x0],[.int .i64 x1],bv x2,bv x3,bv x4] : List (List Value)).flatten := fun {k} {x0} {x1} {x2} {x3} {x4} hx1 hx2 hx3 hx4 => by
 have h := kl59 (k := k) (x0 := x0) (x1 := x1) (x2 := x2) (x3 := x3) (x4 := x4) hx1 hx2 hx3 hx4
 simpa only [List.flatten_cons,List.flatten_nil,List.append_nil,List.append_assoc] using h
theorem eqk59 : ∀ {cs ds : List Value} {b : Bool} {k k' : Nat},KL Tryd.prog k 59 cs → KL Tryd.prog k' 59 ds → (b = true ↔ cs = ds) → Bin Tryd.prog .eql 59 (.agg cs.toArray) (.agg ds.toArray) (.bool b) ∧ Bin Tryd.prog .neq 59 (.agg cs.toArray) (.agg ds.toArray) (.bool (!b)) := fun h1 h2 hb => bins_key (m := 4) (by kernel_rfl) rfl (by kernel_rfl) (by rw [Tryd.underlying59]) h1 h2 hb
theorem fo59_1 : fieldOff Tryd.prog 59 1 = some 1 := by kernel_rfl
theorem fo62_1 : fieldOff Tryd.prog 62 1 = some 2 := by kernel_rfl
theorem row55 : RowT Tryd.prog 55 132 := RowT.of Tryd.underlying55 rfl (by kernel_rfl)
theorem zeroL54 : Zero Tryd.prog 54 [[.bool false],[.int .u64 0],bv (List.replicate 32 0),bv (List.replicate 32 0)] := ⟨.agg ([[.bool false],[.int .u64 0],bv (List.replicate 32 0),bv (List.replicate 32 0)] : List (List Value)).flatten.toArray,by kernel_rfl,by kernel_rfl⟩
theorem sz54 : (Tryd.prog.info? 54).map (·.size) = some 66 := by kernel_rfl
theorem fo62_2 : fieldOff Tryd.prog 62 2 = some 134 := by kernel_rfl
theorem row60 : RowT Tryd.prog 60 328 := RowT.of Tryd.underlying60 rfl (by kernel_rfl)
theorem zeroL59 : Zero Tryd.prog 59 [[.bool false],[.int .i64 0],bv (List.replicate 16 0),bv (List.replicate 32 0),bv (List.replicate 32 0)] := ⟨.agg ([[.bool false],[.int .i64 0],bv (List.replicate 16 0),bv (List.replicate 32 0),bv (List.replicate 32 0)] : List (List Value)).flatten.toArray,by kernel_rfl,by kernel_rfl⟩
theorem sz59 : (Tryd.prog.info? 59).map (·.size) = some 82 := by kernel_rfl
theorem fo62_0 : fieldOff Tryd.prog 62 0 = some 0 := by kernel_rfl
theorem row52 : RowT Tryd.prog 52 2 := RowT.of Tryd.underlying52 rfl (by kernel_rfl)
theorem row62 : RowT Tryd.prog 62 462 := RowT.of Tryd.underlying62 rfl (by kernel_rfl)
theorem arr55 : arrT Tryd.prog 55 = some (2,66) := by kernel_rfl
theorem arr60 : arrT Tryd.prog 60 = some (4,82) := by kernel_rfl
theorem arr57 : arrT Tryd.prog 57 = some (16,1) := by kernel_rfl
theorem geocheck_c (gm : Int) (gr : Int) (w : World)  : Calls Tryd.prog 89 #[.agg ([[.int .i64 gm],[.int .i64 gr]] : List (List Value)).flatten.toArray] w fun e w' => e = .returned (.int .i64 ((if geoB gm gr then 0 else 2 : Nat) : Int)) ∧ Mem w [] w' [] := by
 have hM := Mem.start0 w
 refine ve 21 Tryd.func89 rfl rfl rfl ?_
 intro a hE
 replace hE : Env a 21 [(0,_)] := hE
 refine ww1 fun _ K1=>wpp (s_box (ss := [[.int .i64 gm],[.int .i64 gr]]) [1,1] hE hM rfl rfl (by simp [*]) rfl fun a b1 w1 hE hM=>?_)
 refine sas hE rfl fun a hE=>qa (K1 (ww1 fun _ K2=>ww1 fun _ K3=>wpp (sf hE rfl fo52_0 fun a hE=>qm hE rfl (hM.get 0 rfl) rfl one3 (by intro X h;cases h) rfl fun a hE=>?_)))
 refine sb hE rfl rfl bin_lss fun a hE=>sm hE rfl fun a hE=>?_
 refine hE.split 6 rfl (fun hb6 hE=>?_) (fun hb6 hE=>?_)
 ·replace hb6 := of_decide_eq_true hb6
  refine gt hE rfl fun a hE=>gt hE rfl fun a hE=>gt hE rfl fun a hE=>pkt hE rfl fun a hE=>sm hE rfl fun a hE=>gt hE rfl fun a hE=>gt hE rfl fun a hE=>gt hE rfl fun a hE=>pkt hE rfl fun a hE=>sm hE rfl fun a hE=>?_
  refine gt hE rfl fun a hE=>gt hE rfl fun a hE=>gt hE rfl fun a hE=>pkt hE rfl fun a hE=>qa (K3 (wct hE rfl (ww1 fun _ K4=>wpp (sas hE rfl fun a hE=>?_))))
  exact qa (K4 (wp_ret (qb (qi hE rfl rfl ⟨(congrArg (fun n : Nat => Ending.returned (Value.int .i64 (n : Int))) (by simp [geoB];omega)),hM.pick [] rfl⟩))))
 ·replace hb6 := of_decide_eq_false hb6
  refine gy hE rfl (sf hE rfl fo52_0 fun a hE=>gy hE rfl (qm hE rfl (hM.get 0 rfl) rfl one3 (by intro X h;cases h) rfl fun a hE=>?_))
  refine gy hE rfl (sb hE rfl rfl bin_gtr fun a hE=>pkf hE rfl fun a hE=>sm hE rfl fun a hE=>?_)
  refine hE.split 11 rfl (fun hb11 hE=>?_) (fun hb11 hE=>?_)
  ·replace hb11 := of_decide_eq_true hb11
   refine gt hE rfl fun a hE=>gt hE rfl fun a hE=>gt hE rfl fun a hE=>pkt hE rfl fun a hE=>sm hE rfl fun a hE=>gt hE rfl fun a hE=>gt hE rfl fun a hE=>gt hE rfl fun a hE=>pkt hE rfl fun a hE=>qa ?_
   exact K3 (wct hE rfl (ww1 fun _ K4=>wpp (sas hE rfl fun a hE=>qa (K4 (wp_ret (qb (qi hE rfl rfl ⟨(congrArg (fun n : Nat => Ending.returned (Value.int .i64 (n : Int))) (by simp [geoB];omega)),hM.pick [] rfl⟩)))))))
  ·replace hb11 := of_decide_eq_false hb11
   refine gy hE rfl (sf hE rfl fo52_1 fun a hE=>gy hE rfl (qm hE rfl (hM.get 0 rfl) rfl one3 (by intro X h;cases h) rfl fun a hE=>?_))
   refine gy hE rfl (sb hE rfl rfl bin_lss fun a hE=>pkf hE rfl fun a hE=>sm hE rfl fun a hE=>?_)
   refine hE.split 16 rfl (fun hb16 hE=>?_) (fun hb16 hE=>?_)
   ·replace hb16 := of_decide_eq_true hb16
    refine gt hE rfl fun a hE=>gt hE rfl fun a hE=>gt hE rfl fun a hE=>pkt hE rfl fun a hE=>qa (K3 (wct hE rfl (ww1 fun _ K4=>wpp (sas hE rfl fun a hE=>?_))))
    exact qa (K4 (wp_ret (qb (qi hE rfl rfl ⟨(congrArg (fun n : Nat => Ending.returned (Value.int .i64 (n : Int))) (by simp [geoB];omega)),hM.pick [] rfl⟩))))
   ·replace hb16 := of_decide_eq_false hb16
    refine gy hE rfl (sf hE rfl fo52_1 fun a hE=>gy hE rfl (qm hE rfl (hM.get 0 rfl) rfl one3 (by intro X h;cases h) rfl fun a hE=>?_))
    refine gy hE rfl (sb hE rfl rfl bin_gtr fun a hE=>pkf hE rfl fun a hE=>qa (K3 ?_))
    refine hE.split 20 rfl (fun hb20 hE=>?_) (fun hb20 hE=>?_)
    ·replace hb20 := of_decide_eq_true hb20
     exact wct hE rfl (ww1 fun _ K4=>wpp (sas hE rfl fun a hE=>qa (K4 (wp_ret (qb (qi hE rfl rfl ⟨(congrArg (fun n : Nat => Ending.returned (Value.int .i64 (n : Int))) (by simp [geoB];omega)),hM.pick [] rfl⟩))))))
    ·replace hb20 := of_decide_eq_false hb20
     exact wcf hE rfl (wp_skip (K2 (ww1 fun _ K4=>wpp (sas hE rfl fun a hE=>qa (K4 (wp_ret (qi hE rfl rfl ⟨(congrArg (fun n : Nat => Ending.returned (Value.int .i64 (n : Int))) (by simp [geoB];omega)),hM.pick [] rfl⟩)))))))
theorem rgeocheck_c (gm : Int) (gr : Int) (w : World)  : Calls Tryd.prog 86 #[.agg ([[.int .i64 gm],[.int .i64 gr]] : List (List Value)).flatten.toArray] w fun e w' => e = .returned (.int .i64 ((if geoB gm gr then 0 else 2 : Nat) : Int)) ∧ Mem w [] w' [] := by
 have hM := Mem.start0 w
 refine ve 21 Tryd.func86 rfl rfl rfl ?_
 intro a hE
 replace hE : Env a 21 [(0,_)] := hE
 refine ww1 fun _ K1=>wpp (s_box (ss := [[.int .i64 gm],[.int .i64 gr]]) [1,1] hE hM rfl rfl (by simp [*]) rfl fun a b1 w1 hE hM=>?_)
 refine sas hE rfl fun a hE=>qa (K1 (ww1 fun _ K2=>ww1 fun _ K3=>wpp (sf hE rfl fo52_0 fun a hE=>qm hE rfl (hM.get 0 rfl) rfl one3 (by intro X h;cases h) rfl fun a hE=>?_)))
 refine sb hE rfl rfl bin_geq fun a hE=>sm hE rfl fun a hE=>?_
 refine hE.split 6 rfl (fun hb6 hE=>?_) (fun hb6 hE=>?_)
 ·replace hb6 := of_decide_eq_true hb6
  refine gy hE rfl (sf hE rfl fo52_0 fun a hE=>gy hE rfl (qm hE rfl (hM.get 0 rfl) rfl one3 (by intro X h;cases h) rfl fun a hE=>?_))
  refine gy hE rfl (sb hE rfl rfl bin_leq fun a hE=>pkt hE rfl fun a hE=>sm hE rfl fun a hE=>?_)
  refine hE.split 11 rfl (fun hb11 hE=>?_) (fun hb11 hE=>?_)
  ·replace hb11 := of_decide_eq_true hb11
   refine gy hE rfl (sf hE rfl fo52_1 fun a hE=>gy hE rfl (qm hE rfl (hM.get 0 rfl) rfl one3 (by intro X h;cases h) rfl fun a hE=>?_))
   refine gy hE rfl (sb hE rfl rfl bin_geq fun a hE=>pkt hE rfl fun a hE=>sm hE rfl fun a hE=>?_)
   refine hE.split 16 rfl (fun hb16 hE=>?_) (fun hb16 hE=>?_)
   ·replace hb16 := of_decide_eq_true hb16
    refine gy hE rfl (sf hE rfl fo52_1 fun a hE=>gy hE rfl (qm hE rfl (hM.get 0 rfl) rfl one3 (by intro X h;cases h) rfl fun a hE=>?_))
    refine gy hE rfl (sb hE rfl rfl bin_leq fun a hE=>pkt hE rfl fun a hE=>qa (K3 ?_))
    refine hE.split 20 rfl (fun hb20 hE=>?_) (fun hb20 hE=>?_)
    ·replace hb20 := of_decide_eq_true hb20
     exact wct hE rfl (ww1 fun _ K4=>wpp (sas hE rfl fun a hE=>qa (K4 (wp_ret (qb (qi hE rfl rfl ⟨(congrArg (fun n : Nat => Ending.returned (Value.int .i64 (n : Int))) (by simp [geoB];omega)),hM.pick [] rfl⟩))))))
    ·replace hb20 := of_decide_eq_false hb20
     exact wcf hE rfl (wp_skip (K2 (ww1 fun _ K4=>wpp (sas hE rfl fun a hE=>qa (K4 (wp_ret (qi hE rfl rfl ⟨(congrArg (fun n : Nat => Ending.returned (Value.int .i64 (n : Int))) (by simp [geoB];omega)),hM.pick [] rfl⟩)))))))
   ·replace hb16 := of_decide_eq_false hb16
    refine gf hE rfl fun a hE=>gf hE rfl fun a hE=>gf hE rfl fun a hE=>pkf hE rfl fun a hE=>qa (K3 (wcf hE rfl (wp_skip (K2 (ww1 fun _ K4=>?_)))))
    exact wpp (sas hE rfl fun a hE=>qa (K4 (wp_ret (qi hE rfl rfl ⟨(congrArg (fun n : Nat => Ending.returned (Value.int .i64 (n : Int))) (by simp [geoB];omega)),hM.pick [] rfl⟩))))
  ·replace hb11 := of_decide_eq_false hb11
   refine gf hE rfl fun a hE=>gf hE rfl fun a hE=>gf hE rfl fun a hE=>pkf hE rfl fun a hE=>sm hE rfl fun a hE=>gf hE rfl fun a hE=>gf hE rfl fun a hE=>gf hE rfl fun a hE=>pkf hE rfl fun a hE=>qa ?_
   refine K3 (wcf hE rfl (wp_skip (K2 (ww1 fun _ K4=>wpp (sas hE rfl fun a hE=>qa (K4 (wp_ret ?_)))))))
   exact qi hE rfl rfl ⟨(congrArg (fun n : Nat => Ending.returned (Value.int .i64 (n : Int))) (by simp [geoB];omega)),hM.pick [] rfl⟩
 ·replace hb6 := of_decide_eq_false hb6
  refine gf hE rfl fun a hE=>gf hE rfl fun a hE=>gf hE rfl fun a hE=>pkf hE rfl fun a hE=>sm hE rfl fun a hE=>gf hE rfl fun a hE=>gf hE rfl fun a hE=>gf hE rfl fun a hE=>pkf hE rfl fun a hE=>sm hE rfl fun a hE=>?_
  refine gf hE rfl fun a hE=>gf hE rfl fun a hE=>gf hE rfl fun a hE=>pkf hE rfl fun a hE=>qa (K3 (wcf hE rfl (wp_skip (K2 (ww1 fun _ K4=>?_)))))
  exact wpp (sas hE rfl fun a hE=>qa (K4 (wp_ret (qi hE rfl rfl ⟨(congrArg (fun n : Nat => Ending.returned (Value.int .i64 (n : Int))) (by simp [geoB];omega)),hM.pick [] rfl⟩))))
theorem volume_c (vu : Bool) (vn : Nat) (vd : List UInt8) (vt : List UInt8) (w : World) (hl_vd : vd.length = 32) (hl_vt : vt.length = 32) : Calls Tryd.prog 87 #[.agg ([[.bool vu],[.int .u64 ((vn : Nat) : Int)],bv vd,bv vt] : List (List Value)).flatten.toArray] w fun e w' => e = .returned (.bool (volB (vu,vn,vd,vt))) ∧ Mem w [] w' [] := by
 have hM := Mem.start0 w
 refine ve 15 Tryd.func87 rfl rfl rfl ?_
 intro a hE
 replace hE : Env a 15 [(0,_)] := hE
 refine ww1 fun _ K1=>wpp ?_
 have hbl1_2 : vd.length = 32 := hl_vd
 have hbl1_3 : vt.length = 32 := hl_vt
 refine s_box (ss := [[.bool vu],[.int .u64 ((vn : Nat) : Int)],bv vd,bv vt]) [1,1,32,32] hE hM rfl rfl (by simp only [List.map_cons,List.map_nil,vh,List.length_cons,List.length_nil,List.length_replicate,hbl1_2,hbl1_3]) rfl fun a b1 w1 hE hM=>?_
 refine sas hE rfl fun a hE=>qa (K1 (ww1 fun _ K2=>wpp (sf hE rfl fo54_1 fun a hE=>qm hE rfl (hM.get 0 rfl) rfl one24 (by intro X h;cases h) rfl fun a hE=>?_)))
 refine sb hE rfl rfl bin_leq fun a hE=>sm hE rfl fun a hE=>?_
 refine hE.split 6 rfl (fun hb6 hE=>?_) (fun hb6 hE=>?_)
 ·replace hb6 := of_decide_eq_true hb6
  replace hb6 : vn ≤ 4611686018427387904 := by omega
  refine gy hE rfl (sf hE rfl fo54_0 fun a hE=>gy hE rfl (qm hE rfl (hM.get 0 rfl) rfl one4 (by intro X h;cases h) rfl fun a hE=>?_))
  refine gy hE rfl (sm hE rfl fun a hE=>?_)
  refine hE.split 9 rfl (fun hb9 hE=>?_) (fun hb9 hE=>?_)
  ·refine gt hE rfl fun a hE=>gt hE rfl fun a hE=>gt hE rfl fun a hE=>gy hE rfl (pkt hE rfl fun a hE=>pkt hE rfl fun a hE=>sas hE rfl fun a hE=>qa (K2 (wp_ret ?_)))
   exact qi hE rfl rfl ⟨(by simp [volB,volZ,hb6,hb9]),hM.pick [] rfl⟩
  ·refine gy hE rfl (ql hE rfl (hM.get 0 rfl) row54 rfl (by intro X h;cases h) rfl fun a hE=>?_)
   replace hE := hE.cast 10 rfl (show _ = Value.agg ([[.bool vu],[.int .u64 ((vn : Nat) : Int)],bv vd,bv vt] : List (List Value)).flatten.toArray from (by first | rfl | simp only [List.flatten_cons,List.flatten_nil,List.append_nil,List.append_assoc]))
   refine gy hE rfl (vf [] hE rfl zero54 (by kernel_rfl) fpl54 (by first | (simp [PartsOk,Value.cells];done) | (simp [PartsOk,Value.cells];omega)) rfl fun a hE=>?_)
   replace hE := hE.cast 11 rfl (show _ = Value.agg ([[.bool false],[.int .u64 0],bv (List.replicate 32 (0 : UInt8)),bv (List.replicate 32 (0 : UInt8))] : List (List Value)).flatten.toArray from (by first | rfl | simp [setAll] | (simp only [setAll,List.set_cons_zero,List.set_cons_succ,List.flatten_cons,List.flatten_nil,List.append_nil,List.append_assoc,List.replicate_succ,List.replicate_zero])))
   refine gy hE rfl ?_
   refine sb hE rfl rfl ((eqk54 (b := decide (vu = false ∧ (((vn : Nat) : Int) : Int) = 0 ∧ vd = (List.replicate 32 (0 : UInt8)) ∧ vt = (List.replicate 32 (0 : UInt8)))) (klL54 (k := 0) (x0 := vu) (x1 := ((vn : Nat) : Int)) (x2 := vd) (x3 := vt) (by simp [Lit.wf,IntKind.min,IntKind.max,IntKind.signed,IntKind.bits];try omega) hl_vd hl_vt) (klL54 (k := 0) (x0 := false) (x1 := 0) (x2 := List.replicate 32 (0 : UInt8)) (x3 := List.replicate 32 (0 : UInt8)) (by simp [Lit.wf,IntKind.min,IntKind.max,IntKind.signed,IntKind.bits];try omega) List.length_replicate List.length_replicate) (by rw [flat_eq (by have hl_x2 : vd.length = 32 := hl_vd;have hl_x3 : vt.length = 32 := hl_vt;have hl_y2 : (List.replicate 32 (0 : UInt8)).length = 32 := List.length_replicate;have hl_y3 : (List.replicate 32 (0 : UInt8)).length = 32 := List.length_replicate;simp only [List.map_cons,List.map_nil,vh,List.length_cons,List.length_nil,hl_x2,hl_x3,hl_y2,hl_y3])];simp [bv_iff,Int.ofNat_inj];try omega)).1) fun a hE=>?_
   exact gy hE rfl (pkf hE rfl fun a hE=>pkt hE rfl fun a hE=>sas hE rfl fun a hE=>qa (K2 (wp_ret (qi hE rfl rfl ⟨(by simp [volB,volZ,hb6,hb9]),hM.pick [] rfl⟩))))
 ·replace hb6 := of_decide_eq_false hb6
  replace hb6 : ¬ (vn ≤ 4611686018427387904) := by omega
  refine gf hE rfl fun a hE=>gf hE rfl fun a hE=>gf hE rfl fun a hE=>g_und hE rfl rfl rfl fun a hE=>g_und hE rfl rfl rfl fun a hE=>g_und hE rfl rfl rfl fun a hE=>gf hE rfl fun a hE=>pkf hE rfl fun a hE=>sas hE rfl fun a hE=>qa ?_
  exact K2 (wp_ret (qi hE rfl rfl ⟨(by simp [volB,volZ,hb6]),hM.pick [] rfl⟩))
theorem slot_c (su : Bool) (si : Int) (sa : List UInt8) (sd : List UInt8) (st : List UInt8) (w : World) (hl_sa : sa.length = 16) (hl_sd : sd.length = 32) (hl_st : st.length = 32) (hi : In64 si) : Calls Tryd.prog 88 #[.agg ([[.bool su],[.int .i64 si],bv sa,bv sd,bv st] : List (List Value)).flatten.toArray] w fun e w' => e = .returned (.bool (slotB (su,si,sa,sd,st))) ∧ Mem w [] w' [] := by
 have hM := Mem.start0 w
 refine ve 12 Tryd.func88 rfl rfl rfl ?_
 intro a hE
 replace hE : Env a 12 [(0,_)] := hE
 refine ww1 fun _ K1=>wpp ?_
 have hbl1_2 : sa.length = 16 := hl_sa
 have hbl1_3 : sd.length = 32 := hl_sd
 have hbl1_4 : st.length = 32 := hl_st
 refine s_box (ss := [[.bool su],[.int .i64 si],bv sa,bv sd,bv st]) [1,1,16,32,32] hE hM rfl rfl (by simp only [List.map_cons,List.map_nil,vh,List.length_cons,List.length_nil,List.length_replicate,hbl1_2,hbl1_3,hbl1_4]) rfl fun a b1 w1 hE hM=>?_
 refine sas hE rfl fun a hE=>qa (K1 (ww1 fun _ K2=>ww1 fun _ K3=>wpp (sf hE rfl fo59_0 fun a hE=>qm hE rfl (hM.get 0 rfl) rfl one4 (by intro X h;cases h) rfl fun a hE=>?_)))
 refine s_not hE rfl rfl fun a hE=>qa (K3 ?_)
 refine hE.split 5 rfl (fun hb5 hE=>?_) (fun hb5 hE=>?_)
 ·replace hb5 := not_true hb5
  refine wct hE rfl (ww1 fun _ K4=>wpp (ql hE rfl (hM.get 0 rfl) row59 rfl (by intro X h;cases h) rfl fun a hE=>?_))
  replace hE := hE.cast 6 rfl (show _ = Value.agg ([[.bool su],[.int .i64 si],bv sa,bv sd,bv st] : List (List Value)).flatten.toArray from (by first | rfl | simp only [List.flatten_cons,List.flatten_nil,List.append_nil,List.append_assoc]))
  refine vf [] hE rfl zero59 (by kernel_rfl) fpl59 (by first | (simp [PartsOk,Value.cells];done) | (simp [PartsOk,Value.cells];omega)) rfl fun a hE=>?_
  replace hE := hE.cast 7 rfl (show _ = Value.agg ([[.bool false],[.int .i64 0],bv (List.replicate 16 (0 : UInt8)),bv (List.replicate 32 (0 : UInt8)),bv (List.replicate 32 (0 : UInt8))] : List (List Value)).flatten.toArray from (by first | rfl | simp [setAll] | (simp only [setAll,List.set_cons_zero,List.set_cons_succ,List.flatten_cons,List.flatten_nil,List.append_nil,List.append_assoc,List.replicate_succ,List.replicate_zero])))
  refine sb hE rfl rfl ((eqk59 (b := decide (su = false ∧ (si : Int) = 0 ∧ sa = (List.replicate 16 (0 : UInt8)) ∧ sd = (List.replicate 32 (0 : UInt8)) ∧ st = (List.replicate 32 (0 : UInt8)))) (klL59 (k := 0) (x0 := su) (x1 := si) (x2 := sa) (x3 := sd) (x4 := st) (by first | exact wf_i64 hi | (simp [Lit.wf,IntKind.min,IntKind.max,IntKind.signed,IntKind.bits];try omega)) hl_sa hl_sd hl_st) (klL59 (k := 0) (x0 := false) (x1 := 0) (x2 := List.replicate 16 (0 : UInt8)) (x3 := List.replicate 32 (0 : UInt8)) (x4 := List.replicate 32 (0 : UInt8)) (by first | exact wf_i64 hi | (simp [Lit.wf,IntKind.min,IntKind.max,IntKind.signed,IntKind.bits];try omega)) List.length_replicate List.length_replicate List.length_replicate) (by rw [flat_eq (by have hl_x2 : sa.length = 16 := hl_sa;have hl_x3 : sd.length = 32 := hl_sd;have hl_x4 : st.length = 32 := hl_st;have hl_y2 : (List.replicate 16 (0 : UInt8)).length = 16 := List.length_replicate;have hl_y3 : (List.replicate 32 (0 : UInt8)).length = 32 := List.length_replicate;have hl_y4 : (List.replicate 32 (0 : UInt8)).length = 32 := List.length_replicate;simp only [List.map_cons,List.map_nil,vh,List.length_cons,List.length_nil,hl_x2,hl_x3,hl_x4,hl_y2,hl_y3,hl_y4])];simp [bv_iff,Int.ofNat_inj];try omega)).1) fun a hE=>?_
  exact sas hE rfl fun a hE=>qa (K4 (wp_ret (qb (qi hE rfl rfl ⟨(by simp [slotB,slotZ,hb5]),hM.pick [] rfl⟩))))
 ·replace hb5 := not_false' hb5
  refine wcf hE rfl (wp_skip (K2 (ww1 fun _ K4=>wpp (sf hE rfl fo59_1 fun a hE=>qm hE rfl (hM.get 0 rfl) rfl one3 (by intro X h;cases h) rfl fun a hE=>?_))))
  exact sb hE rfl rfl bin_geq fun a hE=>sas hE rfl fun a hE=>qa (K4 (wp_ret (qi hE rfl rfl ⟨(by simp [slotB,slotZ,hb5]),hM.pick [] rfl⟩)))
theorem shaped_c (h : Hd) (w : World) (hk : OkHd h) : Calls Tryd.prog 74 #[.agg ([[.int .i64 h.m],[.int .i64 h.r],[.bool h.v0.1],[.int .u64 ((h.v0.2.1 : Nat) : Int)],bv h.v0.2.2.1,bv h.v0.2.2.2,[.bool h.v1.1],[.int .u64 ((h.v1.2.1 : Nat) : Int)],bv h.v1.2.2.1,bv h.v1.2.2.2,[.bool h.s0.1],[.int .i64 h.s0.2.1],bv h.s0.2.2.1,bv h.s0.2.2.2.1,bv h.s0.2.2.2.2,[.bool h.s1.1],[.int .i64 h.s1.2.1],bv h.s1.2.2.1,bv h.s1.2.2.2.1,bv h.s1.2.2.2.2,[.bool h.s2.1],[.int .i64 h.s2.2.1],bv h.s2.2.2.1,bv h.s2.2.2.2.1,bv h.s2.2.2.2.2,[.bool h.s3.1],[.int .i64 h.s3.2.1],bv h.s3.2.2.1,bv h.s3.2.2.2.1,bv h.s3.2.2.2.2] : List (List Value)).flatten.toArray] w fun e w' => e = .returned (.bool (shapedB h)) ∧ Mem w [] w' [] := by
 have hi0 := hk.s0.1
 have hi1 := hk.s1.1
 have hi2 := hk.s2.1
 have hi3 := hk.s3.1
 have hn0 := hk.v0.1
 have hn1 := hk.v1.1
 have hM := Mem.start0 w
 refine ve 29 Tryd.func74 rfl rfl rfl ?_
 intro a hE
 replace hE : Env a 29 [(0,_)] := hE
 refine ww1 fun _ K1=>wpp ?_
 have hbl1_4 : h.v0.2.2.1.length = 32 := hk.v0.2.1
 have hbl1_5 : h.v0.2.2.2.length = 32 := hk.v0.2.2
 have hbl1_8 : h.v1.2.2.1.length = 32 := hk.v1.2.1
 have hbl1_9 : h.v1.2.2.2.length = 32 := hk.v1.2.2
 have hbl1_12 : h.s0.2.2.1.length = 16 := hk.s0.2.1
 have hbl1_13 : h.s0.2.2.2.1.length = 32 := hk.s0.2.2.1
 have hbl1_14 : h.s0.2.2.2.2.length = 32 := hk.s0.2.2.2
 have hbl1_17 : h.s1.2.2.1.length = 16 := hk.s1.2.1
 have hbl1_18 : h.s1.2.2.2.1.length = 32 := hk.s1.2.2.1
 have hbl1_19 : h.s1.2.2.2.2.length = 32 := hk.s1.2.2.2
 have hbl1_22 : h.s2.2.2.1.length = 16 := hk.s2.2.1
 have hbl1_23 : h.s2.2.2.2.1.length = 32 := hk.s2.2.2.1
 have hbl1_24 : h.s2.2.2.2.2.length = 32 := hk.s2.2.2.2
 have hbl1_27 : h.s3.2.2.1.length = 16 := hk.s3.2.1
 have hbl1_28 : h.s3.2.2.2.1.length = 32 := hk.s3.2.2.1
 have hbl1_29 : h.s3.2.2.2.2.length = 32 := hk.s3.2.2.2
 refine s_box (ss := [[.int .i64 h.m],[.int .i64 h.r],[.bool h.v0.1],[.int .u64 ((h.v0.2.1 : Nat) : Int)],bv h.v0.2.2.1,bv h.v0.2.2.2,[.bool h.v1.1],[.int .u64 ((h.v1.2.1 : Nat) : Int)],bv h.v1.2.2.1,bv h.v1.2.2.2,[.bool h.s0.1],[.int .i64 h.s0.2.1],bv h.s0.2.2.1,bv h.s0.2.2.2.1,bv h.s0.2.2.2.2,[.bool h.s1.1],[.int .i64 h.s1.2.1],bv h.s1.2.2.1,bv h.s1.2.2.2.1,bv h.s1.2.2.2.2,[.bool h.s2.1],[.int .i64 h.s2.2.1],bv h.s2.2.2.1,bv h.s2.2.2.2.1,bv h.s2.2.2.2.2,[.bool h.s3.1],[.int .i64 h.s3.2.1],bv h.s3.2.2.1,bv h.s3.2.2.2.1,bv h.s3.2.2.2.2]) [1,1,1,1,32,32,1,1,32,32,1,1,16,32,32,1,1,16,32,32,1,1,16,32,32,1,1,16,32,32] hE hM rfl rfl (by simp only [List.map_cons,List.map_nil,vh,List.length_cons,List.length_nil,List.length_replicate,hbl1_4,hbl1_5,hbl1_8,hbl1_9,hbl1_12,hbl1_13,hbl1_14,hbl1_17,hbl1_18,hbl1_19,hbl1_22,hbl1_23,hbl1_24,hbl1_27,hbl1_28,hbl1_29]) rfl fun a b1 w1 hE hM=>?_
 refine sas hE rfl fun a hE=>qa (K1 (ww1 fun _ K2=>ww1 fun _ K3=>wpp (sf hE rfl fo62_1 fun a hE=>ql hE rfl (hM.get 0 rfl) row55 rfl (by intro X h;cases h) rfl fun a hE=>?_)))
 replace hE := hE.cast 8 rfl (show _ = Value.agg ([[.bool h.v0.1],[.int .u64 ((h.v0.2.1 : Nat) : Int)],bv h.v0.2.2.1,bv h.v0.2.2.2,[.bool h.v1.1],[.int .u64 ((h.v1.2.1 : Nat) : Int)],bv h.v1.2.2.1,bv h.v1.2.2.2] : List (List Value)).flatten.toArray from (by first | rfl | simp only [List.flatten_cons,List.flatten_nil,List.append_nil,List.append_assoc]))
 refine sm hE rfl fun a hE=>qa (K3 (wp_block (wp_loop_rounds 3 (c_rounds (ww1 fun _ K4=>wpp (sb hE rfl rfl bin_lss fun a hE=>?_))))))
 replace hE := hE.cast 10 rfl (show _ = Value.bool true from (congrArg Value.bool (by decide)))
 refine qa (K4 (ww1 fun _ K5=>wct hE rfl (wp_skip (K5 (ww1 fun _ K6=>wp_block (ww1 fun _ K7=>wpp ?_))))))
 have hil60_2 : h.v0.2.2.1.length = 32 := hk.v0.2.1
 have hil60_3 : h.v0.2.2.2.length = 32 := hk.v0.2.2
 have hil60_6 : h.v1.2.2.1.length = 32 := hk.v1.2.1
 have hil60_7 : h.v1.2.2.2.length = 32 := hk.v1.2.2
 refine s_indexAgg (j := 0) hE rfl rfl Tryd.underlying55 row54 rfl (by decide) rfl fun a hE=>?_
 replace hE := hE.cast 11 rfl (show _ = Value.agg ([[.bool h.v0.1],[.int .u64 ((h.v0.2.1 : Nat) : Int)],bv h.v0.2.2.1,bv h.v0.2.2.2] : List (List Value)).flatten.toArray from congrArg (fun l : List Value => Value.agg l.toArray) (flat_seg (ps := []) (qs := [[.bool h.v0.1],[.int .u64 ((h.v0.2.1 : Nat) : Int)],bv h.v0.2.2.1,bv h.v0.2.2.2]) (rs := [[.bool h.v1.1],[.int .u64 ((h.v1.2.1 : Nat) : Int)],bv h.v1.2.2.1,bv h.v1.2.2.2]) (by simp only [List.map_cons,List.map_nil,vh,List.length_cons,List.length_nil,List.length_replicate,hil60_2,hil60_3,hil60_6,hil60_7];rfl) (by simp only [List.map_cons,List.map_nil,vh,List.length_cons,List.length_nil,List.length_replicate,hil60_2,hil60_3,hil60_6,hil60_7];rfl)))
 refine qo [1,1,32,32] hE hM zeroL54 rfl rfl fun a b4 w2 hE hM=>?_
 have hsl68_2 : h.v0.2.2.1.length = 32 := hk.v0.2.1
 have hsl68_3 : h.v0.2.2.2.length = 32 := hk.v0.2.2
 refine qq 0 4 (vss := [[.bool h.v0.1],[.int .u64 ((h.v0.2.1 : Nat) : Int)],bv h.v0.2.2.1,bv h.v0.2.2.2]) hE rfl rfl hM rfl sz54 (by simp only [List.take_succ_cons,List.take_zero,List.drop_zero,List.drop_succ_cons];simp only [List.map_cons,List.map_nil,vh,List.length_cons,List.length_nil,List.length_replicate,hsl68_2,hsl68_3]) (by decide) rfl (one_fl ⟨one1 rfl,one1 rfl,vc _,vc _,trivial⟩) rfl (by intro X h;cases h) fun w3 hM=>?_
 try simp only [List.take_zero,List.take_succ_cons,List.drop_zero,List.drop_succ_cons,List.take_nil,List.drop_nil,List.nil_append,List.append_nil,List.cons_append] at hM
 refine qa (K7 (ww1 fun _ K8=>wpp (ql hE rfl (hM.get 0 rfl) row54 rfl (by intro X h;cases h) rfl fun a hE=>?_)))
 replace hE := hE.cast 12 rfl (show _ = Value.agg ([[.bool h.v0.1],[.int .u64 ((h.v0.2.1 : Nat) : Int)],bv h.v0.2.2.1,bv h.v0.2.2.2] : List (List Value)).flatten.toArray from (by first | rfl | simp only [List.flatten_cons,List.flatten_nil,List.append_nil,List.append_assoc]))
 refine qn hE rfl Tryd.call87 (volume_c h.v0.1 h.v0.2.1 h.v0.2.2.1 h.v0.2.2.2 _ hk.v0.2.1 hk.v0.2.2) rfl ?_
 rintro e w4 ⟨rfl,hN⟩
 refine ⟨_,rfl,trivial,fun a hE=>?_⟩
 replace hM : Mem _ _ w4 [_,_] := hM.call0 hN trivial;clear hN
 refine s_not hE rfl rfl fun a hE=>qa (K8 ?_)
 refine hE.split 14 rfl (fun hb14 hE=>?_) (fun hb14 hE=>?_)
 ·replace hb14 := not_true hb14
  refine wct hE rfl (ww1 fun _ K9=>wpp (sas hE rfl fun a hE=>qa (K9 (wp_ret (qf (qb (qb ?_)))))))
  exact qf (qb (qi hE rfl rfl ⟨(by simp [shapedB,hb14];try (cases geoB h.m h.r <;> simp)),hM.pick [] rfl⟩))
 ·replace hb14 := not_false' hb14
  refine wcf hE rfl (wp_skip (qe (K6 (wpp (sb hE rfl rfl (show Bin _ _ _ _ _ (.int .i64 1) from bin_add (by rw [wrap_i64 (by omega) (by omega)];omega)) fun a hE=>?_)))))
  refine sm hE rfl fun a hE=>qa ?_
  replace hM : Mem _ _ w4 [_,_] := hM.pick [0,1] rfl
  refine qd (c_rounds (ww1 fun _ K9=>wpp (sb hE rfl rfl bin_lss fun a hE=>?_)))
  replace hE := hE.cast 10 rfl (show _ = Value.bool true from (congrArg Value.bool (by decide)))
  refine qa (K9 (ww1 fun _ K10=>wct hE rfl (wp_skip (K10 (ww1 fun _ K11=>wp_block (ww1 fun _ K12=>wpp ?_))))))
  have hil131_2 : h.v0.2.2.1.length = 32 := hk.v0.2.1
  have hil131_3 : h.v0.2.2.2.length = 32 := hk.v0.2.2
  have hil131_6 : h.v1.2.2.1.length = 32 := hk.v1.2.1
  have hil131_7 : h.v1.2.2.2.length = 32 := hk.v1.2.2
  refine s_indexAgg (j := 1) hE rfl rfl Tryd.underlying55 row54 rfl (by decide) rfl fun a hE=>?_
  replace hE := hE.cast 11 rfl (show _ = Value.agg ([[.bool h.v1.1],[.int .u64 ((h.v1.2.1 : Nat) : Int)],bv h.v1.2.2.1,bv h.v1.2.2.2] : List (List Value)).flatten.toArray from congrArg (fun l : List Value => Value.agg l.toArray) (flat_seg (ps := [[.bool h.v0.1],[.int .u64 ((h.v0.2.1 : Nat) : Int)],bv h.v0.2.2.1,bv h.v0.2.2.2]) (qs := [[.bool h.v1.1],[.int .u64 ((h.v1.2.1 : Nat) : Int)],bv h.v1.2.2.1,bv h.v1.2.2.2]) (rs := []) (by simp only [List.map_cons,List.map_nil,vh,List.length_cons,List.length_nil,List.length_replicate,hil131_2,hil131_3,hil131_6,hil131_7];rfl) (by simp only [List.map_cons,List.map_nil,vh,List.length_cons,List.length_nil,List.length_replicate,hil131_2,hil131_3,hil131_6,hil131_7];rfl)))
  refine qo [1,1,32,32] hE hM zeroL54 rfl rfl fun a b4 w5 hE hM=>?_
  have hsl139_2 : h.v1.2.2.1.length = 32 := hk.v1.2.1
  have hsl139_3 : h.v1.2.2.2.length = 32 := hk.v1.2.2
  replace hM : Mem _ _ w5 [_,_] := hM.pick [0,2] rfl
  refine qq 0 4 (vss := [[.bool h.v1.1],[.int .u64 ((h.v1.2.1 : Nat) : Int)],bv h.v1.2.2.1,bv h.v1.2.2.2]) hE rfl rfl hM rfl sz54 (by simp only [List.take_succ_cons,List.take_zero,List.drop_zero,List.drop_succ_cons];simp only [List.map_cons,List.map_nil,vh,List.length_cons,List.length_nil,List.length_replicate,hsl139_2,hsl139_3]) (by decide) rfl (one_fl ⟨one1 rfl,one1 rfl,vc _,vc _,trivial⟩) rfl (by intro X h;cases h) fun w6 hM=>?_
  try simp only [List.take_zero,List.take_succ_cons,List.drop_zero,List.drop_succ_cons,List.take_nil,List.drop_nil,List.nil_append,List.append_nil,List.cons_append] at hM
  refine qa (K12 (ww1 fun _ K13=>wpp (ql hE rfl (hM.get 0 rfl) row54 rfl (by intro X h;cases h) rfl fun a hE=>?_)))
  replace hE := hE.cast 12 rfl (show _ = Value.agg ([[.bool h.v1.1],[.int .u64 ((h.v1.2.1 : Nat) : Int)],bv h.v1.2.2.1,bv h.v1.2.2.2] : List (List Value)).flatten.toArray from (by first | rfl | simp only [List.flatten_cons,List.flatten_nil,List.append_nil,List.append_assoc]))
  refine qn hE rfl Tryd.call87 (volume_c h.v1.1 h.v1.2.1 h.v1.2.2.1 h.v1.2.2.2 _ hk.v1.2.1 hk.v1.2.2) rfl ?_
  rintro e w7 ⟨rfl,hN⟩
  refine ⟨_,rfl,trivial,fun a hE=>?_⟩
  replace hM : Mem _ _ w7 [_,_] := hM.call0 hN trivial;clear hN
  refine s_not hE rfl rfl fun a hE=>qa (K13 ?_)
  refine hE.split 14 rfl (fun hb14' hE=>?_) (fun hb14' hE=>?_)
  ·replace hb14' := not_true hb14'
   refine wct hE rfl (ww1 fun _ K14=>wpp (sas hE rfl fun a hE=>qa (K14 (wp_ret (qf (qb (qb ?_)))))))
   exact qf (qb (qi hE rfl rfl ⟨(by simp [shapedB,hb14,hb14'];try (cases geoB h.m h.r <;> simp)),hM.pick [] rfl⟩))
  ·replace hb14' := not_false' hb14'
   refine wcf hE rfl (wp_skip (qe (K11 (wpp (sb hE rfl rfl (show Bin _ _ _ _ _ (.int .i64 2) from bin_add (by rw [wrap_i64 (by omega) (by omega)];omega)) fun a hE=>?_)))))
   refine sm hE rfl fun a hE=>qa ?_
   replace hM : Mem _ _ w7 [_,_] := hM.pick [0,1] rfl
   refine qd (c_rounds (ww1 fun _ K14=>wpp (sb hE rfl rfl bin_lss fun a hE=>?_)))
   replace hE := hE.cast 10 rfl (show _ = Value.bool false from (congrArg Value.bool (by decide)))
   refine qa (K14 (ww1 fun _ K15=>wcf hE rfl (wp_exit (qc (qc (qg (K2 (ww1 fun _ K16=>?_))))))))
   refine ww1 fun _ K17=>wpp (sf hE rfl fo62_2 fun a hE=>ql hE rfl (hM.get 1 rfl) row60 rfl (by intro X h;cases h) rfl fun a hE=>?_)
   replace hE := hE.cast 17 rfl (show _ = Value.agg ([[.bool h.s0.1],[.int .i64 h.s0.2.1],bv h.s0.2.2.1,bv h.s0.2.2.2.1,bv h.s0.2.2.2.2,[.bool h.s1.1],[.int .i64 h.s1.2.1],bv h.s1.2.2.1,bv h.s1.2.2.2.1,bv h.s1.2.2.2.2,[.bool h.s2.1],[.int .i64 h.s2.2.1],bv h.s2.2.2.1,bv h.s2.2.2.2.1,bv h.s2.2.2.2.2,[.bool h.s3.1],[.int .i64 h.s3.2.1],bv h.s3.2.2.1,bv h.s3.2.2.2.1,bv h.s3.2.2.2.2] : List (List Value)).flatten.toArray from (by first | rfl | simp only [List.flatten_cons,List.flatten_nil,List.append_nil,List.append_assoc]))
   refine sm hE rfl fun a hE=>qa (K17 (wp_block (wp_loop_rounds 5 (c_rounds (ww1 fun _ K18=>wpp (sb hE rfl rfl bin_lss fun a hE=>?_))))))
   replace hE := hE.cast 19 rfl (show _ = Value.bool true from (congrArg Value.bool (by decide)))
   refine qa (K18 (ww1 fun _ K19=>wct hE rfl (wp_skip (K19 (ww1 fun _ K20=>wp_block (ww1 fun _ K21=>wpp ?_))))))
   have hil228_2 : h.s0.2.2.1.length = 16 := hk.s0.2.1
   have hil228_3 : h.s0.2.2.2.1.length = 32 := hk.s0.2.2.1
   have hil228_4 : h.s0.2.2.2.2.length = 32 := hk.s0.2.2.2
   have hil228_7 : h.s1.2.2.1.length = 16 := hk.s1.2.1
   have hil228_8 : h.s1.2.2.2.1.length = 32 := hk.s1.2.2.1
   have hil228_9 : h.s1.2.2.2.2.length = 32 := hk.s1.2.2.2
   have hil228_12 : h.s2.2.2.1.length = 16 := hk.s2.2.1
   have hil228_13 : h.s2.2.2.2.1.length = 32 := hk.s2.2.2.1
   have hil228_14 : h.s2.2.2.2.2.length = 32 := hk.s2.2.2.2
   have hil228_17 : h.s3.2.2.1.length = 16 := hk.s3.2.1
   have hil228_18 : h.s3.2.2.2.1.length = 32 := hk.s3.2.2.1
   have hil228_19 : h.s3.2.2.2.2.length = 32 := hk.s3.2.2.2
   refine s_indexAgg (j := 0) hE rfl rfl Tryd.underlying60 row59 rfl (by decide) rfl fun a hE=>?_
   replace hE := hE.cast 20 rfl (show _ = Value.agg ([[.bool h.s0.1],[.int .i64 h.s0.2.1],bv h.s0.2.2.1,bv h.s0.2.2.2.1,bv h.s0.2.2.2.2] : List (List Value)).flatten.toArray from congrArg (fun l : List Value => Value.agg l.toArray) (flat_seg (ps := []) (qs := [[.bool h.s0.1],[.int .i64 h.s0.2.1],bv h.s0.2.2.1,bv h.s0.2.2.2.1,bv h.s0.2.2.2.2]) (rs := [[.bool h.s1.1],[.int .i64 h.s1.2.1],bv h.s1.2.2.1,bv h.s1.2.2.2.1,bv h.s1.2.2.2.2,[.bool h.s2.1],[.int .i64 h.s2.2.1],bv h.s2.2.2.1,bv h.s2.2.2.2.1,bv h.s2.2.2.2.2,[.bool h.s3.1],[.int .i64 h.s3.2.1],bv h.s3.2.2.1,bv h.s3.2.2.2.1,bv h.s3.2.2.2.2]) (by simp only [List.map_cons,List.map_nil,vh,List.length_cons,List.length_nil,List.length_replicate,hil228_2,hil228_3,hil228_4,hil228_7,hil228_8,hil228_9,hil228_12,hil228_13,hil228_14,hil228_17,hil228_18,hil228_19];rfl) (by simp only [List.map_cons,List.map_nil,vh,List.length_cons,List.length_nil,List.length_replicate,hil228_2,hil228_3,hil228_4,hil228_7,hil228_8,hil228_9,hil228_12,hil228_13,hil228_14,hil228_17,hil228_18,hil228_19];rfl)))
   refine qo [1,1,16,32,32] hE hM zeroL59 rfl rfl fun a b6 w8 hE hM=>?_
   have hsl244_2 : h.s0.2.2.1.length = 16 := hk.s0.2.1
   have hsl244_3 : h.s0.2.2.2.1.length = 32 := hk.s0.2.2.1
   have hsl244_4 : h.s0.2.2.2.2.length = 32 := hk.s0.2.2.2
   refine qq 0 5 (vss := [[.bool h.s0.1],[.int .i64 h.s0.2.1],bv h.s0.2.2.1,bv h.s0.2.2.2.1,bv h.s0.2.2.2.2]) hE rfl rfl hM rfl sz59 (by simp only [List.take_succ_cons,List.take_zero,List.drop_zero,List.drop_succ_cons];simp only [List.map_cons,List.map_nil,vh,List.length_cons,List.length_nil,List.length_replicate,hsl244_2,hsl244_3,hsl244_4]) (by decide) rfl (one_fl ⟨one1 rfl,one1 rfl,vc _,vc _,vc _,trivial⟩) rfl (by intro X h;cases h) fun w9 hM=>?_
   try simp only [List.take_zero,List.take_succ_cons,List.drop_zero,List.drop_succ_cons,List.take_nil,List.drop_nil,List.nil_append,List.append_nil,List.cons_append] at hM
   refine qa (K21 (ww1 fun _ K22=>wpp (ql hE rfl (hM.get 0 rfl) row59 rfl (by intro X h;cases h) rfl fun a hE=>?_)))
   replace hE := hE.cast 21 rfl (show _ = Value.agg ([[.bool h.s0.1],[.int .i64 h.s0.2.1],bv h.s0.2.2.1,bv h.s0.2.2.2.1,bv h.s0.2.2.2.2] : List (List Value)).flatten.toArray from (by first | rfl | simp only [List.flatten_cons,List.flatten_nil,List.append_nil,List.append_assoc]))
   refine qn hE rfl Tryd.call88 (slot_c h.s0.1 h.s0.2.1 h.s0.2.2.1 h.s0.2.2.2.1 h.s0.2.2.2.2 _ hk.s0.2.1 hk.s0.2.2.1 hk.s0.2.2.2 (by have hl_0sa : h.s0.2.2.1.length = 16 := hk.s0.2.1;have hl_0sd : h.s0.2.2.2.1.length = 32 := hk.s0.2.2.1;have hl_0st : h.s0.2.2.2.2.length = 32 := hk.s0.2.2.2;first | omega | assumption | (simp;done) | (simp;omega) | decide)) rfl ?_
   rintro e w10 ⟨rfl,hN⟩
   refine ⟨_,rfl,trivial,fun a hE=>?_⟩
   replace hM : Mem _ _ w10 [_,_,_] := hM.call0 hN trivial;clear hN
   refine s_not hE rfl rfl fun a hE=>qa (K22 ?_)
   refine hE.split 23 rfl (fun hb23 hE=>?_) (fun hb23 hE=>?_)
   ·replace hb23 := not_true hb23
    refine wct hE rfl (ww1 fun _ K23=>wpp (sas hE rfl fun a hE=>qa (K23 (wp_ret (qf (qb (qb ?_)))))))
    exact qf (qb (qi hE rfl rfl ⟨(by simp [shapedB,hb14,hb14',hb23];try (cases geoB h.m h.r <;> simp)),hM.pick [] rfl⟩))
   ·replace hb23 := not_false' hb23
    refine wcf hE rfl (wp_skip (qe (K20 (wpp (sb hE rfl rfl (show Bin _ _ _ _ _ (.int .i64 1) from bin_add (by rw [wrap_i64 (by omega) (by omega)];omega)) fun a hE=>?_)))))
    refine sm hE rfl fun a hE=>qa ?_
    replace hM : Mem _ _ w10 [_,_,_] := hM.pick [0,1,2] rfl
    refine qd (c_rounds (ww1 fun _ K23=>wpp (sb hE rfl rfl bin_lss fun a hE=>?_)))
    replace hE := hE.cast 19 rfl (show _ = Value.bool true from (congrArg Value.bool (by decide)))
    refine qa (K23 (ww1 fun _ K24=>wct hE rfl (wp_skip (K24 (ww1 fun _ K25=>wp_block (ww1 fun _ K26=>wpp ?_))))))
    have hil308_2 : h.s0.2.2.1.length = 16 := hk.s0.2.1
    have hil308_3 : h.s0.2.2.2.1.length = 32 := hk.s0.2.2.1
    have hil308_4 : h.s0.2.2.2.2.length = 32 := hk.s0.2.2.2
    have hil308_7 : h.s1.2.2.1.length = 16 := hk.s1.2.1
    have hil308_8 : h.s1.2.2.2.1.length = 32 := hk.s1.2.2.1
    have hil308_9 : h.s1.2.2.2.2.length = 32 := hk.s1.2.2.2
    have hil308_12 : h.s2.2.2.1.length = 16 := hk.s2.2.1
    have hil308_13 : h.s2.2.2.2.1.length = 32 := hk.s2.2.2.1
    have hil308_14 : h.s2.2.2.2.2.length = 32 := hk.s2.2.2.2
    have hil308_17 : h.s3.2.2.1.length = 16 := hk.s3.2.1
    have hil308_18 : h.s3.2.2.2.1.length = 32 := hk.s3.2.2.1
    have hil308_19 : h.s3.2.2.2.2.length = 32 := hk.s3.2.2.2
    refine s_indexAgg (j := 1) hE rfl rfl Tryd.underlying60 row59 rfl (by decide) rfl fun a hE=>?_
    replace hE := hE.cast 20 rfl (show _ = Value.agg ([[.bool h.s1.1],[.int .i64 h.s1.2.1],bv h.s1.2.2.1,bv h.s1.2.2.2.1,bv h.s1.2.2.2.2] : List (List Value)).flatten.toArray from congrArg (fun l : List Value => Value.agg l.toArray) (flat_seg (ps := [[.bool h.s0.1],[.int .i64 h.s0.2.1],bv h.s0.2.2.1,bv h.s0.2.2.2.1,bv h.s0.2.2.2.2]) (qs := [[.bool h.s1.1],[.int .i64 h.s1.2.1],bv h.s1.2.2.1,bv h.s1.2.2.2.1,bv h.s1.2.2.2.2]) (rs := [[.bool h.s2.1],[.int .i64 h.s2.2.1],bv h.s2.2.2.1,bv h.s2.2.2.2.1,bv h.s2.2.2.2.2,[.bool h.s3.1],[.int .i64 h.s3.2.1],bv h.s3.2.2.1,bv h.s3.2.2.2.1,bv h.s3.2.2.2.2]) (by simp only [List.map_cons,List.map_nil,vh,List.length_cons,List.length_nil,List.length_replicate,hil308_2,hil308_3,hil308_4,hil308_7,hil308_8,hil308_9,hil308_12,hil308_13,hil308_14,hil308_17,hil308_18,hil308_19];rfl) (by simp only [List.map_cons,List.map_nil,vh,List.length_cons,List.length_nil,List.length_replicate,hil308_2,hil308_3,hil308_4,hil308_7,hil308_8,hil308_9,hil308_12,hil308_13,hil308_14,hil308_17,hil308_18,hil308_19];rfl)))
    refine qo [1,1,16,32,32] hE hM zeroL59 rfl rfl fun a b6 w11 hE hM=>?_
    have hsl324_2 : h.s1.2.2.1.length = 16 := hk.s1.2.1
    have hsl324_3 : h.s1.2.2.2.1.length = 32 := hk.s1.2.2.1
    have hsl324_4 : h.s1.2.2.2.2.length = 32 := hk.s1.2.2.2
    replace hM : Mem _ _ w11 [_,_,_] := hM.pick [0,2,3] rfl
    refine qq 0 5 (vss := [[.bool h.s1.1],[.int .i64 h.s1.2.1],bv h.s1.2.2.1,bv h.s1.2.2.2.1,bv h.s1.2.2.2.2]) hE rfl rfl hM rfl sz59 (by simp only [List.take_succ_cons,List.take_zero,List.drop_zero,List.drop_succ_cons];simp only [List.map_cons,List.map_nil,vh,List.length_cons,List.length_nil,List.length_replicate,hsl324_2,hsl324_3,hsl324_4]) (by decide) rfl (one_fl ⟨one1 rfl,one1 rfl,vc _,vc _,vc _,trivial⟩) rfl (by intro X h;cases h) fun w12 hM=>?_
    try simp only [List.take_zero,List.take_succ_cons,List.drop_zero,List.drop_succ_cons,List.take_nil,List.drop_nil,List.nil_append,List.append_nil,List.cons_append] at hM
    refine qa (K26 (ww1 fun _ K27=>wpp (ql hE rfl (hM.get 0 rfl) row59 rfl (by intro X h;cases h) rfl fun a hE=>?_)))
    replace hE := hE.cast 21 rfl (show _ = Value.agg ([[.bool h.s1.1],[.int .i64 h.s1.2.1],bv h.s1.2.2.1,bv h.s1.2.2.2.1,bv h.s1.2.2.2.2] : List (List Value)).flatten.toArray from (by first | rfl | simp only [List.flatten_cons,List.flatten_nil,List.append_nil,List.append_assoc]))
    refine qn hE rfl Tryd.call88 (slot_c h.s1.1 h.s1.2.1 h.s1.2.2.1 h.s1.2.2.2.1 h.s1.2.2.2.2 _ hk.s1.2.1 hk.s1.2.2.1 hk.s1.2.2.2 (by have hl_0sa : h.s1.2.2.1.length = 16 := hk.s1.2.1;have hl_0sd : h.s1.2.2.2.1.length = 32 := hk.s1.2.2.1;have hl_0st : h.s1.2.2.2.2.length = 32 := hk.s1.2.2.2;first | omega | assumption | (simp;done) | (simp;omega) | decide)) rfl ?_
    rintro e w13 ⟨rfl,hN⟩
    refine ⟨_,rfl,trivial,fun a hE=>?_⟩
    replace hM : Mem _ _ w13 [_,_,_] := hM.call0 hN trivial;clear hN
    refine s_not hE rfl rfl fun a hE=>qa (K27 ?_)
    refine hE.split 23 rfl (fun hb23' hE=>?_) (fun hb23' hE=>?_)
    ·replace hb23' := not_true hb23'
     refine wct hE rfl (ww1 fun _ K28=>wpp (sas hE rfl fun a hE=>qa (K28 (wp_ret (qf (qb (qb ?_)))))))
     exact qf (qb (qi hE rfl rfl ⟨(by simp [shapedB,hb14,hb14',hb23,hb23'];try (cases geoB h.m h.r <;> simp)),hM.pick [] rfl⟩))
    ·replace hb23' := not_false' hb23'
     refine wcf hE rfl (wp_skip (qe (K25 (wpp (sb hE rfl rfl (show Bin _ _ _ _ _ (.int .i64 2) from bin_add (by rw [wrap_i64 (by omega) (by omega)];omega)) fun a hE=>?_)))))
     refine sm hE rfl fun a hE=>qa ?_
     replace hM : Mem _ _ w13 [_,_,_] := hM.pick [0,1,2] rfl
     refine qd (c_rounds (ww1 fun _ K28=>wpp (sb hE rfl rfl bin_lss fun a hE=>?_)))
     replace hE := hE.cast 19 rfl (show _ = Value.bool true from (congrArg Value.bool (by decide)))
     refine qa (K28 (ww1 fun _ K29=>wct hE rfl (wp_skip (K29 (ww1 fun _ K30=>wp_block (ww1 fun _ K31=>wpp ?_))))))
     have hil389_2 : h.s0.2.2.1.length = 16 := hk.s0.2.1
     have hil389_3 : h.s0.2.2.2.1.length = 32 := hk.s0.2.2.1
     have hil389_4 : h.s0.2.2.2.2.length = 32 := hk.s0.2.2.2
     have hil389_7 : h.s1.2.2.1.length = 16 := hk.s1.2.1
     have hil389_8 : h.s1.2.2.2.1.length = 32 := hk.s1.2.2.1
     have hil389_9 : h.s1.2.2.2.2.length = 32 := hk.s1.2.2.2
     have hil389_12 : h.s2.2.2.1.length = 16 := hk.s2.2.1
     have hil389_13 : h.s2.2.2.2.1.length = 32 := hk.s2.2.2.1
     have hil389_14 : h.s2.2.2.2.2.length = 32 := hk.s2.2.2.2
     have hil389_17 : h.s3.2.2.1.length = 16 := hk.s3.2.1
     have hil389_18 : h.s3.2.2.2.1.length = 32 := hk.s3.2.2.1
     have hil389_19 : h.s3.2.2.2.2.length = 32 := hk.s3.2.2.2
     refine s_indexAgg (j := 2) hE rfl rfl Tryd.underlying60 row59 rfl (by decide) rfl fun a hE=>?_
     replace hE := hE.cast 20 rfl (show _ = Value.agg ([[.bool h.s2.1],[.int .i64 h.s2.2.1],bv h.s2.2.2.1,bv h.s2.2.2.2.1,bv h.s2.2.2.2.2] : List (List Value)).flatten.toArray from congrArg (fun l : List Value => Value.agg l.toArray) (flat_seg (ps := [[.bool h.s0.1],[.int .i64 h.s0.2.1],bv h.s0.2.2.1,bv h.s0.2.2.2.1,bv h.s0.2.2.2.2,[.bool h.s1.1],[.int .i64 h.s1.2.1],bv h.s1.2.2.1,bv h.s1.2.2.2.1,bv h.s1.2.2.2.2]) (qs := [[.bool h.s2.1],[.int .i64 h.s2.2.1],bv h.s2.2.2.1,bv h.s2.2.2.2.1,bv h.s2.2.2.2.2]) (rs := [[.bool h.s3.1],[.int .i64 h.s3.2.1],bv h.s3.2.2.1,bv h.s3.2.2.2.1,bv h.s3.2.2.2.2]) (by simp only [List.map_cons,List.map_nil,vh,List.length_cons,List.length_nil,List.length_replicate,hil389_2,hil389_3,hil389_4,hil389_7,hil389_8,hil389_9,hil389_12,hil389_13,hil389_14,hil389_17,hil389_18,hil389_19];rfl) (by simp only [List.map_cons,List.map_nil,vh,List.length_cons,List.length_nil,List.length_replicate,hil389_2,hil389_3,hil389_4,hil389_7,hil389_8,hil389_9,hil389_12,hil389_13,hil389_14,hil389_17,hil389_18,hil389_19];rfl)))
     refine qo [1,1,16,32,32] hE hM zeroL59 rfl rfl fun a b6 w14 hE hM=>?_
     have hsl405_2 : h.s2.2.2.1.length = 16 := hk.s2.2.1
     have hsl405_3 : h.s2.2.2.2.1.length = 32 := hk.s2.2.2.1
     have hsl405_4 : h.s2.2.2.2.2.length = 32 := hk.s2.2.2.2
     replace hM : Mem _ _ w14 [_,_,_] := hM.pick [0,2,3] rfl
     refine qq 0 5 (vss := [[.bool h.s2.1],[.int .i64 h.s2.2.1],bv h.s2.2.2.1,bv h.s2.2.2.2.1,bv h.s2.2.2.2.2]) hE rfl rfl hM rfl sz59 (by simp only [List.take_succ_cons,List.take_zero,List.drop_zero,List.drop_succ_cons];simp only [List.map_cons,List.map_nil,vh,List.length_cons,List.length_nil,List.length_replicate,hsl405_2,hsl405_3,hsl405_4]) (by decide) rfl (one_fl ⟨one1 rfl,one1 rfl,vc _,vc _,vc _,trivial⟩) rfl (by intro X h;cases h) fun w15 hM=>?_
     try simp only [List.take_zero,List.take_succ_cons,List.drop_zero,List.drop_succ_cons,List.take_nil,List.drop_nil,List.nil_append,List.append_nil,List.cons_append] at hM
     refine qa (K31 (ww1 fun _ K32=>wpp (ql hE rfl (hM.get 0 rfl) row59 rfl (by intro X h;cases h) rfl fun a hE=>?_)))
     replace hE := hE.cast 21 rfl (show _ = Value.agg ([[.bool h.s2.1],[.int .i64 h.s2.2.1],bv h.s2.2.2.1,bv h.s2.2.2.2.1,bv h.s2.2.2.2.2] : List (List Value)).flatten.toArray from (by first | rfl | simp only [List.flatten_cons,List.flatten_nil,List.append_nil,List.append_assoc]))
     refine qn hE rfl Tryd.call88 (slot_c h.s2.1 h.s2.2.1 h.s2.2.2.1 h.s2.2.2.2.1 h.s2.2.2.2.2 _ hk.s2.2.1 hk.s2.2.2.1 hk.s2.2.2.2 (by have hl_0sa : h.s2.2.2.1.length = 16 := hk.s2.2.1;have hl_0sd : h.s2.2.2.2.1.length = 32 := hk.s2.2.2.1;have hl_0st : h.s2.2.2.2.2.length = 32 := hk.s2.2.2.2;first | omega | assumption | (simp;done) | (simp;omega) | decide)) rfl ?_
     rintro e w16 ⟨rfl,hN⟩
     refine ⟨_,rfl,trivial,fun a hE=>?_⟩
     replace hM : Mem _ _ w16 [_,_,_] := hM.call0 hN trivial;clear hN
     refine s_not hE rfl rfl fun a hE=>qa (K32 ?_)
     refine hE.split 23 rfl (fun hb23'' hE=>?_) (fun hb23'' hE=>?_)
     ·replace hb23'' := not_true hb23''
      refine wct hE rfl (ww1 fun _ K33=>wpp (sas hE rfl fun a hE=>qa (K33 (wp_ret (qf (qb (qb ?_)))))))
      exact qf (qb (qi hE rfl rfl ⟨(by simp [shapedB,hb14,hb14',hb23,hb23',hb23''];try (cases geoB h.m h.r <;> simp)),hM.pick [] rfl⟩))
     ·replace hb23'' := not_false' hb23''
      refine wcf hE rfl (wp_skip (qe (K30 (wpp (sb hE rfl rfl (show Bin _ _ _ _ _ (.int .i64 3) from bin_add (by rw [wrap_i64 (by omega) (by omega)];omega)) fun a hE=>?_)))))
      refine sm hE rfl fun a hE=>qa ?_
      replace hM : Mem _ _ w16 [_,_,_] := hM.pick [0,1,2] rfl
      refine qd (c_rounds (ww1 fun _ K33=>wpp (sb hE rfl rfl bin_lss fun a hE=>?_)))
      replace hE := hE.cast 19 rfl (show _ = Value.bool true from (congrArg Value.bool (by decide)))
      refine qa (K33 (ww1 fun _ K34=>wct hE rfl (wp_skip (K34 (ww1 fun _ K35=>wp_block (ww1 fun _ K36=>wpp ?_))))))
      have hil470_2 : h.s0.2.2.1.length = 16 := hk.s0.2.1
      have hil470_3 : h.s0.2.2.2.1.length = 32 := hk.s0.2.2.1
      have hil470_4 : h.s0.2.2.2.2.length = 32 := hk.s0.2.2.2
      have hil470_7 : h.s1.2.2.1.length = 16 := hk.s1.2.1
      have hil470_8 : h.s1.2.2.2.1.length = 32 := hk.s1.2.2.1
      have hil470_9 : h.s1.2.2.2.2.length = 32 := hk.s1.2.2.2
      have hil470_12 : h.s2.2.2.1.length = 16 := hk.s2.2.1
      have hil470_13 : h.s2.2.2.2.1.length = 32 := hk.s2.2.2.1
      have hil470_14 : h.s2.2.2.2.2.length = 32 := hk.s2.2.2.2
      have hil470_17 : h.s3.2.2.1.length = 16 := hk.s3.2.1
      have hil470_18 : h.s3.2.2.2.1.length = 32 := hk.s3.2.2.1
      have hil470_19 : h.s3.2.2.2.2.length = 32 := hk.s3.2.2.2
      refine s_indexAgg (j := 3) hE rfl rfl Tryd.underlying60 row59 rfl (by decide) rfl fun a hE=>?_
      replace hE := hE.cast 20 rfl (show _ = Value.agg ([[.bool h.s3.1],[.int .i64 h.s3.2.1],bv h.s3.2.2.1,bv h.s3.2.2.2.1,bv h.s3.2.2.2.2] : List (List Value)).flatten.toArray from congrArg (fun l : List Value => Value.agg l.toArray) (flat_seg (ps := [[.bool h.s0.1],[.int .i64 h.s0.2.1],bv h.s0.2.2.1,bv h.s0.2.2.2.1,bv h.s0.2.2.2.2,[.bool h.s1.1],[.int .i64 h.s1.2.1],bv h.s1.2.2.1,bv h.s1.2.2.2.1,bv h.s1.2.2.2.2,[.bool h.s2.1],[.int .i64 h.s2.2.1],bv h.s2.2.2.1,bv h.s2.2.2.2.1,bv h.s2.2.2.2.2]) (qs := [[.bool h.s3.1],[.int .i64 h.s3.2.1],bv h.s3.2.2.1,bv h.s3.2.2.2.1,bv h.s3.2.2.2.2]) (rs := []) (by simp only [List.map_cons,List.map_nil,vh,List.length_cons,List.length_nil,List.length_replicate,hil470_2,hil470_3,hil470_4,hil470_7,hil470_8,hil470_9,hil470_12,hil470_13,hil470_14,hil470_17,hil470_18,hil470_19];rfl) (by simp only [List.map_cons,List.map_nil,vh,List.length_cons,List.length_nil,List.length_replicate,hil470_2,hil470_3,hil470_4,hil470_7,hil470_8,hil470_9,hil470_12,hil470_13,hil470_14,hil470_17,hil470_18,hil470_19];rfl)))
      refine qo [1,1,16,32,32] hE hM zeroL59 rfl rfl fun a b6 w17 hE hM=>?_
      have hsl486_2 : h.s3.2.2.1.length = 16 := hk.s3.2.1
      have hsl486_3 : h.s3.2.2.2.1.length = 32 := hk.s3.2.2.1
      have hsl486_4 : h.s3.2.2.2.2.length = 32 := hk.s3.2.2.2
      replace hM : Mem _ _ w17 [_,_,_] := hM.pick [0,2,3] rfl
      refine qq 0 5 (vss := [[.bool h.s3.1],[.int .i64 h.s3.2.1],bv h.s3.2.2.1,bv h.s3.2.2.2.1,bv h.s3.2.2.2.2]) hE rfl rfl hM rfl sz59 (by simp only [List.take_succ_cons,List.take_zero,List.drop_zero,List.drop_succ_cons];simp only [List.map_cons,List.map_nil,vh,List.length_cons,List.length_nil,List.length_replicate,hsl486_2,hsl486_3,hsl486_4]) (by decide) rfl (one_fl ⟨one1 rfl,one1 rfl,vc _,vc _,vc _,trivial⟩) rfl (by intro X h;cases h) fun w18 hM=>?_
      try simp only [List.take_zero,List.take_succ_cons,List.drop_zero,List.drop_succ_cons,List.take_nil,List.drop_nil,List.nil_append,List.append_nil,List.cons_append] at hM
      refine qa (K36 (ww1 fun _ K37=>wpp (ql hE rfl (hM.get 0 rfl) row59 rfl (by intro X h;cases h) rfl fun a hE=>?_)))
      replace hE := hE.cast 21 rfl (show _ = Value.agg ([[.bool h.s3.1],[.int .i64 h.s3.2.1],bv h.s3.2.2.1,bv h.s3.2.2.2.1,bv h.s3.2.2.2.2] : List (List Value)).flatten.toArray from (by first | rfl | simp only [List.flatten_cons,List.flatten_nil,List.append_nil,List.append_assoc]))
      refine qn hE rfl Tryd.call88 (slot_c h.s3.1 h.s3.2.1 h.s3.2.2.1 h.s3.2.2.2.1 h.s3.2.2.2.2 _ hk.s3.2.1 hk.s3.2.2.1 hk.s3.2.2.2 (by have hl_0sa : h.s3.2.2.1.length = 16 := hk.s3.2.1;have hl_0sd : h.s3.2.2.2.1.length = 32 := hk.s3.2.2.1;have hl_0st : h.s3.2.2.2.2.length = 32 := hk.s3.2.2.2;first | omega | assumption | (simp;done) | (simp;omega) | decide)) rfl ?_
      rintro e w19 ⟨rfl,hN⟩
      refine ⟨_,rfl,trivial,fun a hE=>?_⟩
      replace hM : Mem _ _ w19 [_,_,_] := hM.call0 hN trivial;clear hN
      refine s_not hE rfl rfl fun a hE=>qa (K37 ?_)
      refine hE.split 23 rfl (fun hb23''' hE=>?_) (fun hb23''' hE=>?_)
      ·replace hb23''' := not_true hb23'''
       refine wct hE rfl (ww1 fun _ K38=>wpp (sas hE rfl fun a hE=>qa (K38 (wp_ret (qf (qb (qb ?_)))))))
       exact qf (qb (qi hE rfl rfl ⟨(by simp [shapedB,hb14,hb14',hb23,hb23',hb23'',hb23'''];try (cases geoB h.m h.r <;> simp)),hM.pick [] rfl⟩))
      ·replace hb23''' := not_false' hb23'''
       refine wcf hE rfl (wp_skip (qe (K35 (wpp (sb hE rfl rfl (show Bin _ _ _ _ _ (.int .i64 4) from bin_add (by rw [wrap_i64 (by omega) (by omega)];omega)) fun a hE=>?_)))))
       refine sm hE rfl fun a hE=>qa ?_
       replace hM : Mem _ _ w19 [_,_,_] := hM.pick [0,1,2] rfl
       refine qd (c_rounds (ww1 fun _ K38=>wpp (sb hE rfl rfl bin_lss fun a hE=>?_)))
       replace hE := hE.cast 19 rfl (show _ = Value.bool false from (congrArg Value.bool (by decide)))
       refine qa (K38 (ww1 fun _ K39=>wcf hE rfl (wp_exit (qc (qc (qg (K16 (ww1 fun _ K40=>?_))))))))
       refine wpp (sf hE rfl fo62_0 fun a hE=>ql hE rfl (hM.get 2 rfl) row52 rfl (by intro X h;cases h) rfl fun a hE=>?_)
       replace hE := hE.cast 26 rfl (show _ = Value.agg ([[.int .i64 h.m],[.int .i64 h.r]] : List (List Value)).flatten.toArray from (by first | rfl | simp only [List.flatten_cons,List.flatten_nil,List.append_nil,List.append_assoc]))
       refine qn hE rfl Tryd.call89 (geocheck_c h.m h.r _ ) rfl ?_
       rintro e w20 ⟨rfl,hN⟩
       refine ⟨_,rfl,trivial,fun a hE=>?_⟩
       replace hM : Mem _ _ w20 [_,_,_] := hM.call0 hN trivial;clear hN
       exact sb hE rfl rfl bin_eql fun a hE=>sas hE rfl fun a hE=>qa (K40 (wp_ret (qi hE rfl rfl ⟨(by simp [shapedB,hb14,hb14',hb23,hb23',hb23'',hb23'''];try (cases geoB h.m h.r <;> simp)),hM.pick [] rfl⟩)))
theorem long_c (h : Hd) (w : World) (hk : OkHd h) : Calls Tryd.prog 75 #[.agg ([[.int .i64 h.m],[.int .i64 h.r],[.bool h.v0.1],[.int .u64 ((h.v0.2.1 : Nat) : Int)],bv h.v0.2.2.1,bv h.v0.2.2.2,[.bool h.v1.1],[.int .u64 ((h.v1.2.1 : Nat) : Int)],bv h.v1.2.2.1,bv h.v1.2.2.2,[.bool h.s0.1],[.int .i64 h.s0.2.1],bv h.s0.2.2.1,bv h.s0.2.2.2.1,bv h.s0.2.2.2.2,[.bool h.s1.1],[.int .i64 h.s1.2.1],bv h.s1.2.2.1,bv h.s1.2.2.2.1,bv h.s1.2.2.2.2,[.bool h.s2.1],[.int .i64 h.s2.2.1],bv h.s2.2.2.1,bv h.s2.2.2.2.1,bv h.s2.2.2.2.2,[.bool h.s3.1],[.int .i64 h.s3.2.1],bv h.s3.2.2.1,bv h.s3.2.2.2.1,bv h.s3.2.2.2.2] : List (List Value)).flatten.toArray] w fun e w' => e = .returned (.bool (longB h)) ∧ Mem w [] w' [] := by
 have hi0 := hk.s0.1
 have hi1 := hk.s1.1
 have hi2 := hk.s2.1
 have hi3 := hk.s3.1
 have hn0 := hk.v0.1
 have hn1 := hk.v1.1
 have hM := Mem.start0 w
 refine ve 14 Tryd.func75 rfl rfl rfl ?_
 intro a hE
 replace hE : Env a 14 [(0,_)] := hE
 refine ww1 fun _ K1=>wpp ?_
 have hbl1_4 : h.v0.2.2.1.length = 32 := hk.v0.2.1
 have hbl1_5 : h.v0.2.2.2.length = 32 := hk.v0.2.2
 have hbl1_8 : h.v1.2.2.1.length = 32 := hk.v1.2.1
 have hbl1_9 : h.v1.2.2.2.length = 32 := hk.v1.2.2
 have hbl1_12 : h.s0.2.2.1.length = 16 := hk.s0.2.1
 have hbl1_13 : h.s0.2.2.2.1.length = 32 := hk.s0.2.2.1
 have hbl1_14 : h.s0.2.2.2.2.length = 32 := hk.s0.2.2.2
 have hbl1_17 : h.s1.2.2.1.length = 16 := hk.s1.2.1
 have hbl1_18 : h.s1.2.2.2.1.length = 32 := hk.s1.2.2.1
 have hbl1_19 : h.s1.2.2.2.2.length = 32 := hk.s1.2.2.2
 have hbl1_22 : h.s2.2.2.1.length = 16 := hk.s2.2.1
 have hbl1_23 : h.s2.2.2.2.1.length = 32 := hk.s2.2.2.1
 have hbl1_24 : h.s2.2.2.2.2.length = 32 := hk.s2.2.2.2
 have hbl1_27 : h.s3.2.2.1.length = 16 := hk.s3.2.1
 have hbl1_28 : h.s3.2.2.2.1.length = 32 := hk.s3.2.2.1
 have hbl1_29 : h.s3.2.2.2.2.length = 32 := hk.s3.2.2.2
 refine s_box (ss := [[.int .i64 h.m],[.int .i64 h.r],[.bool h.v0.1],[.int .u64 ((h.v0.2.1 : Nat) : Int)],bv h.v0.2.2.1,bv h.v0.2.2.2,[.bool h.v1.1],[.int .u64 ((h.v1.2.1 : Nat) : Int)],bv h.v1.2.2.1,bv h.v1.2.2.2,[.bool h.s0.1],[.int .i64 h.s0.2.1],bv h.s0.2.2.1,bv h.s0.2.2.2.1,bv h.s0.2.2.2.2,[.bool h.s1.1],[.int .i64 h.s1.2.1],bv h.s1.2.2.1,bv h.s1.2.2.2.1,bv h.s1.2.2.2.2,[.bool h.s2.1],[.int .i64 h.s2.2.1],bv h.s2.2.2.1,bv h.s2.2.2.2.1,bv h.s2.2.2.2.2,[.bool h.s3.1],[.int .i64 h.s3.2.1],bv h.s3.2.2.1,bv h.s3.2.2.2.1,bv h.s3.2.2.2.2]) [1,1,1,1,32,32,1,1,32,32,1,1,16,32,32,1,1,16,32,32,1,1,16,32,32,1,1,16,32,32] hE hM rfl rfl (by simp only [List.map_cons,List.map_nil,vh,List.length_cons,List.length_nil,List.length_replicate,hbl1_4,hbl1_5,hbl1_8,hbl1_9,hbl1_12,hbl1_13,hbl1_14,hbl1_17,hbl1_18,hbl1_19,hbl1_22,hbl1_23,hbl1_24,hbl1_27,hbl1_28,hbl1_29]) rfl fun a b1 w1 hE hM=>?_
 refine sas hE rfl fun a hE=>qa (K1 (ww1 fun _ K2=>ww1 fun _ K3=>wpp (sf hE rfl fo62_2 fun a hE=>ql hE rfl (hM.get 0 rfl) row60 rfl (by intro X h;cases h) rfl fun a hE=>?_)))
 replace hE := hE.cast 6 rfl (show _ = Value.agg ([[.bool h.s0.1],[.int .i64 h.s0.2.1],bv h.s0.2.2.1,bv h.s0.2.2.2.1,bv h.s0.2.2.2.2,[.bool h.s1.1],[.int .i64 h.s1.2.1],bv h.s1.2.2.1,bv h.s1.2.2.2.1,bv h.s1.2.2.2.2,[.bool h.s2.1],[.int .i64 h.s2.2.1],bv h.s2.2.2.1,bv h.s2.2.2.2.1,bv h.s2.2.2.2.2,[.bool h.s3.1],[.int .i64 h.s3.2.1],bv h.s3.2.2.1,bv h.s3.2.2.2.1,bv h.s3.2.2.2.2] : List (List Value)).flatten.toArray from (by first | rfl | simp only [List.flatten_cons,List.flatten_nil,List.append_nil,List.append_assoc]))
 refine sm hE rfl fun a hE=>qa (K3 (wp_block (wp_loop_rounds 5 (c_rounds (ww1 fun _ K4=>wpp (sb hE rfl rfl bin_lss fun a hE=>?_))))))
 replace hE := hE.cast 8 rfl (show _ = Value.bool true from (congrArg Value.bool (by decide)))
 refine qa (K4 (ww1 fun _ K5=>wct hE rfl (wp_skip (K5 (ww1 fun _ K6=>wp_block (ww1 fun _ K7=>wpp ?_))))))
 have hil60_2 : h.s0.2.2.1.length = 16 := hk.s0.2.1
 have hil60_3 : h.s0.2.2.2.1.length = 32 := hk.s0.2.2.1
 have hil60_4 : h.s0.2.2.2.2.length = 32 := hk.s0.2.2.2
 have hil60_7 : h.s1.2.2.1.length = 16 := hk.s1.2.1
 have hil60_8 : h.s1.2.2.2.1.length = 32 := hk.s1.2.2.1
 have hil60_9 : h.s1.2.2.2.2.length = 32 := hk.s1.2.2.2
 have hil60_12 : h.s2.2.2.1.length = 16 := hk.s2.2.1
 have hil60_13 : h.s2.2.2.2.1.length = 32 := hk.s2.2.2.1
 have hil60_14 : h.s2.2.2.2.2.length = 32 := hk.s2.2.2.2
 have hil60_17 : h.s3.2.2.1.length = 16 := hk.s3.2.1
 have hil60_18 : h.s3.2.2.2.1.length = 32 := hk.s3.2.2.1
 have hil60_19 : h.s3.2.2.2.2.length = 32 := hk.s3.2.2.2
 refine s_indexAgg (j := 0) hE rfl rfl Tryd.underlying60 row59 rfl (by decide) rfl fun a hE=>?_
 replace hE := hE.cast 9 rfl (show _ = Value.agg ([[.bool h.s0.1],[.int .i64 h.s0.2.1],bv h.s0.2.2.1,bv h.s0.2.2.2.1,bv h.s0.2.2.2.2] : List (List Value)).flatten.toArray from congrArg (fun l : List Value => Value.agg l.toArray) (flat_seg (ps := []) (qs := [[.bool h.s0.1],[.int .i64 h.s0.2.1],bv h.s0.2.2.1,bv h.s0.2.2.2.1,bv h.s0.2.2.2.2]) (rs := [[.bool h.s1.1],[.int .i64 h.s1.2.1],bv h.s1.2.2.1,bv h.s1.2.2.2.1,bv h.s1.2.2.2.2,[.bool h.s2.1],[.int .i64 h.s2.2.1],bv h.s2.2.2.1,bv h.s2.2.2.2.1,bv h.s2.2.2.2.2,[.bool h.s3.1],[.int .i64 h.s3.2.1],bv h.s3.2.2.1,bv h.s3.2.2.2.1,bv h.s3.2.2.2.2]) (by simp only [List.map_cons,List.map_nil,vh,List.length_cons,List.length_nil,List.length_replicate,hil60_2,hil60_3,hil60_4,hil60_7,hil60_8,hil60_9,hil60_12,hil60_13,hil60_14,hil60_17,hil60_18,hil60_19];rfl) (by simp only [List.map_cons,List.map_nil,vh,List.length_cons,List.length_nil,List.length_replicate,hil60_2,hil60_3,hil60_4,hil60_7,hil60_8,hil60_9,hil60_12,hil60_13,hil60_14,hil60_17,hil60_18,hil60_19];rfl)))
 refine qo [1,1,16,32,32] hE hM zeroL59 rfl rfl fun a b4 w2 hE hM=>?_
 have hsl76_2 : h.s0.2.2.1.length = 16 := hk.s0.2.1
 have hsl76_3 : h.s0.2.2.2.1.length = 32 := hk.s0.2.2.1
 have hsl76_4 : h.s0.2.2.2.2.length = 32 := hk.s0.2.2.2
 refine qq 0 5 (vss := [[.bool h.s0.1],[.int .i64 h.s0.2.1],bv h.s0.2.2.1,bv h.s0.2.2.2.1,bv h.s0.2.2.2.2]) hE rfl rfl hM rfl sz59 (by simp only [List.take_succ_cons,List.take_zero,List.drop_zero,List.drop_succ_cons];simp only [List.map_cons,List.map_nil,vh,List.length_cons,List.length_nil,List.length_replicate,hsl76_2,hsl76_3,hsl76_4]) (by decide) rfl (one_fl ⟨one1 rfl,one1 rfl,vc _,vc _,vc _,trivial⟩) rfl (by intro X h;cases h) fun w3 hM=>?_
 try simp only [List.take_zero,List.take_succ_cons,List.drop_zero,List.drop_succ_cons,List.take_nil,List.drop_nil,List.nil_append,List.append_nil,List.cons_append] at hM
 refine qa (K7 (ww1 fun _ K8=>wpp (sf hE rfl fo59_1 fun a hE=>qm hE rfl (hM.get 0 rfl) rfl one3 (by intro X h;cases h) rfl fun a hE=>?_)))
 refine sb hE rfl rfl bin_gtr fun a hE=>qa (K8 ?_)
 refine hE.split 12 rfl (fun hb12 hE=>?_) (fun hb12 hE=>?_)
 ·replace hb12 := of_decide_eq_true hb12
  refine wct hE rfl (ww1 fun _ K9=>wpp (sas hE rfl fun a hE=>qa (K9 (wp_ret (qf (qb (qb ?_)))))))
  exact qf (qb (qi hE rfl rfl ⟨(by simp [longB,hb12] <;> omega),hM.pick [] rfl⟩))
 ·replace hb12 := of_decide_eq_false hb12
  refine wcf hE rfl (wp_skip (qe (K6 (wpp (sb hE rfl rfl (show Bin _ _ _ _ _ (.int .i64 1) from bin_add (by rw [wrap_i64 (by omega) (by omega)];omega)) fun a hE=>?_)))))
  refine sm hE rfl fun a hE=>qa ?_
  replace hM : Mem _ _ w3 [_,_] := hM.pick [0,1] rfl
  refine qd (c_rounds (ww1 fun _ K9=>wpp (sb hE rfl rfl bin_lss fun a hE=>?_)))
  replace hE := hE.cast 8 rfl (show _ = Value.bool true from (congrArg Value.bool (by decide)))
  refine qa (K9 (ww1 fun _ K10=>wct hE rfl (wp_skip (K10 (ww1 fun _ K11=>wp_block (ww1 fun _ K12=>wpp ?_))))))
  have hil136_2 : h.s0.2.2.1.length = 16 := hk.s0.2.1
  have hil136_3 : h.s0.2.2.2.1.length = 32 := hk.s0.2.2.1
  have hil136_4 : h.s0.2.2.2.2.length = 32 := hk.s0.2.2.2
  have hil136_7 : h.s1.2.2.1.length = 16 := hk.s1.2.1
  have hil136_8 : h.s1.2.2.2.1.length = 32 := hk.s1.2.2.1
  have hil136_9 : h.s1.2.2.2.2.length = 32 := hk.s1.2.2.2
  have hil136_12 : h.s2.2.2.1.length = 16 := hk.s2.2.1
  have hil136_13 : h.s2.2.2.2.1.length = 32 := hk.s2.2.2.1
  have hil136_14 : h.s2.2.2.2.2.length = 32 := hk.s2.2.2.2
  have hil136_17 : h.s3.2.2.1.length = 16 := hk.s3.2.1
  have hil136_18 : h.s3.2.2.2.1.length = 32 := hk.s3.2.2.1
  have hil136_19 : h.s3.2.2.2.2.length = 32 := hk.s3.2.2.2
  refine s_indexAgg (j := 1) hE rfl rfl Tryd.underlying60 row59 rfl (by decide) rfl fun a hE=>?_
  replace hE := hE.cast 9 rfl (show _ = Value.agg ([[.bool h.s1.1],[.int .i64 h.s1.2.1],bv h.s1.2.2.1,bv h.s1.2.2.2.1,bv h.s1.2.2.2.2] : List (List Value)).flatten.toArray from congrArg (fun l : List Value => Value.agg l.toArray) (flat_seg (ps := [[.bool h.s0.1],[.int .i64 h.s0.2.1],bv h.s0.2.2.1,bv h.s0.2.2.2.1,bv h.s0.2.2.2.2]) (qs := [[.bool h.s1.1],[.int .i64 h.s1.2.1],bv h.s1.2.2.1,bv h.s1.2.2.2.1,bv h.s1.2.2.2.2]) (rs := [[.bool h.s2.1],[.int .i64 h.s2.2.1],bv h.s2.2.2.1,bv h.s2.2.2.2.1,bv h.s2.2.2.2.2,[.bool h.s3.1],[.int .i64 h.s3.2.1],bv h.s3.2.2.1,bv h.s3.2.2.2.1,bv h.s3.2.2.2.2]) (by simp only [List.map_cons,List.map_nil,vh,List.length_cons,List.length_nil,List.length_replicate,hil136_2,hil136_3,hil136_4,hil136_7,hil136_8,hil136_9,hil136_12,hil136_13,hil136_14,hil136_17,hil136_18,hil136_19];rfl) (by simp only [List.map_cons,List.map_nil,vh,List.length_cons,List.length_nil,List.length_replicate,hil136_2,hil136_3,hil136_4,hil136_7,hil136_8,hil136_9,hil136_12,hil136_13,hil136_14,hil136_17,hil136_18,hil136_19];rfl)))
  refine qo [1,1,16,32,32] hE hM zeroL59 rfl rfl fun a b4 w4 hE hM=>?_
  have hsl152_2 : h.s1.2.2.1.length = 16 := hk.s1.2.1
  have hsl152_3 : h.s1.2.2.2.1.length = 32 := hk.s1.2.2.1
  have hsl152_4 : h.s1.2.2.2.2.length = 32 := hk.s1.2.2.2
  replace hM : Mem _ _ w4 [_,_] := hM.pick [0,2] rfl
  refine qq 0 5 (vss := [[.bool h.s1.1],[.int .i64 h.s1.2.1],bv h.s1.2.2.1,bv h.s1.2.2.2.1,bv h.s1.2.2.2.2]) hE rfl rfl hM rfl sz59 (by simp only [List.take_succ_cons,List.take_zero,List.drop_zero,List.drop_succ_cons];simp only [List.map_cons,List.map_nil,vh,List.length_cons,List.length_nil,List.length_replicate,hsl152_2,hsl152_3,hsl152_4]) (by decide) rfl (one_fl ⟨one1 rfl,one1 rfl,vc _,vc _,vc _,trivial⟩) rfl (by intro X h;cases h) fun w5 hM=>?_
  try simp only [List.take_zero,List.take_succ_cons,List.drop_zero,List.drop_succ_cons,List.take_nil,List.drop_nil,List.nil_append,List.append_nil,List.cons_append] at hM
  refine qa (K12 (ww1 fun _ K13=>wpp (sf hE rfl fo59_1 fun a hE=>qm hE rfl (hM.get 0 rfl) rfl one3 (by intro X h;cases h) rfl fun a hE=>?_)))
  refine sb hE rfl rfl bin_gtr fun a hE=>qa (K13 ?_)
  refine hE.split 12 rfl (fun hb12' hE=>?_) (fun hb12' hE=>?_)
  ·replace hb12' := of_decide_eq_true hb12'
   refine wct hE rfl (ww1 fun _ K14=>wpp (sas hE rfl fun a hE=>qa (K14 (wp_ret (qf (qb (qb ?_)))))))
   exact qf (qb (qi hE rfl rfl ⟨(by simp [longB,hb12,hb12'] <;> omega),hM.pick [] rfl⟩))
  ·replace hb12' := of_decide_eq_false hb12'
   refine wcf hE rfl (wp_skip (qe (K11 (wpp (sb hE rfl rfl (show Bin _ _ _ _ _ (.int .i64 2) from bin_add (by rw [wrap_i64 (by omega) (by omega)];omega)) fun a hE=>?_)))))
   refine sm hE rfl fun a hE=>qa ?_
   replace hM : Mem _ _ w5 [_,_] := hM.pick [0,1] rfl
   refine qd (c_rounds (ww1 fun _ K14=>wpp (sb hE rfl rfl bin_lss fun a hE=>?_)))
   replace hE := hE.cast 8 rfl (show _ = Value.bool true from (congrArg Value.bool (by decide)))
   refine qa (K14 (ww1 fun _ K15=>wct hE rfl (wp_skip (K15 (ww1 fun _ K16=>wp_block (ww1 fun _ K17=>wpp ?_))))))
   have hil213_2 : h.s0.2.2.1.length = 16 := hk.s0.2.1
   have hil213_3 : h.s0.2.2.2.1.length = 32 := hk.s0.2.2.1
   have hil213_4 : h.s0.2.2.2.2.length = 32 := hk.s0.2.2.2
   have hil213_7 : h.s1.2.2.1.length = 16 := hk.s1.2.1
   have hil213_8 : h.s1.2.2.2.1.length = 32 := hk.s1.2.2.1
   have hil213_9 : h.s1.2.2.2.2.length = 32 := hk.s1.2.2.2
   have hil213_12 : h.s2.2.2.1.length = 16 := hk.s2.2.1
   have hil213_13 : h.s2.2.2.2.1.length = 32 := hk.s2.2.2.1
   have hil213_14 : h.s2.2.2.2.2.length = 32 := hk.s2.2.2.2
   have hil213_17 : h.s3.2.2.1.length = 16 := hk.s3.2.1
   have hil213_18 : h.s3.2.2.2.1.length = 32 := hk.s3.2.2.1
   have hil213_19 : h.s3.2.2.2.2.length = 32 := hk.s3.2.2.2
   refine s_indexAgg (j := 2) hE rfl rfl Tryd.underlying60 row59 rfl (by decide) rfl fun a hE=>?_
   replace hE := hE.cast 9 rfl (show _ = Value.agg ([[.bool h.s2.1],[.int .i64 h.s2.2.1],bv h.s2.2.2.1,bv h.s2.2.2.2.1,bv h.s2.2.2.2.2] : List (List Value)).flatten.toArray from congrArg (fun l : List Value => Value.agg l.toArray) (flat_seg (ps := [[.bool h.s0.1],[.int .i64 h.s0.2.1],bv h.s0.2.2.1,bv h.s0.2.2.2.1,bv h.s0.2.2.2.2,[.bool h.s1.1],[.int .i64 h.s1.2.1],bv h.s1.2.2.1,bv h.s1.2.2.2.1,bv h.s1.2.2.2.2]) (qs := [[.bool h.s2.1],[.int .i64 h.s2.2.1],bv h.s2.2.2.1,bv h.s2.2.2.2.1,bv h.s2.2.2.2.2]) (rs := [[.bool h.s3.1],[.int .i64 h.s3.2.1],bv h.s3.2.2.1,bv h.s3.2.2.2.1,bv h.s3.2.2.2.2]) (by simp only [List.map_cons,List.map_nil,vh,List.length_cons,List.length_nil,List.length_replicate,hil213_2,hil213_3,hil213_4,hil213_7,hil213_8,hil213_9,hil213_12,hil213_13,hil213_14,hil213_17,hil213_18,hil213_19];rfl) (by simp only [List.map_cons,List.map_nil,vh,List.length_cons,List.length_nil,List.length_replicate,hil213_2,hil213_3,hil213_4,hil213_7,hil213_8,hil213_9,hil213_12,hil213_13,hil213_14,hil213_17,hil213_18,hil213_19];rfl)))
   refine qo [1,1,16,32,32] hE hM zeroL59 rfl rfl fun a b4 w6 hE hM=>?_
   have hsl229_2 : h.s2.2.2.1.length = 16 := hk.s2.2.1
   have hsl229_3 : h.s2.2.2.2.1.length = 32 := hk.s2.2.2.1
   have hsl229_4 : h.s2.2.2.2.2.length = 32 := hk.s2.2.2.2
   replace hM : Mem _ _ w6 [_,_] := hM.pick [0,2] rfl
   refine qq 0 5 (vss := [[.bool h.s2.1],[.int .i64 h.s2.2.1],bv h.s2.2.2.1,bv h.s2.2.2.2.1,bv h.s2.2.2.2.2]) hE rfl rfl hM rfl sz59 (by simp only [List.take_succ_cons,List.take_zero,List.drop_zero,List.drop_succ_cons];simp only [List.map_cons,List.map_nil,vh,List.length_cons,List.length_nil,List.length_replicate,hsl229_2,hsl229_3,hsl229_4]) (by decide) rfl (one_fl ⟨one1 rfl,one1 rfl,vc _,vc _,vc _,trivial⟩) rfl (by intro X h;cases h) fun w7 hM=>?_
   try simp only [List.take_zero,List.take_succ_cons,List.drop_zero,List.drop_succ_cons,List.take_nil,List.drop_nil,List.nil_append,List.append_nil,List.cons_append] at hM
   refine qa (K17 (ww1 fun _ K18=>wpp (sf hE rfl fo59_1 fun a hE=>qm hE rfl (hM.get 0 rfl) rfl one3 (by intro X h;cases h) rfl fun a hE=>?_)))
   refine sb hE rfl rfl bin_gtr fun a hE=>qa (K18 ?_)
   refine hE.split 12 rfl (fun hb12'' hE=>?_) (fun hb12'' hE=>?_)
   ·replace hb12'' := of_decide_eq_true hb12''
    refine wct hE rfl (ww1 fun _ K19=>wpp (sas hE rfl fun a hE=>qa (K19 (wp_ret (qf (qb (qb ?_)))))))
    exact qf (qb (qi hE rfl rfl ⟨(by simp [longB,hb12,hb12',hb12''] <;> omega),hM.pick [] rfl⟩))
   ·replace hb12'' := of_decide_eq_false hb12''
    refine wcf hE rfl (wp_skip (qe (K16 (wpp (sb hE rfl rfl (show Bin _ _ _ _ _ (.int .i64 3) from bin_add (by rw [wrap_i64 (by omega) (by omega)];omega)) fun a hE=>?_)))))
    refine sm hE rfl fun a hE=>qa ?_
    replace hM : Mem _ _ w7 [_,_] := hM.pick [0,1] rfl
    refine qd (c_rounds (ww1 fun _ K19=>wpp (sb hE rfl rfl bin_lss fun a hE=>?_)))
    replace hE := hE.cast 8 rfl (show _ = Value.bool true from (congrArg Value.bool (by decide)))
    refine qa (K19 (ww1 fun _ K20=>wct hE rfl (wp_skip (K20 (ww1 fun _ K21=>wp_block (ww1 fun _ K22=>wpp ?_))))))
    have hil290_2 : h.s0.2.2.1.length = 16 := hk.s0.2.1
    have hil290_3 : h.s0.2.2.2.1.length = 32 := hk.s0.2.2.1
    have hil290_4 : h.s0.2.2.2.2.length = 32 := hk.s0.2.2.2
    have hil290_7 : h.s1.2.2.1.length = 16 := hk.s1.2.1
    have hil290_8 : h.s1.2.2.2.1.length = 32 := hk.s1.2.2.1
    have hil290_9 : h.s1.2.2.2.2.length = 32 := hk.s1.2.2.2
    have hil290_12 : h.s2.2.2.1.length = 16 := hk.s2.2.1
    have hil290_13 : h.s2.2.2.2.1.length = 32 := hk.s2.2.2.1
    have hil290_14 : h.s2.2.2.2.2.length = 32 := hk.s2.2.2.2
    have hil290_17 : h.s3.2.2.1.length = 16 := hk.s3.2.1
    have hil290_18 : h.s3.2.2.2.1.length = 32 := hk.s3.2.2.1
    have hil290_19 : h.s3.2.2.2.2.length = 32 := hk.s3.2.2.2
    refine s_indexAgg (j := 3) hE rfl rfl Tryd.underlying60 row59 rfl (by decide) rfl fun a hE=>?_
    replace hE := hE.cast 9 rfl (show _ = Value.agg ([[.bool h.s3.1],[.int .i64 h.s3.2.1],bv h.s3.2.2.1,bv h.s3.2.2.2.1,bv h.s3.2.2.2.2] : List (List Value)).flatten.toArray from congrArg (fun l : List Value => Value.agg l.toArray) (flat_seg (ps := [[.bool h.s0.1],[.int .i64 h.s0.2.1],bv h.s0.2.2.1,bv h.s0.2.2.2.1,bv h.s0.2.2.2.2,[.bool h.s1.1],[.int .i64 h.s1.2.1],bv h.s1.2.2.1,bv h.s1.2.2.2.1,bv h.s1.2.2.2.2,[.bool h.s2.1],[.int .i64 h.s2.2.1],bv h.s2.2.2.1,bv h.s2.2.2.2.1,bv h.s2.2.2.2.2]) (qs := [[.bool h.s3.1],[.int .i64 h.s3.2.1],bv h.s3.2.2.1,bv h.s3.2.2.2.1,bv h.s3.2.2.2.2]) (rs := []) (by simp only [List.map_cons,List.map_nil,vh,List.length_cons,List.length_nil,List.length_replicate,hil290_2,hil290_3,hil290_4,hil290_7,hil290_8,hil290_9,hil290_12,hil290_13,hil290_14,hil290_17,hil290_18,hil290_19];rfl) (by simp only [List.map_cons,List.map_nil,vh,List.length_cons,List.length_nil,List.length_replicate,hil290_2,hil290_3,hil290_4,hil290_7,hil290_8,hil290_9,hil290_12,hil290_13,hil290_14,hil290_17,hil290_18,hil290_19];rfl)))
    refine qo [1,1,16,32,32] hE hM zeroL59 rfl rfl fun a b4 w8 hE hM=>?_
    have hsl306_2 : h.s3.2.2.1.length = 16 := hk.s3.2.1
    have hsl306_3 : h.s3.2.2.2.1.length = 32 := hk.s3.2.2.1
    have hsl306_4 : h.s3.2.2.2.2.length = 32 := hk.s3.2.2.2
    replace hM : Mem _ _ w8 [_,_] := hM.pick [0,2] rfl
    refine qq 0 5 (vss := [[.bool h.s3.1],[.int .i64 h.s3.2.1],bv h.s3.2.2.1,bv h.s3.2.2.2.1,bv h.s3.2.2.2.2]) hE rfl rfl hM rfl sz59 (by simp only [List.take_succ_cons,List.take_zero,List.drop_zero,List.drop_succ_cons];simp only [List.map_cons,List.map_nil,vh,List.length_cons,List.length_nil,List.length_replicate,hsl306_2,hsl306_3,hsl306_4]) (by decide) rfl (one_fl ⟨one1 rfl,one1 rfl,vc _,vc _,vc _,trivial⟩) rfl (by intro X h;cases h) fun w9 hM=>?_
    try simp only [List.take_zero,List.take_succ_cons,List.drop_zero,List.drop_succ_cons,List.take_nil,List.drop_nil,List.nil_append,List.append_nil,List.cons_append] at hM
    refine qa (K22 (ww1 fun _ K23=>wpp (sf hE rfl fo59_1 fun a hE=>qm hE rfl (hM.get 0 rfl) rfl one3 (by intro X h;cases h) rfl fun a hE=>?_)))
    refine sb hE rfl rfl bin_gtr fun a hE=>qa (K23 ?_)
    refine hE.split 12 rfl (fun hb12''' hE=>?_) (fun hb12''' hE=>?_)
    ·replace hb12''' := of_decide_eq_true hb12'''
     refine wct hE rfl (ww1 fun _ K24=>wpp (sas hE rfl fun a hE=>qa (K24 (wp_ret (qf (qb (qb ?_)))))))
     exact qf (qb (qi hE rfl rfl ⟨(by simp [longB,hb12,hb12',hb12'',hb12'''] <;> omega),hM.pick [] rfl⟩))
    ·replace hb12''' := of_decide_eq_false hb12'''
     refine wcf hE rfl (wp_skip (qe (K21 (wpp (sb hE rfl rfl (show Bin _ _ _ _ _ (.int .i64 4) from bin_add (by rw [wrap_i64 (by omega) (by omega)];omega)) fun a hE=>?_)))))
     refine sm hE rfl fun a hE=>qa ?_
     replace hM : Mem _ _ w9 [_,_] := hM.pick [0,1] rfl
     refine qd (c_rounds (ww1 fun _ K24=>wpp (sb hE rfl rfl bin_lss fun a hE=>?_)))
     replace hE := hE.cast 8 rfl (show _ = Value.bool false from (congrArg Value.bool (by decide)))
     refine qa (K24 (ww1 fun _ K25=>wcf hE rfl (wp_exit (qc (qc (qg (K2 (ww1 fun _ K26=>?_))))))))
     exact wpp (sas hE rfl fun a hE=>qa (K26 (wp_ret (qi hE rfl rfl ⟨(by simp [longB,hb12,hb12',hb12'',hb12'''] <;> omega),hM.pick [] rfl⟩))))
theorem check_c (h : Hd) (w : World) (hk : OkHd h) : Calls Tryd.prog 58 #[.agg ([[.int .i64 h.m],[.int .i64 h.r],[.bool h.v0.1],[.int .u64 ((h.v0.2.1 : Nat) : Int)],bv h.v0.2.2.1,bv h.v0.2.2.2,[.bool h.v1.1],[.int .u64 ((h.v1.2.1 : Nat) : Int)],bv h.v1.2.2.1,bv h.v1.2.2.2,[.bool h.s0.1],[.int .i64 h.s0.2.1],bv h.s0.2.2.1,bv h.s0.2.2.2.1,bv h.s0.2.2.2.2,[.bool h.s1.1],[.int .i64 h.s1.2.1],bv h.s1.2.2.1,bv h.s1.2.2.2.1,bv h.s1.2.2.2.2,[.bool h.s2.1],[.int .i64 h.s2.2.1],bv h.s2.2.2.1,bv h.s2.2.2.2.1,bv h.s2.2.2.2.2,[.bool h.s3.1],[.int .i64 h.s3.2.1],bv h.s3.2.2.1,bv h.s3.2.2.2.1,bv h.s3.2.2.2.2] : List (List Value)).flatten.toArray] w fun e w' => e = .returned (.int .i64 ((checkH h : Nat) : Int)) ∧ Mem w [] w' [] := by
 have hM := Mem.start0 w
 refine ve 10 Tryd.func58 rfl rfl rfl ?_
 intro a hE
 replace hE : Env a 10 [(0,_)] := hE
 refine ww1 fun _ K1=>wpp ?_
 have hbl1_4 : h.v0.2.2.1.length = 32 := hk.v0.2.1
 have hbl1_5 : h.v0.2.2.2.length = 32 := hk.v0.2.2
 have hbl1_8 : h.v1.2.2.1.length = 32 := hk.v1.2.1
 have hbl1_9 : h.v1.2.2.2.length = 32 := hk.v1.2.2
 have hbl1_12 : h.s0.2.2.1.length = 16 := hk.s0.2.1
 have hbl1_13 : h.s0.2.2.2.1.length = 32 := hk.s0.2.2.1
 have hbl1_14 : h.s0.2.2.2.2.length = 32 := hk.s0.2.2.2
 have hbl1_17 : h.s1.2.2.1.length = 16 := hk.s1.2.1
 have hbl1_18 : h.s1.2.2.2.1.length = 32 := hk.s1.2.2.1
 have hbl1_19 : h.s1.2.2.2.2.length = 32 := hk.s1.2.2.2
 have hbl1_22 : h.s2.2.2.1.length = 16 := hk.s2.2.1
 have hbl1_23 : h.s2.2.2.2.1.length = 32 := hk.s2.2.2.1
 have hbl1_24 : h.s2.2.2.2.2.length = 32 := hk.s2.2.2.2
 have hbl1_27 : h.s3.2.2.1.length = 16 := hk.s3.2.1
 have hbl1_28 : h.s3.2.2.2.1.length = 32 := hk.s3.2.2.1
 have hbl1_29 : h.s3.2.2.2.2.length = 32 := hk.s3.2.2.2
 refine s_box (ss := [[.int .i64 h.m],[.int .i64 h.r],[.bool h.v0.1],[.int .u64 ((h.v0.2.1 : Nat) : Int)],bv h.v0.2.2.1,bv h.v0.2.2.2,[.bool h.v1.1],[.int .u64 ((h.v1.2.1 : Nat) : Int)],bv h.v1.2.2.1,bv h.v1.2.2.2,[.bool h.s0.1],[.int .i64 h.s0.2.1],bv h.s0.2.2.1,bv h.s0.2.2.2.1,bv h.s0.2.2.2.2,[.bool h.s1.1],[.int .i64 h.s1.2.1],bv h.s1.2.2.1,bv h.s1.2.2.2.1,bv h.s1.2.2.2.2,[.bool h.s2.1],[.int .i64 h.s2.2.1],bv h.s2.2.2.1,bv h.s2.2.2.2.1,bv h.s2.2.2.2.2,[.bool h.s3.1],[.int .i64 h.s3.2.1],bv h.s3.2.2.1,bv h.s3.2.2.2.1,bv h.s3.2.2.2.2]) [1,1,1,1,32,32,1,1,32,32,1,1,16,32,32,1,1,16,32,32,1,1,16,32,32,1,1,16,32,32] hE hM rfl rfl (by simp only [List.map_cons,List.map_nil,vh,List.length_cons,List.length_nil,List.length_replicate,hbl1_4,hbl1_5,hbl1_8,hbl1_9,hbl1_12,hbl1_13,hbl1_14,hbl1_17,hbl1_18,hbl1_19,hbl1_22,hbl1_23,hbl1_24,hbl1_27,hbl1_28,hbl1_29]) rfl fun a b1 w1 hE hM=>?_
 refine sas hE rfl fun a hE=>qa (K1 (ww1 fun _ K2=>ww1 fun _ K3=>wpp (ql hE rfl (hM.get 0 rfl) row62 rfl (by intro X h;cases h) rfl fun a hE=>?_)))
 replace hE := hE.cast 3 rfl (show _ = Value.agg ([[.int .i64 h.m],[.int .i64 h.r],[.bool h.v0.1],[.int .u64 ((h.v0.2.1 : Nat) : Int)],bv h.v0.2.2.1,bv h.v0.2.2.2,[.bool h.v1.1],[.int .u64 ((h.v1.2.1 : Nat) : Int)],bv h.v1.2.2.1,bv h.v1.2.2.2,[.bool h.s0.1],[.int .i64 h.s0.2.1],bv h.s0.2.2.1,bv h.s0.2.2.2.1,bv h.s0.2.2.2.2,[.bool h.s1.1],[.int .i64 h.s1.2.1],bv h.s1.2.2.1,bv h.s1.2.2.2.1,bv h.s1.2.2.2.2,[.bool h.s2.1],[.int .i64 h.s2.2.1],bv h.s2.2.2.1,bv h.s2.2.2.2.1,bv h.s2.2.2.2.2,[.bool h.s3.1],[.int .i64 h.s3.2.1],bv h.s3.2.2.1,bv h.s3.2.2.2.1,bv h.s3.2.2.2.2] : List (List Value)).flatten.toArray from (by first | rfl | simp only [List.flatten_cons,List.flatten_nil,List.append_nil,List.append_assoc]))
 refine qn hE rfl Tryd.call74 (shaped_c h _ hk ) rfl ?_
 rintro e w2 ⟨rfl,hN⟩
 refine ⟨_,rfl,trivial,fun a hE=>?_⟩
 replace hM : Mem _ _ w2 [_] := hM.call0 hN trivial;clear hN
 refine s_not hE rfl rfl fun a hE=>sm hE rfl fun a hE=>?_
 refine hE.split 6 rfl (fun hb6 hE=>?_) (fun hb6 hE=>?_)
 ·replace hb6 := not_true hb6
  refine gt hE rfl fun a hE=>gt hE rfl fun a hE=>pkt hE rfl fun a hE=>qa (K3 (wct hE rfl (ww1 fun _ K4=>wpp (sas hE rfl fun a hE=>qa ?_))))
  exact K4 (wp_ret (qb (qi hE rfl rfl ⟨(by simp [checkH,hb6]),hM.pick [] rfl⟩)))
 ·replace hb6 := not_false' hb6
  refine gy hE rfl (ql hE rfl (hM.get 0 rfl) row62 rfl (by intro X h;cases h) rfl fun a hE=>?_)
  replace hE := hE.cast 7 rfl (show _ = Value.agg ([[.int .i64 h.m],[.int .i64 h.r],[.bool h.v0.1],[.int .u64 ((h.v0.2.1 : Nat) : Int)],bv h.v0.2.2.1,bv h.v0.2.2.2,[.bool h.v1.1],[.int .u64 ((h.v1.2.1 : Nat) : Int)],bv h.v1.2.2.1,bv h.v1.2.2.2,[.bool h.s0.1],[.int .i64 h.s0.2.1],bv h.s0.2.2.1,bv h.s0.2.2.2.1,bv h.s0.2.2.2.2,[.bool h.s1.1],[.int .i64 h.s1.2.1],bv h.s1.2.2.1,bv h.s1.2.2.2.1,bv h.s1.2.2.2.2,[.bool h.s2.1],[.int .i64 h.s2.2.1],bv h.s2.2.2.1,bv h.s2.2.2.2.1,bv h.s2.2.2.2.2,[.bool h.s3.1],[.int .i64 h.s3.2.1],bv h.s3.2.2.1,bv h.s3.2.2.2.1,bv h.s3.2.2.2.2] : List (List Value)).flatten.toArray from (by first | rfl | simp only [List.flatten_cons,List.flatten_nil,List.append_nil,List.append_assoc]))
  refine gy hE rfl (qn hE rfl Tryd.call75 (long_c h _ hk ) rfl ?_)
  rintro e w3 ⟨rfl,hN⟩
  refine ⟨_,rfl,trivial,fun a hE=>?_⟩
  replace hM : Mem _ _ w3 [_] := hM.call0 hN trivial;clear hN
  refine pkf hE rfl fun a hE=>qa (K3 ?_)
  refine hE.split 9 rfl (fun hb9 hE=>?_) (fun hb9 hE=>?_)
  ·exact wct hE rfl (ww1 fun _ K4=>wpp (sas hE rfl fun a hE=>qa (K4 (wp_ret (qb (qi hE rfl rfl ⟨(by simp [checkH,hb6,hb9]),hM.pick [] rfl⟩))))))
  ·exact wcf hE rfl (wp_skip (K2 (ww1 fun _ K4=>wpp (sas hE rfl fun a hE=>qa (K4 (wp_ret (qi hE rfl rfl ⟨(by simp [checkH,hb6,hb9]),hM.pick [] rfl⟩)))))))
set_option maxHeartbeats 2000000 in
theorem rshaped_c (h : Hd) (w : World) (hk : OkHd h) : Calls Tryd.prog 72 #[.agg ([[.int .i64 h.m],[.int .i64 h.r],[.bool h.v0.1],[.int .u64 ((h.v0.2.1 : Nat) : Int)],bv h.v0.2.2.1,bv h.v0.2.2.2,[.bool h.v1.1],[.int .u64 ((h.v1.2.1 : Nat) : Int)],bv h.v1.2.2.1,bv h.v1.2.2.2,[.bool h.s0.1],[.int .i64 h.s0.2.1],bv h.s0.2.2.1,bv h.s0.2.2.2.1,bv h.s0.2.2.2.2,[.bool h.s1.1],[.int .i64 h.s1.2.1],bv h.s1.2.2.1,bv h.s1.2.2.2.1,bv h.s1.2.2.2.2,[.bool h.s2.1],[.int .i64 h.s2.2.1],bv h.s2.2.2.1,bv h.s2.2.2.2.1,bv h.s2.2.2.2.2,[.bool h.s3.1],[.int .i64 h.s3.2.1],bv h.s3.2.2.1,bv h.s3.2.2.2.1,bv h.s3.2.2.2.2] : List (List Value)).flatten.toArray] w fun e w' => e = .returned (.bool (shapedB h)) ∧ Mem w [] w' [] := by
 have hi0 := hk.s0.1
 have hi1 := hk.s1.1
 have hi2 := hk.s2.1
 have hi3 := hk.s3.1
 have hn0 := hk.v0.1
 have hn1 := hk.v1.1
 have hM := Mem.start0 w
 refine ve 57 Tryd.func72 rfl rfl rfl ?_
 intro a hE
 replace hE : Env a 57 [(0,_)] := hE
 refine ww1 fun _ K1=>wpp ?_
 have hbl1_4 : h.v0.2.2.1.length = 32 := hk.v0.2.1
 have hbl1_5 : h.v0.2.2.2.length = 32 := hk.v0.2.2
 have hbl1_8 : h.v1.2.2.1.length = 32 := hk.v1.2.1
 have hbl1_9 : h.v1.2.2.2.length = 32 := hk.v1.2.2
 have hbl1_12 : h.s0.2.2.1.length = 16 := hk.s0.2.1
 have hbl1_13 : h.s0.2.2.2.1.length = 32 := hk.s0.2.2.1
 have hbl1_14 : h.s0.2.2.2.2.length = 32 := hk.s0.2.2.2
 have hbl1_17 : h.s1.2.2.1.length = 16 := hk.s1.2.1
 have hbl1_18 : h.s1.2.2.2.1.length = 32 := hk.s1.2.2.1
 have hbl1_19 : h.s1.2.2.2.2.length = 32 := hk.s1.2.2.2
 have hbl1_22 : h.s2.2.2.1.length = 16 := hk.s2.2.1
 have hbl1_23 : h.s2.2.2.2.1.length = 32 := hk.s2.2.2.1
 have hbl1_24 : h.s2.2.2.2.2.length = 32 := hk.s2.2.2.2
 have hbl1_27 : h.s3.2.2.1.length = 16 := hk.s3.2.1
 have hbl1_28 : h.s3.2.2.2.1.length = 32 := hk.s3.2.2.1
 have hbl1_29 : h.s3.2.2.2.2.length = 32 := hk.s3.2.2.2
 refine s_box (ss := [[.int .i64 h.m],[.int .i64 h.r],[.bool h.v0.1],[.int .u64 ((h.v0.2.1 : Nat) : Int)],bv h.v0.2.2.1,bv h.v0.2.2.2,[.bool h.v1.1],[.int .u64 ((h.v1.2.1 : Nat) : Int)],bv h.v1.2.2.1,bv h.v1.2.2.2,[.bool h.s0.1],[.int .i64 h.s0.2.1],bv h.s0.2.2.1,bv h.s0.2.2.2.1,bv h.s0.2.2.2.2,[.bool h.s1.1],[.int .i64 h.s1.2.1],bv h.s1.2.2.1,bv h.s1.2.2.2.1,bv h.s1.2.2.2.2,[.bool h.s2.1],[.int .i64 h.s2.2.1],bv h.s2.2.2.1,bv h.s2.2.2.2.1,bv h.s2.2.2.2.2,[.bool h.s3.1],[.int .i64 h.s3.2.1],bv h.s3.2.2.1,bv h.s3.2.2.2.1,bv h.s3.2.2.2.2]) [1,1,1,1,32,32,1,1,32,32,1,1,16,32,32,1,1,16,32,32,1,1,16,32,32,1,1,16,32,32] hE hM rfl rfl (by simp only [List.map_cons,List.map_nil,vh,List.length_cons,List.length_nil,List.length_replicate,hbl1_4,hbl1_5,hbl1_8,hbl1_9,hbl1_12,hbl1_13,hbl1_14,hbl1_17,hbl1_18,hbl1_19,hbl1_22,hbl1_23,hbl1_24,hbl1_27,hbl1_28,hbl1_29]) rfl fun a b1 w1 hE hM=>?_
 refine sas hE rfl fun a hE=>qa (K1 (ww1 fun _ K2=>ww1 fun _ K3=>wpp (sf hE rfl fo62_0 fun a hE=>ql hE rfl (hM.get 0 rfl) row52 rfl (by intro X h;cases h) rfl fun a hE=>?_)))
 replace hE := hE.cast 8 rfl (show _ = Value.agg ([[.int .i64 h.m],[.int .i64 h.r]] : List (List Value)).flatten.toArray from (by first | rfl | simp only [List.flatten_cons,List.flatten_nil,List.append_nil,List.append_assoc]))
 refine qn hE rfl Tryd.call86 (rgeocheck_c h.m h.r _ ) rfl ?_
 rintro e w2 ⟨rfl,hN⟩
 refine ⟨_,rfl,trivial,fun a hE=>?_⟩
 replace hM : Mem _ _ w2 [_] := hM.call0 hN trivial;clear hN
 refine sb hE rfl rfl bin_neq fun a hE=>qa (K3 ?_)
 refine hE.split 10 rfl (fun hb10 hE=>?_) (fun hb10 hE=>?_)
 ·replace hb10 := of_decide_eq_false (not_true hb10)
  replace hb10 : ¬ ((if geoB h.m h.r then 0 else 2) = 0) := by omega
  exact wct hE rfl (ww1 fun _ K4=>wpp (sas hE rfl fun a hE=>qa (K4 (wp_ret (qb (qi hE rfl rfl ⟨(by have hg : geoB h.m h.r = false := (by cases hgg : geoB h.m h.r <;> simp_all);simp [shapedB,hg]),hM.pick [] rfl⟩))))))
 ·replace hb10 := of_decide_eq_true (not_false' hb10)
  replace hb10 : (if geoB h.m h.r then 0 else 2) = 0 := by omega
  refine wcf hE rfl (wp_skip (K2 (ww1 fun _ K4=>ww1 fun _ K5=>wpp (sas hE rfl fun a hE=>qa (K5 (wp_block ?_))))))
  refine wp_loop_rounds 3 ?_
  refine c_roundsJ (fun a w' => volB h.v0 = true ∧ Env a 57 [(1,.pointer (some ⟨b1,0,none⟩)),(2,.bool false),(3,.int .i64 1),(10,.bool false)] ∧ Mem w [] w' [blk b1 [[.int .i64 h.m],[.int .i64 h.r],[.bool h.v0.1],[.int .u64 ((h.v0.2.1 : Nat) : Int)],bv h.v0.2.2.1,bv h.v0.2.2.2,[.bool h.v1.1],[.int .u64 ((h.v1.2.1 : Nat) : Int)],bv h.v1.2.2.1,bv h.v1.2.2.2,[.bool h.s0.1],[.int .i64 h.s0.2.1],bv h.s0.2.2.1,bv h.s0.2.2.2.1,bv h.s0.2.2.2.2,[.bool h.s1.1],[.int .i64 h.s1.2.1],bv h.s1.2.2.1,bv h.s1.2.2.2.1,bv h.s1.2.2.2.2,[.bool h.s2.1],[.int .i64 h.s2.2.1],bv h.s2.2.2.1,bv h.s2.2.2.2.1,bv h.s2.2.2.2.2,[.bool h.s3.1],[.int .i64 h.s3.2.1],bv h.s3.2.2.1,bv h.s3.2.2.2.1,bv h.s3.2.2.2.2] [1,1,1,1,32,32,1,1,32,32,1,1,16,32,32,1,1,16,32,32,1,1,16,32,32,1,1,16,32,32] 62]) ?_ ?_
  ·skip
   refine ww1 fun _ K6=>ww1 fun _ K7=>wpp (sm hE rfl fun a hE=>sb hE rfl rfl bin_lss fun a hE=>?_)
   replace hE := hE.cast 12 rfl (show _ = Value.bool true from (congrArg Value.bool (by decide)))
   refine qa (K7 (wct hE rfl (wp_skip (K6 (ww1 fun _ K8=>wp_block (ww1 fun _ K9=>wpp (sm hE rfl fun a hE=>?_)))))))
   refine sf hE rfl fo62_1 fun a hE=>qp (j := 0) hE rfl rfl arr55 rfl (by decide) rfl fun a hE=>?_
   refine ql hE rfl (hM.get 0 rfl) row54 rfl (by intro X h;cases h) rfl fun a hE=>?_
   replace hE := hE.cast 18 rfl (show _ = Value.agg ([[.bool h.v0.1],[.int .u64 ((h.v0.2.1 : Nat) : Int)],bv h.v0.2.2.1,bv h.v0.2.2.2] : List (List Value)).flatten.toArray from (by first | rfl | simp only [List.flatten_cons,List.flatten_nil,List.append_nil,List.append_assoc]))
   refine qo [1,1,32,32] hE hM zeroL54 rfl rfl fun a b4 w3 hE hM=>?_
   have hsl101_2 : h.v0.2.2.1.length = 32 := hk.v0.2.1
   have hsl101_3 : h.v0.2.2.2.length = 32 := hk.v0.2.2
   refine qq 0 4 (vss := [[.bool h.v0.1],[.int .u64 ((h.v0.2.1 : Nat) : Int)],bv h.v0.2.2.1,bv h.v0.2.2.2]) hE rfl rfl hM rfl sz54 (by simp only [List.take_succ_cons,List.take_zero,List.drop_zero,List.drop_succ_cons];simp only [List.map_cons,List.map_nil,vh,List.length_cons,List.length_nil,List.length_replicate,hsl101_2,hsl101_3]) (by decide) rfl (one_fl ⟨one1 rfl,one1 rfl,vc _,vc _,trivial⟩) rfl (by intro X h;cases h) fun w4 hM=>?_
   try simp only [List.take_zero,List.take_succ_cons,List.drop_zero,List.drop_succ_cons,List.take_nil,List.drop_nil,List.nil_append,List.append_nil,List.cons_append] at hM
   refine qa (K9 (ww1 fun _ K10=>wpp (sf hE rfl fo54_1 fun a hE=>qm hE rfl (hM.get 0 rfl) rfl one24 (by intro X h;cases h) rfl fun a hE=>?_)))
   refine sb hE rfl rfl bin_gtr fun a hE=>sm hE rfl fun a hE=>?_
   refine hE.split 22 rfl (fun hb22 hE=>?_) (fun hb22 hE=>?_)
   ·replace hb22 := of_decide_eq_true hb22
    replace hb22 : 4611686018427387904 < h.v0.2.1 := by omega
    refine gt hE rfl fun a hE=>gt hE rfl fun a hE=>gt hE rfl fun a hE=>gt hE rfl fun a hE=>g_und hE rfl rfl rfl fun a hE=>g_und hE rfl rfl rfl fun a hE=>g_und hE rfl rfl rfl fun a hE=>gt hE rfl fun a hE=>pkt hE rfl fun a hE=>qa ?_
    refine K10 (wct hE rfl (ww1 fun _ K11=>wpp (sas hE rfl fun a hE=>qa (K11 (wp_ret (qf (qb ?_)))))))
    exact qb (qf (qb (qi hE rfl rfl ⟨(by have hv : volB h.v0 = false := (by first | (simp [volB,volZ,hb22] <;> omega) | (simp_all [volB,volZ] <;> omega));simp [shapedB,hv]),hM.pick [] rfl⟩)))
   ·replace hb22 := of_decide_eq_false hb22
    replace hb22 : ¬ (4611686018427387904 < h.v0.2.1) := by omega
    refine gy hE rfl (sf hE rfl fo54_0 fun a hE=>gy hE rfl (qm hE rfl (hM.get 0 rfl) rfl one4 (by intro X h;cases h) rfl fun a hE=>?_))
    refine gy hE rfl (s_not hE rfl rfl fun a hE=>gy hE rfl (sm hE rfl fun a hE=>?_))
    refine hE.split 26 rfl (fun hb26 hE=>?_) (fun hb26 hE=>?_)
    ·replace hb26 := not_true hb26
     refine gy hE rfl (ql hE rfl (hM.get 0 rfl) row54 rfl (by intro X h;cases h) rfl fun a hE=>?_)
     replace hE := hE.cast 27 rfl (show _ = Value.agg ([[.bool h.v0.1],[.int .u64 ((h.v0.2.1 : Nat) : Int)],bv h.v0.2.2.1,bv h.v0.2.2.2] : List (List Value)).flatten.toArray from (by first | rfl | simp only [List.flatten_cons,List.flatten_nil,List.append_nil,List.append_assoc]))
     refine gy hE rfl (vf [] hE rfl zero54 (by kernel_rfl) fpl54 (by first | (simp [PartsOk,Value.cells];done) | (simp [PartsOk,Value.cells];omega)) rfl fun a hE=>?_)
     replace hE := hE.cast 28 rfl (show _ = Value.agg ([[.bool false],[.int .u64 0],bv (List.replicate 32 (0 : UInt8)),bv (List.replicate 32 (0 : UInt8))] : List (List Value)).flatten.toArray from (by first | rfl | simp [setAll] | (simp only [setAll,List.set_cons_zero,List.set_cons_succ,List.flatten_cons,List.flatten_nil,List.append_nil,List.append_assoc,List.replicate_succ,List.replicate_zero])))
     refine gy hE rfl ?_
     refine sb hE rfl rfl ((eqk54 (b := decide (h.v0.1 = false ∧ (((h.v0.2.1 : Nat) : Int) : Int) = 0 ∧ h.v0.2.2.1 = (List.replicate 32 (0 : UInt8)) ∧ h.v0.2.2.2 = (List.replicate 32 (0 : UInt8)))) (klL54 (k := 0) (x0 := h.v0.1) (x1 := ((h.v0.2.1 : Nat) : Int)) (x2 := h.v0.2.2.1) (x3 := h.v0.2.2.2) (wf_u64 hk.v0.1) hk.v0.2.1 hk.v0.2.2) (klL54 (k := 0) (x0 := false) (x1 := 0) (x2 := List.replicate 32 (0 : UInt8)) (x3 := List.replicate 32 (0 : UInt8)) (by first | exact wf_i64 (by assumption) | (simp [Lit.wf,IntKind.min,IntKind.max,IntKind.signed,IntKind.bits];try omega)) List.length_replicate List.length_replicate) (by rw [flat_eq (by have hl_x2 : h.v0.2.2.1.length = 32 := hk.v0.2.1;have hl_x3 : h.v0.2.2.2.length = 32 := hk.v0.2.2;have hl_y2 : (List.replicate 32 (0 : UInt8)).length = 32 := List.length_replicate;have hl_y3 : (List.replicate 32 (0 : UInt8)).length = 32 := List.length_replicate;simp only [List.map_cons,List.map_nil,vh,List.length_cons,List.length_nil,hl_x2,hl_x3,hl_y2,hl_y3])];simp [bv_iff,Int.ofNat_inj];try omega)).2) fun a hE=>?_
     refine gy hE rfl (pkt hE rfl fun a hE=>pkf hE rfl fun a hE=>qa (K10 ?_))
     refine hE.split 31 rfl (fun hb31 hE=>?_) (fun hb31 hE=>?_)
     ·replace hb31 := of_decide_eq_false (not_true hb31)
      refine wct hE rfl (ww1 fun _ K11=>wpp (sas hE rfl fun a hE=>qa (K11 (wp_ret (qf (qb (qb ?_)))))))
      exact qf (qb (qi hE rfl rfl ⟨(by have hv : volB h.v0 = false := (by first | (simp [volB,volZ,hb22,hb26,hb31] <;> omega) | (simp_all [volB,volZ] <;> omega));simp [shapedB,hv]),hM.pick [] rfl⟩))
     ·replace hb31 := of_decide_eq_true (not_false' hb31)
      refine wcf hE rfl (wp_skip (qe (K8 (wpp (sm hE rfl fun a hE=>sb hE rfl rfl (show Bin _ _ _ _ _ (.int .i64 1) from bin_add (by rw [wrap_i64 (by omega) (by omega)];omega)) fun a hE=>?_)))))
      refine sas hE rfl fun a hE=>qa ?_
      replace hM : Mem _ _ w4 [_] := hM.pick [1] rfl
      refine qd ⟨(by first | (simp [volB,volZ,hb10,hb22,hb26,hb31] <;> omega) | (simp_all [volB,volZ] <;> omega)),hE.sel [1,2,3,10] rfl,hM⟩
    ·replace hb26 := not_false' hb26
     refine gf hE rfl fun a hE=>gf hE rfl fun a hE=>gf hE rfl fun a hE=>gy hE rfl (pkf hE rfl fun a hE=>pkf hE rfl fun a hE=>qa (K10 (wcf hE rfl (wp_skip ?_))))
     refine qe (K8 (wpp (sm hE rfl fun a hE=>sb hE rfl rfl (show Bin _ _ _ _ _ (.int .i64 1) from bin_add (by rw [wrap_i64 (by omega) (by omega)];omega)) fun a hE=>?_)))
     refine sas hE rfl fun a hE=>qa ?_
     replace hM : Mem _ _ w4 [_] := hM.pick [1] rfl
     refine qd ⟨(by first | (simp [volB,volZ,hb10,hb22,hb26] <;> omega) | (simp_all [volB,volZ] <;> omega)),hE.sel [1,2,3,10] rfl,hM⟩
  rintro a w3 ⟨hJ4_0,hE,hM⟩
  refine c_roundsJ (fun a w' => volB h.v1 = true ∧ Env a 57 [(1,.pointer (some ⟨b1,0,none⟩)),(2,.bool false),(3,.int .i64 2),(10,.bool false)] ∧ Mem w [] w' [blk b1 [[.int .i64 h.m],[.int .i64 h.r],[.bool h.v0.1],[.int .u64 ((h.v0.2.1 : Nat) : Int)],bv h.v0.2.2.1,bv h.v0.2.2.2,[.bool h.v1.1],[.int .u64 ((h.v1.2.1 : Nat) : Int)],bv h.v1.2.2.1,bv h.v1.2.2.2,[.bool h.s0.1],[.int .i64 h.s0.2.1],bv h.s0.2.2.1,bv h.s0.2.2.2.1,bv h.s0.2.2.2.2,[.bool h.s1.1],[.int .i64 h.s1.2.1],bv h.s1.2.2.1,bv h.s1.2.2.2.1,bv h.s1.2.2.2.2,[.bool h.s2.1],[.int .i64 h.s2.2.1],bv h.s2.2.2.1,bv h.s2.2.2.2.1,bv h.s2.2.2.2.2,[.bool h.s3.1],[.int .i64 h.s3.2.1],bv h.s3.2.2.1,bv h.s3.2.2.2.1,bv h.s3.2.2.2.2] [1,1,1,1,32,32,1,1,32,32,1,1,16,32,32,1,1,16,32,32,1,1,16,32,32,1,1,16,32,32] 62]) ?_ ?_
  ·skip
   refine ww1 fun _ K6=>ww1 fun _ K7=>wpp (sm hE rfl fun a hE=>sb hE rfl rfl bin_lss fun a hE=>?_)
   replace hE := hE.cast 12 rfl (show _ = Value.bool true from (congrArg Value.bool (by decide)))
   refine qa (K7 (wct hE rfl (wp_skip (K6 (ww1 fun _ K8=>wp_block (ww1 fun _ K9=>wpp (sm hE rfl fun a hE=>?_)))))))
   refine sf hE rfl fo62_1 fun a hE=>qp (j := 1) hE rfl rfl arr55 rfl (by decide) rfl fun a hE=>?_
   refine ql hE rfl (hM.get 0 rfl) row54 rfl (by intro X h;cases h) rfl fun a hE=>?_
   replace hE := hE.cast 18 rfl (show _ = Value.agg ([[.bool h.v1.1],[.int .u64 ((h.v1.2.1 : Nat) : Int)],bv h.v1.2.2.1,bv h.v1.2.2.2] : List (List Value)).flatten.toArray from (by first | rfl | simp only [List.flatten_cons,List.flatten_nil,List.append_nil,List.append_assoc]))
   refine qo [1,1,32,32] hE hM zeroL54 rfl rfl fun a b4 w4 hE hM=>?_
   have hsl252_2 : h.v1.2.2.1.length = 32 := hk.v1.2.1
   have hsl252_3 : h.v1.2.2.2.length = 32 := hk.v1.2.2
   refine qq 0 4 (vss := [[.bool h.v1.1],[.int .u64 ((h.v1.2.1 : Nat) : Int)],bv h.v1.2.2.1,bv h.v1.2.2.2]) hE rfl rfl hM rfl sz54 (by simp only [List.take_succ_cons,List.take_zero,List.drop_zero,List.drop_succ_cons];simp only [List.map_cons,List.map_nil,vh,List.length_cons,List.length_nil,List.length_replicate,hsl252_2,hsl252_3]) (by decide) rfl (one_fl ⟨one1 rfl,one1 rfl,vc _,vc _,trivial⟩) rfl (by intro X h;cases h) fun w5 hM=>?_
   try simp only [List.take_zero,List.take_succ_cons,List.drop_zero,List.drop_succ_cons,List.take_nil,List.drop_nil,List.nil_append,List.append_nil,List.cons_append] at hM
   refine qa (K9 (ww1 fun _ K10=>wpp (sf hE rfl fo54_1 fun a hE=>qm hE rfl (hM.get 0 rfl) rfl one24 (by intro X h;cases h) rfl fun a hE=>?_)))
   refine sb hE rfl rfl bin_gtr fun a hE=>sm hE rfl fun a hE=>?_
   refine hE.split 22 rfl (fun hb22 hE=>?_) (fun hb22 hE=>?_)
   ·replace hb22 := of_decide_eq_true hb22
    replace hb22 : 4611686018427387904 < h.v1.2.1 := by omega
    refine gt hE rfl fun a hE=>gt hE rfl fun a hE=>gt hE rfl fun a hE=>gt hE rfl fun a hE=>g_und hE rfl rfl rfl fun a hE=>g_und hE rfl rfl rfl fun a hE=>g_und hE rfl rfl rfl fun a hE=>gt hE rfl fun a hE=>pkt hE rfl fun a hE=>qa ?_
    refine K10 (wct hE rfl (ww1 fun _ K11=>wpp (sas hE rfl fun a hE=>qa (K11 (wp_ret (qf (qb ?_)))))))
    exact qb (qf (qb (qi hE rfl rfl ⟨(by have hv : volB h.v1 = false := (by first | (simp [volB,volZ,hb22] <;> omega) | (simp_all [volB,volZ] <;> omega));simp [shapedB,hv]),hM.pick [] rfl⟩)))
   ·replace hb22 := of_decide_eq_false hb22
    replace hb22 : ¬ (4611686018427387904 < h.v1.2.1) := by omega
    refine gy hE rfl (sf hE rfl fo54_0 fun a hE=>gy hE rfl (qm hE rfl (hM.get 0 rfl) rfl one4 (by intro X h;cases h) rfl fun a hE=>?_))
    refine gy hE rfl (s_not hE rfl rfl fun a hE=>gy hE rfl (sm hE rfl fun a hE=>?_))
    refine hE.split 26 rfl (fun hb26 hE=>?_) (fun hb26 hE=>?_)
    ·replace hb26 := not_true hb26
     refine gy hE rfl (ql hE rfl (hM.get 0 rfl) row54 rfl (by intro X h;cases h) rfl fun a hE=>?_)
     replace hE := hE.cast 27 rfl (show _ = Value.agg ([[.bool h.v1.1],[.int .u64 ((h.v1.2.1 : Nat) : Int)],bv h.v1.2.2.1,bv h.v1.2.2.2] : List (List Value)).flatten.toArray from (by first | rfl | simp only [List.flatten_cons,List.flatten_nil,List.append_nil,List.append_assoc]))
     refine gy hE rfl (vf [] hE rfl zero54 (by kernel_rfl) fpl54 (by first | (simp [PartsOk,Value.cells];done) | (simp [PartsOk,Value.cells];omega)) rfl fun a hE=>?_)
     replace hE := hE.cast 28 rfl (show _ = Value.agg ([[.bool false],[.int .u64 0],bv (List.replicate 32 (0 : UInt8)),bv (List.replicate 32 (0 : UInt8))] : List (List Value)).flatten.toArray from (by first | rfl | simp [setAll] | (simp only [setAll,List.set_cons_zero,List.set_cons_succ,List.flatten_cons,List.flatten_nil,List.append_nil,List.append_assoc,List.replicate_succ,List.replicate_zero])))
     refine gy hE rfl ?_
     refine sb hE rfl rfl ((eqk54 (b := decide (h.v1.1 = false ∧ (((h.v1.2.1 : Nat) : Int) : Int) = 0 ∧ h.v1.2.2.1 = (List.replicate 32 (0 : UInt8)) ∧ h.v1.2.2.2 = (List.replicate 32 (0 : UInt8)))) (klL54 (k := 0) (x0 := h.v1.1) (x1 := ((h.v1.2.1 : Nat) : Int)) (x2 := h.v1.2.2.1) (x3 := h.v1.2.2.2) (wf_u64 hk.v1.1) hk.v1.2.1 hk.v1.2.2) (klL54 (k := 0) (x0 := false) (x1 := 0) (x2 := List.replicate 32 (0 : UInt8)) (x3 := List.replicate 32 (0 : UInt8)) (by first | exact wf_i64 (by assumption) | (simp [Lit.wf,IntKind.min,IntKind.max,IntKind.signed,IntKind.bits];try omega)) List.length_replicate List.length_replicate) (by rw [flat_eq (by have hl_x2 : h.v1.2.2.1.length = 32 := hk.v1.2.1;have hl_x3 : h.v1.2.2.2.length = 32 := hk.v1.2.2;have hl_y2 : (List.replicate 32 (0 : UInt8)).length = 32 := List.length_replicate;have hl_y3 : (List.replicate 32 (0 : UInt8)).length = 32 := List.length_replicate;simp only [List.map_cons,List.map_nil,vh,List.length_cons,List.length_nil,hl_x2,hl_x3,hl_y2,hl_y3])];simp [bv_iff,Int.ofNat_inj];try omega)).2) fun a hE=>?_
     refine gy hE rfl (pkt hE rfl fun a hE=>pkf hE rfl fun a hE=>qa (K10 ?_))
     refine hE.split 31 rfl (fun hb31 hE=>?_) (fun hb31 hE=>?_)
     ·replace hb31 := of_decide_eq_false (not_true hb31)
      refine wct hE rfl (ww1 fun _ K11=>wpp (sas hE rfl fun a hE=>qa (K11 (wp_ret (qf (qb (qb ?_)))))))
      exact qf (qb (qi hE rfl rfl ⟨(by have hv : volB h.v1 = false := (by first | (simp [volB,volZ,hb22,hb26,hb31] <;> omega) | (simp_all [volB,volZ] <;> omega));simp [shapedB,hv]),hM.pick [] rfl⟩))
     ·replace hb31 := of_decide_eq_true (not_false' hb31)
      refine wcf hE rfl (wp_skip (qe (K8 (wpp (sm hE rfl fun a hE=>sb hE rfl rfl (show Bin _ _ _ _ _ (.int .i64 2) from bin_add (by rw [wrap_i64 (by omega) (by omega)];omega)) fun a hE=>?_)))))
      refine sas hE rfl fun a hE=>qa ?_
      replace hM : Mem _ _ w5 [_] := hM.pick [1] rfl
      refine qd ⟨(by first | (simp [volB,volZ,hb10,hJ4_0,hb22,hb26,hb31] <;> omega) | (simp_all [volB,volZ] <;> omega)),hE.sel [1,2,3,10] rfl,hM⟩
    ·replace hb26 := not_false' hb26
     refine gf hE rfl fun a hE=>gf hE rfl fun a hE=>gf hE rfl fun a hE=>gy hE rfl (pkf hE rfl fun a hE=>pkf hE rfl fun a hE=>qa (K10 (wcf hE rfl (wp_skip ?_))))
     refine qe (K8 (wpp (sm hE rfl fun a hE=>sb hE rfl rfl (show Bin _ _ _ _ _ (.int .i64 2) from bin_add (by rw [wrap_i64 (by omega) (by omega)];omega)) fun a hE=>?_)))
     refine sas hE rfl fun a hE=>qa ?_
     replace hM : Mem _ _ w5 [_] := hM.pick [1] rfl
     refine qd ⟨(by first | (simp [volB,volZ,hb10,hJ4_0,hb22,hb26] <;> omega) | (simp_all [volB,volZ] <;> omega)),hE.sel [1,2,3,10] rfl,hM⟩
  rintro a w4 ⟨hJ4_1,hE,hM⟩
  refine c_rounds (ww1 fun _ K6=>ww1 fun _ K7=>wpp (sm hE rfl fun a hE=>sb hE rfl rfl bin_lss fun a hE=>?_))
  replace hE := hE.cast 12 rfl (show _ = Value.bool false from (congrArg Value.bool (by decide)))
  refine qa (K7 (wcf hE rfl (wp_exit (qc (qc (qg (K4 (ww1 fun _ K8=>ww1 fun _ K9=>?_))))))))
  refine wpp (sas hE rfl fun a hE=>qa (K9 (wp_block (wp_loop_rounds 5 ?_))))
  refine c_roundsJ (fun a w' => slotB h.s0 = true ∧ Env a 57 [(1,.pointer (some ⟨b1,0,none⟩)),(2,.bool false),(3,.int .i64 2),(5,.int .i64 1),(10,.bool false),(12,.bool false)] ∧ Mem w [] w' [blk b1 [[.int .i64 h.m],[.int .i64 h.r],[.bool h.v0.1],[.int .u64 ((h.v0.2.1 : Nat) : Int)],bv h.v0.2.2.1,bv h.v0.2.2.2,[.bool h.v1.1],[.int .u64 ((h.v1.2.1 : Nat) : Int)],bv h.v1.2.2.1,bv h.v1.2.2.2,[.bool h.s0.1],[.int .i64 h.s0.2.1],bv h.s0.2.2.1,bv h.s0.2.2.2.1,bv h.s0.2.2.2.2,[.bool h.s1.1],[.int .i64 h.s1.2.1],bv h.s1.2.2.1,bv h.s1.2.2.2.1,bv h.s1.2.2.2.2,[.bool h.s2.1],[.int .i64 h.s2.2.1],bv h.s2.2.2.1,bv h.s2.2.2.2.1,bv h.s2.2.2.2.2,[.bool h.s3.1],[.int .i64 h.s3.2.1],bv h.s3.2.2.1,bv h.s3.2.2.2.1,bv h.s3.2.2.2.2] [1,1,1,1,32,32,1,1,32,32,1,1,16,32,32,1,1,16,32,32,1,1,16,32,32,1,1,16,32,32] 62]) ?_ ?_
  ·skip
   refine ww1 fun _ K10=>ww1 fun _ K11=>wpp (sm hE rfl fun a hE=>sb hE rfl rfl bin_lss fun a hE=>?_)
   replace hE := hE.cast 33 rfl (show _ = Value.bool true from (congrArg Value.bool (by decide)))
   refine qa (K11 (wct hE rfl (wp_skip (K10 (ww1 fun _ K12=>wp_block (ww1 fun _ K13=>wpp (sm hE rfl fun a hE=>?_)))))))
   refine sf hE rfl fo62_2 fun a hE=>qp (j := 0) hE rfl rfl arr60 rfl (by decide) rfl fun a hE=>?_
   refine ql hE rfl (hM.get 0 rfl) row59 rfl (by intro X h;cases h) rfl fun a hE=>?_
   replace hE := hE.cast 39 rfl (show _ = Value.agg ([[.bool h.s0.1],[.int .i64 h.s0.2.1],bv h.s0.2.2.1,bv h.s0.2.2.2.1,bv h.s0.2.2.2.2] : List (List Value)).flatten.toArray from (by first | rfl | simp only [List.flatten_cons,List.flatten_nil,List.append_nil,List.append_assoc]))
   refine qo [1,1,16,32,32] hE hM zeroL59 rfl rfl fun a b6 w5 hE hM=>?_
   have hsl427_2 : h.s0.2.2.1.length = 16 := hk.s0.2.1
   have hsl427_3 : h.s0.2.2.2.1.length = 32 := hk.s0.2.2.1
   have hsl427_4 : h.s0.2.2.2.2.length = 32 := hk.s0.2.2.2
   refine qq 0 5 (vss := [[.bool h.s0.1],[.int .i64 h.s0.2.1],bv h.s0.2.2.1,bv h.s0.2.2.2.1,bv h.s0.2.2.2.2]) hE rfl rfl hM rfl sz59 (by simp only [List.take_succ_cons,List.take_zero,List.drop_zero,List.drop_succ_cons];simp only [List.map_cons,List.map_nil,vh,List.length_cons,List.length_nil,List.length_replicate,hsl427_2,hsl427_3,hsl427_4]) (by decide) rfl (one_fl ⟨one1 rfl,one1 rfl,vc _,vc _,vc _,trivial⟩) rfl (by intro X h;cases h) fun w6 hM=>?_
   try simp only [List.take_zero,List.take_succ_cons,List.drop_zero,List.drop_succ_cons,List.take_nil,List.drop_nil,List.nil_append,List.append_nil,List.cons_append] at hM
   refine qa (K13 (ww1 fun _ K14=>wpp (sf hE rfl fo59_0 fun a hE=>qm hE rfl (hM.get 0 rfl) rfl one4 (by intro X h;cases h) rfl fun a hE=>?_)))
   refine s_not hE rfl rfl fun a hE=>sm hE rfl fun a hE=>?_
   refine hE.split 43 rfl (fun hb43 hE=>?_) (fun hb43 hE=>?_)
   ·replace hb43 := not_true hb43
    refine gy hE rfl (ql hE rfl (hM.get 0 rfl) row59 rfl (by intro X h;cases h) rfl fun a hE=>?_)
    replace hE := hE.cast 44 rfl (show _ = Value.agg ([[.bool h.s0.1],[.int .i64 h.s0.2.1],bv h.s0.2.2.1,bv h.s0.2.2.2.1,bv h.s0.2.2.2.2] : List (List Value)).flatten.toArray from (by first | rfl | simp only [List.flatten_cons,List.flatten_nil,List.append_nil,List.append_assoc]))
    refine gy hE rfl (vf [] hE rfl zero59 (by kernel_rfl) fpl59 (by first | (simp [PartsOk,Value.cells];done) | (simp [PartsOk,Value.cells];omega)) rfl fun a hE=>?_)
    replace hE := hE.cast 45 rfl (show _ = Value.agg ([[.bool false],[.int .i64 0],bv (List.replicate 16 (0 : UInt8)),bv (List.replicate 32 (0 : UInt8)),bv (List.replicate 32 (0 : UInt8))] : List (List Value)).flatten.toArray from (by first | rfl | simp [setAll] | (simp only [setAll,List.set_cons_zero,List.set_cons_succ,List.flatten_cons,List.flatten_nil,List.append_nil,List.append_assoc,List.replicate_succ,List.replicate_zero])))
    refine gy hE rfl ?_
    refine sb hE rfl rfl ((eqk59 (b := decide (h.s0.1 = false ∧ (h.s0.2.1 : Int) = 0 ∧ h.s0.2.2.1 = (List.replicate 16 (0 : UInt8)) ∧ h.s0.2.2.2.1 = (List.replicate 32 (0 : UInt8)) ∧ h.s0.2.2.2.2 = (List.replicate 32 (0 : UInt8)))) (klL59 (k := 0) (x0 := h.s0.1) (x1 := h.s0.2.1) (x2 := h.s0.2.2.1) (x3 := h.s0.2.2.2.1) (x4 := h.s0.2.2.2.2) (wf_i64 hk.s0.1) hk.s0.2.1 hk.s0.2.2.1 hk.s0.2.2.2) (klL59 (k := 0) (x0 := false) (x1 := 0) (x2 := List.replicate 16 (0 : UInt8)) (x3 := List.replicate 32 (0 : UInt8)) (x4 := List.replicate 32 (0 : UInt8)) (by first | exact wf_i64 (by assumption) | (simp [Lit.wf,IntKind.min,IntKind.max,IntKind.signed,IntKind.bits];try omega)) List.length_replicate List.length_replicate List.length_replicate) (by rw [flat_eq (by have hl_x2 : h.s0.2.2.1.length = 16 := hk.s0.2.1;have hl_x3 : h.s0.2.2.2.1.length = 32 := hk.s0.2.2.1;have hl_x4 : h.s0.2.2.2.2.length = 32 := hk.s0.2.2.2;have hl_y2 : (List.replicate 16 (0 : UInt8)).length = 16 := List.length_replicate;have hl_y3 : (List.replicate 32 (0 : UInt8)).length = 32 := List.length_replicate;have hl_y4 : (List.replicate 32 (0 : UInt8)).length = 32 := List.length_replicate;simp only [List.map_cons,List.map_nil,vh,List.length_cons,List.length_nil,hl_x2,hl_x3,hl_x4,hl_y2,hl_y3,hl_y4])];simp [bv_iff,Int.ofNat_inj];try omega)).2) fun a hE=>?_
    refine pkt hE rfl fun a hE=>sm hE rfl fun a hE=>?_
    refine hE.split 48 rfl (fun hb48 hE=>?_) (fun hb48 hE=>?_)
    ·replace hb48 := of_decide_eq_false (not_true hb48)
     refine gt hE rfl fun a hE=>gt hE rfl fun a hE=>gt hE rfl fun a hE=>g_und hE rfl rfl rfl fun a hE=>g_und hE rfl rfl rfl fun a hE=>g_und hE rfl rfl rfl fun a hE=>gt hE rfl fun a hE=>pkt hE rfl fun a hE=>qa (K14 ?_)
     refine wct hE rfl (ww1 fun _ K15=>wpp (sas hE rfl fun a hE=>qa (K15 (wp_ret (qf (qb (qb ?_)))))))
     exact qf (qb (qi hE rfl rfl ⟨(by have hv : slotB h.s0 = false := (by first | (simp [slotB,slotZ,hb43,hb48] <;> omega) | (simp_all [slotB,slotZ] <;> omega));simp [shapedB,hv]),hM.pick [] rfl⟩))
    ·replace hb48 := of_decide_eq_true (not_false' hb48)
     refine gy hE rfl (sf hE rfl fo59_0 fun a hE=>gy hE rfl (qm hE rfl (hM.get 0 rfl) rfl one4 (by intro X h;cases h) rfl fun a hE=>?_))
     refine gy hE rfl (sm hE rfl fun a hE=>?_)
     refine hE.split 51 rfl (fun hb51 hE=>?_) (fun hb51 hE=>?_)
     ·refine gy hE rfl (sf hE rfl fo59_1 fun a hE=>gy hE rfl (qm hE rfl (hM.get 0 rfl) rfl one3 (by intro X h;cases h) rfl fun a hE=>?_))
      refine gy hE rfl (sb hE rfl rfl bin_lss fun a hE=>gy hE rfl (pkt hE rfl fun a hE=>pkf hE rfl fun a hE=>qa (K14 ?_)))
      refine hE.split 56 rfl (fun hb56 hE=>?_) (fun hb56 hE=>?_)
      ·replace hb56 := of_decide_eq_true hb56
       refine wct hE rfl (ww1 fun _ K15=>wpp (sas hE rfl fun a hE=>qa (K15 (wp_ret (qf (qb (qb ?_)))))))
       exact qf (qb (qi hE rfl rfl ⟨(by have hv : slotB h.s0 = false := (by first | (simp [slotB,slotZ,hb43,hb48,hb51,hb56] <;> omega) | (simp_all [slotB,slotZ] <;> omega));simp [shapedB,hv]),hM.pick [] rfl⟩))
      ·replace hb56 := of_decide_eq_false hb56
       refine wcf hE rfl (wp_skip (qe (K12 (wpp (sm hE rfl fun a hE=>sb hE rfl rfl (show Bin _ _ _ _ _ (.int .i64 1) from bin_add (by rw [wrap_i64 (by omega) (by omega)];omega)) fun a hE=>?_)))))
       refine sas hE rfl fun a hE=>qa ?_
       replace hM : Mem _ _ w6 [_] := hM.pick [1] rfl
       refine qd ⟨(by first | (simp [slotB,slotZ,hb10,hJ4_0,hJ4_1,hb43,hb48,hb51,hb56] <;> omega) | (simp_all [slotB,slotZ] <;> omega)),hE.sel [1,2,3,5,10,12] rfl,hM⟩
     ·refine gf hE rfl fun a hE=>gf hE rfl fun a hE=>gf hE rfl fun a hE=>gy hE rfl (pkf hE rfl fun a hE=>pkf hE rfl fun a hE=>qa (K14 (wcf hE rfl (wp_skip ?_))))
      refine qe (K12 (wpp (sm hE rfl fun a hE=>sb hE rfl rfl (show Bin _ _ _ _ _ (.int .i64 1) from bin_add (by rw [wrap_i64 (by omega) (by omega)];omega)) fun a hE=>?_)))
      refine sas hE rfl fun a hE=>qa ?_
      replace hM : Mem _ _ w6 [_] := hM.pick [1] rfl
      refine qd ⟨(by first | (simp [slotB,slotZ,hb10,hJ4_0,hJ4_1,hb43,hb48,hb51] <;> omega) | (simp_all [slotB,slotZ] <;> omega)),hE.sel [1,2,3,5,10,12] rfl,hM⟩
   ·replace hb43 := not_false' hb43
    refine gf hE rfl fun a hE=>gf hE rfl fun a hE=>gf hE rfl fun a hE=>pkf hE rfl fun a hE=>sm hE rfl fun a hE=>gy hE rfl (sf hE rfl fo59_0 fun a hE=>gy hE rfl (qm hE rfl (hM.get 0 rfl) rfl one4 (by intro X h;cases h) rfl fun a hE=>?_))
    refine gy hE rfl (sm hE rfl fun a hE=>?_)
    refine hE.split 51 rfl (fun hb51 hE=>?_) (fun hb51 hE=>?_)
    ·refine gy hE rfl (sf hE rfl fo59_1 fun a hE=>gy hE rfl (qm hE rfl (hM.get 0 rfl) rfl one3 (by intro X h;cases h) rfl fun a hE=>?_))
     refine gy hE rfl (sb hE rfl rfl bin_lss fun a hE=>gy hE rfl (pkt hE rfl fun a hE=>pkf hE rfl fun a hE=>qa (K14 ?_)))
     refine hE.split 56 rfl (fun hb56 hE=>?_) (fun hb56 hE=>?_)
     ·replace hb56 := of_decide_eq_true hb56
      refine wct hE rfl (ww1 fun _ K15=>wpp (sas hE rfl fun a hE=>qa (K15 (wp_ret (qf (qb (qb ?_)))))))
      exact qf (qb (qi hE rfl rfl ⟨(by have hv : slotB h.s0 = false := (by first | (simp [slotB,slotZ,hb43,hb51,hb56] <;> omega) | (simp_all [slotB,slotZ] <;> omega));simp [shapedB,hv]),hM.pick [] rfl⟩))
     ·replace hb56 := of_decide_eq_false hb56
      refine wcf hE rfl (wp_skip (qe (K12 (wpp (sm hE rfl fun a hE=>sb hE rfl rfl (show Bin _ _ _ _ _ (.int .i64 1) from bin_add (by rw [wrap_i64 (by omega) (by omega)];omega)) fun a hE=>?_)))))
      refine sas hE rfl fun a hE=>qa ?_
      replace hM : Mem _ _ w6 [_] := hM.pick [1] rfl
      refine qd ⟨(by first | (simp [slotB,slotZ,hb10,hJ4_0,hJ4_1,hb43,hb51,hb56] <;> omega) | (simp_all [slotB,slotZ] <;> omega)),hE.sel [1,2,3,5,10,12] rfl,hM⟩
    ·refine gf hE rfl fun a hE=>gf hE rfl fun a hE=>gf hE rfl fun a hE=>gy hE rfl (pkf hE rfl fun a hE=>pkf hE rfl fun a hE=>qa (K14 (wcf hE rfl (wp_skip ?_))))
     refine qe (K12 (wpp (sm hE rfl fun a hE=>sb hE rfl rfl (show Bin _ _ _ _ _ (.int .i64 1) from bin_add (by rw [wrap_i64 (by omega) (by omega)];omega)) fun a hE=>?_)))
     refine sas hE rfl fun a hE=>qa ?_
     replace hM : Mem _ _ w6 [_] := hM.pick [1] rfl
     refine qd ⟨(by first | (simp [slotB,slotZ,hb10,hJ4_0,hJ4_1,hb43,hb51] <;> omega) | (simp_all [slotB,slotZ] <;> omega)),hE.sel [1,2,3,5,10,12] rfl,hM⟩
  rintro a w5 ⟨hJ10_0,hE,hM⟩
  refine c_roundsJ (fun a w' => slotB h.s1 = true ∧ Env a 57 [(1,.pointer (some ⟨b1,0,none⟩)),(2,.bool false),(3,.int .i64 2),(5,.int .i64 2),(10,.bool false),(12,.bool false)] ∧ Mem w [] w' [blk b1 [[.int .i64 h.m],[.int .i64 h.r],[.bool h.v0.1],[.int .u64 ((h.v0.2.1 : Nat) : Int)],bv h.v0.2.2.1,bv h.v0.2.2.2,[.bool h.v1.1],[.int .u64 ((h.v1.2.1 : Nat) : Int)],bv h.v1.2.2.1,bv h.v1.2.2.2,[.bool h.s0.1],[.int .i64 h.s0.2.1],bv h.s0.2.2.1,bv h.s0.2.2.2.1,bv h.s0.2.2.2.2,[.bool h.s1.1],[.int .i64 h.s1.2.1],bv h.s1.2.2.1,bv h.s1.2.2.2.1,bv h.s1.2.2.2.2,[.bool h.s2.1],[.int .i64 h.s2.2.1],bv h.s2.2.2.1,bv h.s2.2.2.2.1,bv h.s2.2.2.2.2,[.bool h.s3.1],[.int .i64 h.s3.2.1],bv h.s3.2.2.1,bv h.s3.2.2.2.1,bv h.s3.2.2.2.2] [1,1,1,1,32,32,1,1,32,32,1,1,16,32,32,1,1,16,32,32,1,1,16,32,32,1,1,16,32,32] 62]) ?_ ?_
  ·skip
   refine ww1 fun _ K10=>ww1 fun _ K11=>wpp (sm hE rfl fun a hE=>sb hE rfl rfl bin_lss fun a hE=>?_)
   replace hE := hE.cast 33 rfl (show _ = Value.bool true from (congrArg Value.bool (by decide)))
   refine qa (K11 (wct hE rfl (wp_skip (K10 (ww1 fun _ K12=>wp_block (ww1 fun _ K13=>wpp (sm hE rfl fun a hE=>?_)))))))
   refine sf hE rfl fo62_2 fun a hE=>qp (j := 1) hE rfl rfl arr60 rfl (by decide) rfl fun a hE=>?_
   refine ql hE rfl (hM.get 0 rfl) row59 rfl (by intro X h;cases h) rfl fun a hE=>?_
   replace hE := hE.cast 39 rfl (show _ = Value.agg ([[.bool h.s1.1],[.int .i64 h.s1.2.1],bv h.s1.2.2.1,bv h.s1.2.2.2.1,bv h.s1.2.2.2.2] : List (List Value)).flatten.toArray from (by first | rfl | simp only [List.flatten_cons,List.flatten_nil,List.append_nil,List.append_assoc]))
   refine qo [1,1,16,32,32] hE hM zeroL59 rfl rfl fun a b6 w6 hE hM=>?_
   have hsl663_2 : h.s1.2.2.1.length = 16 := hk.s1.2.1
   have hsl663_3 : h.s1.2.2.2.1.length = 32 := hk.s1.2.2.1
   have hsl663_4 : h.s1.2.2.2.2.length = 32 := hk.s1.2.2.2
   refine qq 0 5 (vss := [[.bool h.s1.1],[.int .i64 h.s1.2.1],bv h.s1.2.2.1,bv h.s1.2.2.2.1,bv h.s1.2.2.2.2]) hE rfl rfl hM rfl sz59 (by simp only [List.take_succ_cons,List.take_zero,List.drop_zero,List.drop_succ_cons];simp only [List.map_cons,List.map_nil,vh,List.length_cons,List.length_nil,List.length_replicate,hsl663_2,hsl663_3,hsl663_4]) (by decide) rfl (one_fl ⟨one1 rfl,one1 rfl,vc _,vc _,vc _,trivial⟩) rfl (by intro X h;cases h) fun w7 hM=>?_
   try simp only [List.take_zero,List.take_succ_cons,List.drop_zero,List.drop_succ_cons,List.take_nil,List.drop_nil,List.nil_append,List.append_nil,List.cons_append] at hM
   refine qa (K13 (ww1 fun _ K14=>wpp (sf hE rfl fo59_0 fun a hE=>qm hE rfl (hM.get 0 rfl) rfl one4 (by intro X h;cases h) rfl fun a hE=>?_)))
   refine s_not hE rfl rfl fun a hE=>sm hE rfl fun a hE=>?_
   refine hE.split 43 rfl (fun hb43 hE=>?_) (fun hb43 hE=>?_)
   ·replace hb43 := not_true hb43
    refine gy hE rfl (ql hE rfl (hM.get 0 rfl) row59 rfl (by intro X h;cases h) rfl fun a hE=>?_)
    replace hE := hE.cast 44 rfl (show _ = Value.agg ([[.bool h.s1.1],[.int .i64 h.s1.2.1],bv h.s1.2.2.1,bv h.s1.2.2.2.1,bv h.s1.2.2.2.2] : List (List Value)).flatten.toArray from (by first | rfl | simp only [List.flatten_cons,List.flatten_nil,List.append_nil,List.append_assoc]))
    refine gy hE rfl (vf [] hE rfl zero59 (by kernel_rfl) fpl59 (by first | (simp [PartsOk,Value.cells];done) | (simp [PartsOk,Value.cells];omega)) rfl fun a hE=>?_)
    replace hE := hE.cast 45 rfl (show _ = Value.agg ([[.bool false],[.int .i64 0],bv (List.replicate 16 (0 : UInt8)),bv (List.replicate 32 (0 : UInt8)),bv (List.replicate 32 (0 : UInt8))] : List (List Value)).flatten.toArray from (by first | rfl | simp [setAll] | (simp only [setAll,List.set_cons_zero,List.set_cons_succ,List.flatten_cons,List.flatten_nil,List.append_nil,List.append_assoc,List.replicate_succ,List.replicate_zero])))
    refine gy hE rfl ?_
    refine sb hE rfl rfl ((eqk59 (b := decide (h.s1.1 = false ∧ (h.s1.2.1 : Int) = 0 ∧ h.s1.2.2.1 = (List.replicate 16 (0 : UInt8)) ∧ h.s1.2.2.2.1 = (List.replicate 32 (0 : UInt8)) ∧ h.s1.2.2.2.2 = (List.replicate 32 (0 : UInt8)))) (klL59 (k := 0) (x0 := h.s1.1) (x1 := h.s1.2.1) (x2 := h.s1.2.2.1) (x3 := h.s1.2.2.2.1) (x4 := h.s1.2.2.2.2) (wf_i64 hk.s1.1) hk.s1.2.1 hk.s1.2.2.1 hk.s1.2.2.2) (klL59 (k := 0) (x0 := false) (x1 := 0) (x2 := List.replicate 16 (0 : UInt8)) (x3 := List.replicate 32 (0 : UInt8)) (x4 := List.replicate 32 (0 : UInt8)) (by first | exact wf_i64 (by assumption) | (simp [Lit.wf,IntKind.min,IntKind.max,IntKind.signed,IntKind.bits];try omega)) List.length_replicate List.length_replicate List.length_replicate) (by rw [flat_eq (by have hl_x2 : h.s1.2.2.1.length = 16 := hk.s1.2.1;have hl_x3 : h.s1.2.2.2.1.length = 32 := hk.s1.2.2.1;have hl_x4 : h.s1.2.2.2.2.length = 32 := hk.s1.2.2.2;have hl_y2 : (List.replicate 16 (0 : UInt8)).length = 16 := List.length_replicate;have hl_y3 : (List.replicate 32 (0 : UInt8)).length = 32 := List.length_replicate;have hl_y4 : (List.replicate 32 (0 : UInt8)).length = 32 := List.length_replicate;simp only [List.map_cons,List.map_nil,vh,List.length_cons,List.length_nil,hl_x2,hl_x3,hl_x4,hl_y2,hl_y3,hl_y4])];simp [bv_iff,Int.ofNat_inj];try omega)).2) fun a hE=>?_
    refine pkt hE rfl fun a hE=>sm hE rfl fun a hE=>?_
    refine hE.split 48 rfl (fun hb48 hE=>?_) (fun hb48 hE=>?_)
    ·replace hb48 := of_decide_eq_false (not_true hb48)
     refine gt hE rfl fun a hE=>gt hE rfl fun a hE=>gt hE rfl fun a hE=>g_und hE rfl rfl rfl fun a hE=>g_und hE rfl rfl rfl fun a hE=>g_und hE rfl rfl rfl fun a hE=>gt hE rfl fun a hE=>pkt hE rfl fun a hE=>qa (K14 ?_)
     refine wct hE rfl (ww1 fun _ K15=>wpp (sas hE rfl fun a hE=>qa (K15 (wp_ret (qf (qb (qb ?_)))))))
     exact qf (qb (qi hE rfl rfl ⟨(by have hv : slotB h.s1 = false := (by first | (simp [slotB,slotZ,hb43,hb48] <;> omega) | (simp_all [slotB,slotZ] <;> omega));simp [shapedB,hv]),hM.pick [] rfl⟩))
    ·replace hb48 := of_decide_eq_true (not_false' hb48)
     refine gy hE rfl (sf hE rfl fo59_0 fun a hE=>gy hE rfl (qm hE rfl (hM.get 0 rfl) rfl one4 (by intro X h;cases h) rfl fun a hE=>?_))
     refine gy hE rfl (sm hE rfl fun a hE=>?_)
     refine hE.split 51 rfl (fun hb51 hE=>?_) (fun hb51 hE=>?_)
     ·refine gy hE rfl (sf hE rfl fo59_1 fun a hE=>gy hE rfl (qm hE rfl (hM.get 0 rfl) rfl one3 (by intro X h;cases h) rfl fun a hE=>?_))
      refine gy hE rfl (sb hE rfl rfl bin_lss fun a hE=>gy hE rfl (pkt hE rfl fun a hE=>pkf hE rfl fun a hE=>qa (K14 ?_)))
      refine hE.split 56 rfl (fun hb56 hE=>?_) (fun hb56 hE=>?_)
      ·replace hb56 := of_decide_eq_true hb56
       refine wct hE rfl (ww1 fun _ K15=>wpp (sas hE rfl fun a hE=>qa (K15 (wp_ret (qf (qb (qb ?_)))))))
       exact qf (qb (qi hE rfl rfl ⟨(by have hv : slotB h.s1 = false := (by first | (simp [slotB,slotZ,hb43,hb48,hb51,hb56] <;> omega) | (simp_all [slotB,slotZ] <;> omega));simp [shapedB,hv]),hM.pick [] rfl⟩))
      ·replace hb56 := of_decide_eq_false hb56
       refine wcf hE rfl (wp_skip (qe (K12 (wpp (sm hE rfl fun a hE=>sb hE rfl rfl (show Bin _ _ _ _ _ (.int .i64 2) from bin_add (by rw [wrap_i64 (by omega) (by omega)];omega)) fun a hE=>?_)))))
       refine sas hE rfl fun a hE=>qa ?_
       replace hM : Mem _ _ w7 [_] := hM.pick [1] rfl
       refine qd ⟨(by first | (simp [slotB,slotZ,hb10,hJ4_0,hJ4_1,hJ10_0,hb43,hb48,hb51,hb56] <;> omega) | (simp_all [slotB,slotZ] <;> omega)),hE.sel [1,2,3,5,10,12] rfl,hM⟩
     ·refine gf hE rfl fun a hE=>gf hE rfl fun a hE=>gf hE rfl fun a hE=>gy hE rfl (pkf hE rfl fun a hE=>pkf hE rfl fun a hE=>qa (K14 (wcf hE rfl (wp_skip ?_))))
      refine qe (K12 (wpp (sm hE rfl fun a hE=>sb hE rfl rfl (show Bin _ _ _ _ _ (.int .i64 2) from bin_add (by rw [wrap_i64 (by omega) (by omega)];omega)) fun a hE=>?_)))
      refine sas hE rfl fun a hE=>qa ?_
      replace hM : Mem _ _ w7 [_] := hM.pick [1] rfl
      refine qd ⟨(by first | (simp [slotB,slotZ,hb10,hJ4_0,hJ4_1,hJ10_0,hb43,hb48,hb51] <;> omega) | (simp_all [slotB,slotZ] <;> omega)),hE.sel [1,2,3,5,10,12] rfl,hM⟩
   ·replace hb43 := not_false' hb43
    refine gf hE rfl fun a hE=>gf hE rfl fun a hE=>gf hE rfl fun a hE=>pkf hE rfl fun a hE=>sm hE rfl fun a hE=>gy hE rfl (sf hE rfl fo59_0 fun a hE=>gy hE rfl (qm hE rfl (hM.get 0 rfl) rfl one4 (by intro X h;cases h) rfl fun a hE=>?_))
    refine gy hE rfl (sm hE rfl fun a hE=>?_)
    refine hE.split 51 rfl (fun hb51 hE=>?_) (fun hb51 hE=>?_)
    ·refine gy hE rfl (sf hE rfl fo59_1 fun a hE=>gy hE rfl (qm hE rfl (hM.get 0 rfl) rfl one3 (by intro X h;cases h) rfl fun a hE=>?_))
     refine gy hE rfl (sb hE rfl rfl bin_lss fun a hE=>gy hE rfl (pkt hE rfl fun a hE=>pkf hE rfl fun a hE=>qa (K14 ?_)))
     refine hE.split 56 rfl (fun hb56 hE=>?_) (fun hb56 hE=>?_)
     ·replace hb56 := of_decide_eq_true hb56
      refine wct hE rfl (ww1 fun _ K15=>wpp (sas hE rfl fun a hE=>qa (K15 (wp_ret (qf (qb (qb ?_)))))))
      exact qf (qb (qi hE rfl rfl ⟨(by have hv : slotB h.s1 = false := (by first | (simp [slotB,slotZ,hb43,hb51,hb56] <;> omega) | (simp_all [slotB,slotZ] <;> omega));simp [shapedB,hv]),hM.pick [] rfl⟩))
     ·replace hb56 := of_decide_eq_false hb56
      refine wcf hE rfl (wp_skip (qe (K12 (wpp (sm hE rfl fun a hE=>sb hE rfl rfl (show Bin _ _ _ _ _ (.int .i64 2) from bin_add (by rw [wrap_i64 (by omega) (by omega)];omega)) fun a hE=>?_)))))
      refine sas hE rfl fun a hE=>qa ?_
      replace hM : Mem _ _ w7 [_] := hM.pick [1] rfl
      refine qd ⟨(by first | (simp [slotB,slotZ,hb10,hJ4_0,hJ4_1,hJ10_0,hb43,hb51,hb56] <;> omega) | (simp_all [slotB,slotZ] <;> omega)),hE.sel [1,2,3,5,10,12] rfl,hM⟩
    ·refine gf hE rfl fun a hE=>gf hE rfl fun a hE=>gf hE rfl fun a hE=>gy hE rfl (pkf hE rfl fun a hE=>pkf hE rfl fun a hE=>qa (K14 (wcf hE rfl (wp_skip ?_))))
     refine qe (K12 (wpp (sm hE rfl fun a hE=>sb hE rfl rfl (show Bin _ _ _ _ _ (.int .i64 2) from bin_add (by rw [wrap_i64 (by omega) (by omega)];omega)) fun a hE=>?_)))
     refine sas hE rfl fun a hE=>qa ?_
     replace hM : Mem _ _ w7 [_] := hM.pick [1] rfl
     refine qd ⟨(by first | (simp [slotB,slotZ,hb10,hJ4_0,hJ4_1,hJ10_0,hb43,hb51] <;> omega) | (simp_all [slotB,slotZ] <;> omega)),hE.sel [1,2,3,5,10,12] rfl,hM⟩
  rintro a w6 ⟨hJ10_1,hE,hM⟩
  refine c_roundsJ (fun a w' => slotB h.s2 = true ∧ Env a 57 [(1,.pointer (some ⟨b1,0,none⟩)),(2,.bool false),(3,.int .i64 2),(5,.int .i64 3),(10,.bool false),(12,.bool false)] ∧ Mem w [] w' [blk b1 [[.int .i64 h.m],[.int .i64 h.r],[.bool h.v0.1],[.int .u64 ((h.v0.2.1 : Nat) : Int)],bv h.v0.2.2.1,bv h.v0.2.2.2,[.bool h.v1.1],[.int .u64 ((h.v1.2.1 : Nat) : Int)],bv h.v1.2.2.1,bv h.v1.2.2.2,[.bool h.s0.1],[.int .i64 h.s0.2.1],bv h.s0.2.2.1,bv h.s0.2.2.2.1,bv h.s0.2.2.2.2,[.bool h.s1.1],[.int .i64 h.s1.2.1],bv h.s1.2.2.1,bv h.s1.2.2.2.1,bv h.s1.2.2.2.2,[.bool h.s2.1],[.int .i64 h.s2.2.1],bv h.s2.2.2.1,bv h.s2.2.2.2.1,bv h.s2.2.2.2.2,[.bool h.s3.1],[.int .i64 h.s3.2.1],bv h.s3.2.2.1,bv h.s3.2.2.2.1,bv h.s3.2.2.2.2] [1,1,1,1,32,32,1,1,32,32,1,1,16,32,32,1,1,16,32,32,1,1,16,32,32,1,1,16,32,32] 62]) ?_ ?_
  ·skip
   refine ww1 fun _ K10=>ww1 fun _ K11=>wpp (sm hE rfl fun a hE=>sb hE rfl rfl bin_lss fun a hE=>?_)
   replace hE := hE.cast 33 rfl (show _ = Value.bool true from (congrArg Value.bool (by decide)))
   refine qa (K11 (wct hE rfl (wp_skip (K10 (ww1 fun _ K12=>wp_block (ww1 fun _ K13=>wpp (sm hE rfl fun a hE=>?_)))))))
   refine sf hE rfl fo62_2 fun a hE=>qp (j := 2) hE rfl rfl arr60 rfl (by decide) rfl fun a hE=>?_
   refine ql hE rfl (hM.get 0 rfl) row59 rfl (by intro X h;cases h) rfl fun a hE=>?_
   replace hE := hE.cast 39 rfl (show _ = Value.agg ([[.bool h.s2.1],[.int .i64 h.s2.2.1],bv h.s2.2.2.1,bv h.s2.2.2.2.1,bv h.s2.2.2.2.2] : List (List Value)).flatten.toArray from (by first | rfl | simp only [List.flatten_cons,List.flatten_nil,List.append_nil,List.append_assoc]))
   refine qo [1,1,16,32,32] hE hM zeroL59 rfl rfl fun a b6 w7 hE hM=>?_
   have hsl899_2 : h.s2.2.2.1.length = 16 := hk.s2.2.1
   have hsl899_3 : h.s2.2.2.2.1.length = 32 := hk.s2.2.2.1
   have hsl899_4 : h.s2.2.2.2.2.length = 32 := hk.s2.2.2.2
   refine qq 0 5 (vss := [[.bool h.s2.1],[.int .i64 h.s2.2.1],bv h.s2.2.2.1,bv h.s2.2.2.2.1,bv h.s2.2.2.2.2]) hE rfl rfl hM rfl sz59 (by simp only [List.take_succ_cons,List.take_zero,List.drop_zero,List.drop_succ_cons];simp only [List.map_cons,List.map_nil,vh,List.length_cons,List.length_nil,List.length_replicate,hsl899_2,hsl899_3,hsl899_4]) (by decide) rfl (one_fl ⟨one1 rfl,one1 rfl,vc _,vc _,vc _,trivial⟩) rfl (by intro X h;cases h) fun w8 hM=>?_
   try simp only [List.take_zero,List.take_succ_cons,List.drop_zero,List.drop_succ_cons,List.take_nil,List.drop_nil,List.nil_append,List.append_nil,List.cons_append] at hM
   refine qa (K13 (ww1 fun _ K14=>wpp (sf hE rfl fo59_0 fun a hE=>qm hE rfl (hM.get 0 rfl) rfl one4 (by intro X h;cases h) rfl fun a hE=>?_)))
   refine s_not hE rfl rfl fun a hE=>sm hE rfl fun a hE=>?_
   refine hE.split 43 rfl (fun hb43 hE=>?_) (fun hb43 hE=>?_)
   ·replace hb43 := not_true hb43
    refine gy hE rfl (ql hE rfl (hM.get 0 rfl) row59 rfl (by intro X h;cases h) rfl fun a hE=>?_)
    replace hE := hE.cast 44 rfl (show _ = Value.agg ([[.bool h.s2.1],[.int .i64 h.s2.2.1],bv h.s2.2.2.1,bv h.s2.2.2.2.1,bv h.s2.2.2.2.2] : List (List Value)).flatten.toArray from (by first | rfl | simp only [List.flatten_cons,List.flatten_nil,List.append_nil,List.append_assoc]))
    refine gy hE rfl (vf [] hE rfl zero59 (by kernel_rfl) fpl59 (by first | (simp [PartsOk,Value.cells];done) | (simp [PartsOk,Value.cells];omega)) rfl fun a hE=>?_)
    replace hE := hE.cast 45 rfl (show _ = Value.agg ([[.bool false],[.int .i64 0],bv (List.replicate 16 (0 : UInt8)),bv (List.replicate 32 (0 : UInt8)),bv (List.replicate 32 (0 : UInt8))] : List (List Value)).flatten.toArray from (by first | rfl | simp [setAll] | (simp only [setAll,List.set_cons_zero,List.set_cons_succ,List.flatten_cons,List.flatten_nil,List.append_nil,List.append_assoc,List.replicate_succ,List.replicate_zero])))
    refine gy hE rfl ?_
    refine sb hE rfl rfl ((eqk59 (b := decide (h.s2.1 = false ∧ (h.s2.2.1 : Int) = 0 ∧ h.s2.2.2.1 = (List.replicate 16 (0 : UInt8)) ∧ h.s2.2.2.2.1 = (List.replicate 32 (0 : UInt8)) ∧ h.s2.2.2.2.2 = (List.replicate 32 (0 : UInt8)))) (klL59 (k := 0) (x0 := h.s2.1) (x1 := h.s2.2.1) (x2 := h.s2.2.2.1) (x3 := h.s2.2.2.2.1) (x4 := h.s2.2.2.2.2) (wf_i64 hk.s2.1) hk.s2.2.1 hk.s2.2.2.1 hk.s2.2.2.2) (klL59 (k := 0) (x0 := false) (x1 := 0) (x2 := List.replicate 16 (0 : UInt8)) (x3 := List.replicate 32 (0 : UInt8)) (x4 := List.replicate 32 (0 : UInt8)) (by first | exact wf_i64 (by assumption) | (simp [Lit.wf,IntKind.min,IntKind.max,IntKind.signed,IntKind.bits];try omega)) List.length_replicate List.length_replicate List.length_replicate) (by rw [flat_eq (by have hl_x2 : h.s2.2.2.1.length = 16 := hk.s2.2.1;have hl_x3 : h.s2.2.2.2.1.length = 32 := hk.s2.2.2.1;have hl_x4 : h.s2.2.2.2.2.length = 32 := hk.s2.2.2.2;have hl_y2 : (List.replicate 16 (0 : UInt8)).length = 16 := List.length_replicate;have hl_y3 : (List.replicate 32 (0 : UInt8)).length = 32 := List.length_replicate;have hl_y4 : (List.replicate 32 (0 : UInt8)).length = 32 := List.length_replicate;simp only [List.map_cons,List.map_nil,vh,List.length_cons,List.length_nil,hl_x2,hl_x3,hl_x4,hl_y2,hl_y3,hl_y4])];simp [bv_iff,Int.ofNat_inj];try omega)).2) fun a hE=>?_
    refine pkt hE rfl fun a hE=>sm hE rfl fun a hE=>?_
    refine hE.split 48 rfl (fun hb48 hE=>?_) (fun hb48 hE=>?_)
    ·replace hb48 := of_decide_eq_false (not_true hb48)
     refine gt hE rfl fun a hE=>gt hE rfl fun a hE=>gt hE rfl fun a hE=>g_und hE rfl rfl rfl fun a hE=>g_und hE rfl rfl rfl fun a hE=>g_und hE rfl rfl rfl fun a hE=>gt hE rfl fun a hE=>pkt hE rfl fun a hE=>qa (K14 ?_)
     refine wct hE rfl (ww1 fun _ K15=>wpp (sas hE rfl fun a hE=>qa (K15 (wp_ret (qf (qb (qb ?_)))))))
     exact qf (qb (qi hE rfl rfl ⟨(by have hv : slotB h.s2 = false := (by first | (simp [slotB,slotZ,hb43,hb48] <;> omega) | (simp_all [slotB,slotZ] <;> omega));simp [shapedB,hv]),hM.pick [] rfl⟩))
    ·replace hb48 := of_decide_eq_true (not_false' hb48)
     refine gy hE rfl (sf hE rfl fo59_0 fun a hE=>gy hE rfl (qm hE rfl (hM.get 0 rfl) rfl one4 (by intro X h;cases h) rfl fun a hE=>?_))
     refine gy hE rfl (sm hE rfl fun a hE=>?_)
     refine hE.split 51 rfl (fun hb51 hE=>?_) (fun hb51 hE=>?_)
     ·refine gy hE rfl (sf hE rfl fo59_1 fun a hE=>gy hE rfl (qm hE rfl (hM.get 0 rfl) rfl one3 (by intro X h;cases h) rfl fun a hE=>?_))
      refine gy hE rfl (sb hE rfl rfl bin_lss fun a hE=>gy hE rfl (pkt hE rfl fun a hE=>pkf hE rfl fun a hE=>qa (K14 ?_)))
      refine hE.split 56 rfl (fun hb56 hE=>?_) (fun hb56 hE=>?_)
      ·replace hb56 := of_decide_eq_true hb56
       refine wct hE rfl (ww1 fun _ K15=>wpp (sas hE rfl fun a hE=>qa (K15 (wp_ret (qf (qb (qb ?_)))))))
       exact qf (qb (qi hE rfl rfl ⟨(by have hv : slotB h.s2 = false := (by first | (simp [slotB,slotZ,hb43,hb48,hb51,hb56] <;> omega) | (simp_all [slotB,slotZ] <;> omega));simp [shapedB,hv]),hM.pick [] rfl⟩))
      ·replace hb56 := of_decide_eq_false hb56
       refine wcf hE rfl (wp_skip (qe (K12 (wpp (sm hE rfl fun a hE=>sb hE rfl rfl (show Bin _ _ _ _ _ (.int .i64 3) from bin_add (by rw [wrap_i64 (by omega) (by omega)];omega)) fun a hE=>?_)))))
       refine sas hE rfl fun a hE=>qa ?_
       replace hM : Mem _ _ w8 [_] := hM.pick [1] rfl
       refine qd ⟨(by first | (simp [slotB,slotZ,hb10,hJ4_0,hJ4_1,hJ10_0,hJ10_1,hb43,hb48,hb51,hb56] <;> omega) | (simp_all [slotB,slotZ] <;> omega)),hE.sel [1,2,3,5,10,12] rfl,hM⟩
     ·refine gf hE rfl fun a hE=>gf hE rfl fun a hE=>gf hE rfl fun a hE=>gy hE rfl (pkf hE rfl fun a hE=>pkf hE rfl fun a hE=>qa (K14 (wcf hE rfl (wp_skip ?_))))
      refine qe (K12 (wpp (sm hE rfl fun a hE=>sb hE rfl rfl (show Bin _ _ _ _ _ (.int .i64 3) from bin_add (by rw [wrap_i64 (by omega) (by omega)];omega)) fun a hE=>?_)))
      refine sas hE rfl fun a hE=>qa ?_
      replace hM : Mem _ _ w8 [_] := hM.pick [1] rfl
      refine qd ⟨(by first | (simp [slotB,slotZ,hb10,hJ4_0,hJ4_1,hJ10_0,hJ10_1,hb43,hb48,hb51] <;> omega) | (simp_all [slotB,slotZ] <;> omega)),hE.sel [1,2,3,5,10,12] rfl,hM⟩
   ·replace hb43 := not_false' hb43
    refine gf hE rfl fun a hE=>gf hE rfl fun a hE=>gf hE rfl fun a hE=>pkf hE rfl fun a hE=>sm hE rfl fun a hE=>gy hE rfl (sf hE rfl fo59_0 fun a hE=>gy hE rfl (qm hE rfl (hM.get 0 rfl) rfl one4 (by intro X h;cases h) rfl fun a hE=>?_))
    refine gy hE rfl (sm hE rfl fun a hE=>?_)
    refine hE.split 51 rfl (fun hb51 hE=>?_) (fun hb51 hE=>?_)
    ·refine gy hE rfl (sf hE rfl fo59_1 fun a hE=>gy hE rfl (qm hE rfl (hM.get 0 rfl) rfl one3 (by intro X h;cases h) rfl fun a hE=>?_))
     refine gy hE rfl (sb hE rfl rfl bin_lss fun a hE=>gy hE rfl (pkt hE rfl fun a hE=>pkf hE rfl fun a hE=>qa (K14 ?_)))
     refine hE.split 56 rfl (fun hb56 hE=>?_) (fun hb56 hE=>?_)
     ·replace hb56 := of_decide_eq_true hb56
      refine wct hE rfl (ww1 fun _ K15=>wpp (sas hE rfl fun a hE=>qa (K15 (wp_ret (qf (qb (qb ?_)))))))
      exact qf (qb (qi hE rfl rfl ⟨(by have hv : slotB h.s2 = false := (by first | (simp [slotB,slotZ,hb43,hb51,hb56] <;> omega) | (simp_all [slotB,slotZ] <;> omega));simp [shapedB,hv]),hM.pick [] rfl⟩))
     ·replace hb56 := of_decide_eq_false hb56
      refine wcf hE rfl (wp_skip (qe (K12 (wpp (sm hE rfl fun a hE=>sb hE rfl rfl (show Bin _ _ _ _ _ (.int .i64 3) from bin_add (by rw [wrap_i64 (by omega) (by omega)];omega)) fun a hE=>?_)))))
      refine sas hE rfl fun a hE=>qa ?_
      replace hM : Mem _ _ w8 [_] := hM.pick [1] rfl
      refine qd ⟨(by first | (simp [slotB,slotZ,hb10,hJ4_0,hJ4_1,hJ10_0,hJ10_1,hb43,hb51,hb56] <;> omega) | (simp_all [slotB,slotZ] <;> omega)),hE.sel [1,2,3,5,10,12] rfl,hM⟩
    ·refine gf hE rfl fun a hE=>gf hE rfl fun a hE=>gf hE rfl fun a hE=>gy hE rfl (pkf hE rfl fun a hE=>pkf hE rfl fun a hE=>qa (K14 (wcf hE rfl (wp_skip ?_))))
     refine qe (K12 (wpp (sm hE rfl fun a hE=>sb hE rfl rfl (show Bin _ _ _ _ _ (.int .i64 3) from bin_add (by rw [wrap_i64 (by omega) (by omega)];omega)) fun a hE=>?_)))
     refine sas hE rfl fun a hE=>qa ?_
     replace hM : Mem _ _ w8 [_] := hM.pick [1] rfl
     refine qd ⟨(by first | (simp [slotB,slotZ,hb10,hJ4_0,hJ4_1,hJ10_0,hJ10_1,hb43,hb51] <;> omega) | (simp_all [slotB,slotZ] <;> omega)),hE.sel [1,2,3,5,10,12] rfl,hM⟩
  rintro a w7 ⟨hJ10_2,hE,hM⟩
  refine c_roundsJ (fun a w' => slotB h.s3 = true ∧ Env a 57 [(1,.pointer (some ⟨b1,0,none⟩)),(2,.bool false),(3,.int .i64 2),(5,.int .i64 4),(10,.bool false),(12,.bool false)] ∧ Mem w [] w' [blk b1 [[.int .i64 h.m],[.int .i64 h.r],[.bool h.v0.1],[.int .u64 ((h.v0.2.1 : Nat) : Int)],bv h.v0.2.2.1,bv h.v0.2.2.2,[.bool h.v1.1],[.int .u64 ((h.v1.2.1 : Nat) : Int)],bv h.v1.2.2.1,bv h.v1.2.2.2,[.bool h.s0.1],[.int .i64 h.s0.2.1],bv h.s0.2.2.1,bv h.s0.2.2.2.1,bv h.s0.2.2.2.2,[.bool h.s1.1],[.int .i64 h.s1.2.1],bv h.s1.2.2.1,bv h.s1.2.2.2.1,bv h.s1.2.2.2.2,[.bool h.s2.1],[.int .i64 h.s2.2.1],bv h.s2.2.2.1,bv h.s2.2.2.2.1,bv h.s2.2.2.2.2,[.bool h.s3.1],[.int .i64 h.s3.2.1],bv h.s3.2.2.1,bv h.s3.2.2.2.1,bv h.s3.2.2.2.2] [1,1,1,1,32,32,1,1,32,32,1,1,16,32,32,1,1,16,32,32,1,1,16,32,32,1,1,16,32,32] 62]) ?_ ?_
  ·skip
   refine ww1 fun _ K10=>ww1 fun _ K11=>wpp (sm hE rfl fun a hE=>sb hE rfl rfl bin_lss fun a hE=>?_)
   replace hE := hE.cast 33 rfl (show _ = Value.bool true from (congrArg Value.bool (by decide)))
   refine qa (K11 (wct hE rfl (wp_skip (K10 (ww1 fun _ K12=>wp_block (ww1 fun _ K13=>wpp (sm hE rfl fun a hE=>?_)))))))
   refine sf hE rfl fo62_2 fun a hE=>qp (j := 3) hE rfl rfl arr60 rfl (by decide) rfl fun a hE=>?_
   refine ql hE rfl (hM.get 0 rfl) row59 rfl (by intro X h;cases h) rfl fun a hE=>?_
   replace hE := hE.cast 39 rfl (show _ = Value.agg ([[.bool h.s3.1],[.int .i64 h.s3.2.1],bv h.s3.2.2.1,bv h.s3.2.2.2.1,bv h.s3.2.2.2.2] : List (List Value)).flatten.toArray from (by first | rfl | simp only [List.flatten_cons,List.flatten_nil,List.append_nil,List.append_assoc]))
   refine qo [1,1,16,32,32] hE hM zeroL59 rfl rfl fun a b6 w8 hE hM=>?_
   have hsl1135_2 : h.s3.2.2.1.length = 16 := hk.s3.2.1
   have hsl1135_3 : h.s3.2.2.2.1.length = 32 := hk.s3.2.2.1
   have hsl1135_4 : h.s3.2.2.2.2.length = 32 := hk.s3.2.2.2
   refine qq 0 5 (vss := [[.bool h.s3.1],[.int .i64 h.s3.2.1],bv h.s3.2.2.1,bv h.s3.2.2.2.1,bv h.s3.2.2.2.2]) hE rfl rfl hM rfl sz59 (by simp only [List.take_succ_cons,List.take_zero,List.drop_zero,List.drop_succ_cons];simp only [List.map_cons,List.map_nil,vh,List.length_cons,List.length_nil,List.length_replicate,hsl1135_2,hsl1135_3,hsl1135_4]) (by decide) rfl (one_fl ⟨one1 rfl,one1 rfl,vc _,vc _,vc _,trivial⟩) rfl (by intro X h;cases h) fun w9 hM=>?_
   try simp only [List.take_zero,List.take_succ_cons,List.drop_zero,List.drop_succ_cons,List.take_nil,List.drop_nil,List.nil_append,List.append_nil,List.cons_append] at hM
   refine qa (K13 (ww1 fun _ K14=>wpp (sf hE rfl fo59_0 fun a hE=>qm hE rfl (hM.get 0 rfl) rfl one4 (by intro X h;cases h) rfl fun a hE=>?_)))
   refine s_not hE rfl rfl fun a hE=>sm hE rfl fun a hE=>?_
   refine hE.split 43 rfl (fun hb43 hE=>?_) (fun hb43 hE=>?_)
   ·replace hb43 := not_true hb43
    refine gy hE rfl (ql hE rfl (hM.get 0 rfl) row59 rfl (by intro X h;cases h) rfl fun a hE=>?_)
    replace hE := hE.cast 44 rfl (show _ = Value.agg ([[.bool h.s3.1],[.int .i64 h.s3.2.1],bv h.s3.2.2.1,bv h.s3.2.2.2.1,bv h.s3.2.2.2.2] : List (List Value)).flatten.toArray from (by first | rfl | simp only [List.flatten_cons,List.flatten_nil,List.append_nil,List.append_assoc]))
    refine gy hE rfl (vf [] hE rfl zero59 (by kernel_rfl) fpl59 (by first | (simp [PartsOk,Value.cells];done) | (simp [PartsOk,Value.cells];omega)) rfl fun a hE=>?_)
    replace hE := hE.cast 45 rfl (show _ = Value.agg ([[.bool false],[.int .i64 0],bv (List.replicate 16 (0 : UInt8)),bv (List.replicate 32 (0 : UInt8)),bv (List.replicate 32 (0 : UInt8))] : List (List Value)).flatten.toArray from (by first | rfl | simp [setAll] | (simp only [setAll,List.set_cons_zero,List.set_cons_succ,List.flatten_cons,List.flatten_nil,List.append_nil,List.append_assoc,List.replicate_succ,List.replicate_zero])))
    refine gy hE rfl ?_
    refine sb hE rfl rfl ((eqk59 (b := decide (h.s3.1 = false ∧ (h.s3.2.1 : Int) = 0 ∧ h.s3.2.2.1 = (List.replicate 16 (0 : UInt8)) ∧ h.s3.2.2.2.1 = (List.replicate 32 (0 : UInt8)) ∧ h.s3.2.2.2.2 = (List.replicate 32 (0 : UInt8)))) (klL59 (k := 0) (x0 := h.s3.1) (x1 := h.s3.2.1) (x2 := h.s3.2.2.1) (x3 := h.s3.2.2.2.1) (x4 := h.s3.2.2.2.2) (wf_i64 hk.s3.1) hk.s3.2.1 hk.s3.2.2.1 hk.s3.2.2.2) (klL59 (k := 0) (x0 := false) (x1 := 0) (x2 := List.replicate 16 (0 : UInt8)) (x3 := List.replicate 32 (0 : UInt8)) (x4 := List.replicate 32 (0 : UInt8)) (by first | exact wf_i64 (by assumption) | (simp [Lit.wf,IntKind.min,IntKind.max,IntKind.signed,IntKind.bits];try omega)) List.length_replicate List.length_replicate List.length_replicate) (by rw [flat_eq (by have hl_x2 : h.s3.2.2.1.length = 16 := hk.s3.2.1;have hl_x3 : h.s3.2.2.2.1.length = 32 := hk.s3.2.2.1;have hl_x4 : h.s3.2.2.2.2.length = 32 := hk.s3.2.2.2;have hl_y2 : (List.replicate 16 (0 : UInt8)).length = 16 := List.length_replicate;have hl_y3 : (List.replicate 32 (0 : UInt8)).length = 32 := List.length_replicate;have hl_y4 : (List.replicate 32 (0 : UInt8)).length = 32 := List.length_replicate;simp only [List.map_cons,List.map_nil,vh,List.length_cons,List.length_nil,hl_x2,hl_x3,hl_x4,hl_y2,hl_y3,hl_y4])];simp [bv_iff,Int.ofNat_inj];try omega)).2) fun a hE=>?_
    refine pkt hE rfl fun a hE=>sm hE rfl fun a hE=>?_
    refine hE.split 48 rfl (fun hb48 hE=>?_) (fun hb48 hE=>?_)
    ·replace hb48 := of_decide_eq_false (not_true hb48)
     refine gt hE rfl fun a hE=>gt hE rfl fun a hE=>gt hE rfl fun a hE=>g_und hE rfl rfl rfl fun a hE=>g_und hE rfl rfl rfl fun a hE=>g_und hE rfl rfl rfl fun a hE=>gt hE rfl fun a hE=>pkt hE rfl fun a hE=>qa (K14 ?_)
     refine wct hE rfl (ww1 fun _ K15=>wpp (sas hE rfl fun a hE=>qa (K15 (wp_ret (qf (qb (qb ?_)))))))
     exact qf (qb (qi hE rfl rfl ⟨(by have hv : slotB h.s3 = false := (by first | (simp [slotB,slotZ,hb43,hb48] <;> omega) | (simp_all [slotB,slotZ] <;> omega));simp [shapedB,hv]),hM.pick [] rfl⟩))
    ·replace hb48 := of_decide_eq_true (not_false' hb48)
     refine gy hE rfl (sf hE rfl fo59_0 fun a hE=>gy hE rfl (qm hE rfl (hM.get 0 rfl) rfl one4 (by intro X h;cases h) rfl fun a hE=>?_))
     refine gy hE rfl (sm hE rfl fun a hE=>?_)
     refine hE.split 51 rfl (fun hb51 hE=>?_) (fun hb51 hE=>?_)
     ·refine gy hE rfl (sf hE rfl fo59_1 fun a hE=>gy hE rfl (qm hE rfl (hM.get 0 rfl) rfl one3 (by intro X h;cases h) rfl fun a hE=>?_))
      refine gy hE rfl (sb hE rfl rfl bin_lss fun a hE=>gy hE rfl (pkt hE rfl fun a hE=>pkf hE rfl fun a hE=>qa (K14 ?_)))
      refine hE.split 56 rfl (fun hb56 hE=>?_) (fun hb56 hE=>?_)
      ·replace hb56 := of_decide_eq_true hb56
       refine wct hE rfl (ww1 fun _ K15=>wpp (sas hE rfl fun a hE=>qa (K15 (wp_ret (qf (qb (qb ?_)))))))
       exact qf (qb (qi hE rfl rfl ⟨(by have hv : slotB h.s3 = false := (by first | (simp [slotB,slotZ,hb43,hb48,hb51,hb56] <;> omega) | (simp_all [slotB,slotZ] <;> omega));simp [shapedB,hv]),hM.pick [] rfl⟩))
      ·replace hb56 := of_decide_eq_false hb56
       refine wcf hE rfl (wp_skip (qe (K12 (wpp (sm hE rfl fun a hE=>sb hE rfl rfl (show Bin _ _ _ _ _ (.int .i64 4) from bin_add (by rw [wrap_i64 (by omega) (by omega)];omega)) fun a hE=>?_)))))
       refine sas hE rfl fun a hE=>qa ?_
       replace hM : Mem _ _ w9 [_] := hM.pick [1] rfl
       refine qd ⟨(by first | (simp [slotB,slotZ,hb10,hJ4_0,hJ4_1,hJ10_0,hJ10_1,hJ10_2,hb43,hb48,hb51,hb56] <;> omega) | (simp_all [slotB,slotZ] <;> omega)),hE.sel [1,2,3,5,10,12] rfl,hM⟩
     ·refine gf hE rfl fun a hE=>gf hE rfl fun a hE=>gf hE rfl fun a hE=>gy hE rfl (pkf hE rfl fun a hE=>pkf hE rfl fun a hE=>qa (K14 (wcf hE rfl (wp_skip ?_))))
      refine qe (K12 (wpp (sm hE rfl fun a hE=>sb hE rfl rfl (show Bin _ _ _ _ _ (.int .i64 4) from bin_add (by rw [wrap_i64 (by omega) (by omega)];omega)) fun a hE=>?_)))
      refine sas hE rfl fun a hE=>qa ?_
      replace hM : Mem _ _ w9 [_] := hM.pick [1] rfl
      refine qd ⟨(by first | (simp [slotB,slotZ,hb10,hJ4_0,hJ4_1,hJ10_0,hJ10_1,hJ10_2,hb43,hb48,hb51] <;> omega) | (simp_all [slotB,slotZ] <;> omega)),hE.sel [1,2,3,5,10,12] rfl,hM⟩
   ·replace hb43 := not_false' hb43
    refine gf hE rfl fun a hE=>gf hE rfl fun a hE=>gf hE rfl fun a hE=>pkf hE rfl fun a hE=>sm hE rfl fun a hE=>gy hE rfl (sf hE rfl fo59_0 fun a hE=>gy hE rfl (qm hE rfl (hM.get 0 rfl) rfl one4 (by intro X h;cases h) rfl fun a hE=>?_))
    refine gy hE rfl (sm hE rfl fun a hE=>?_)
    refine hE.split 51 rfl (fun hb51 hE=>?_) (fun hb51 hE=>?_)
    ·refine gy hE rfl (sf hE rfl fo59_1 fun a hE=>gy hE rfl (qm hE rfl (hM.get 0 rfl) rfl one3 (by intro X h;cases h) rfl fun a hE=>?_))
     refine gy hE rfl (sb hE rfl rfl bin_lss fun a hE=>gy hE rfl (pkt hE rfl fun a hE=>pkf hE rfl fun a hE=>qa (K14 ?_)))
     refine hE.split 56 rfl (fun hb56 hE=>?_) (fun hb56 hE=>?_)
     ·replace hb56 := of_decide_eq_true hb56
      refine wct hE rfl (ww1 fun _ K15=>wpp (sas hE rfl fun a hE=>qa (K15 (wp_ret (qf (qb (qb ?_)))))))
      exact qf (qb (qi hE rfl rfl ⟨(by have hv : slotB h.s3 = false := (by first | (simp [slotB,slotZ,hb43,hb51,hb56] <;> omega) | (simp_all [slotB,slotZ] <;> omega));simp [shapedB,hv]),hM.pick [] rfl⟩))
     ·replace hb56 := of_decide_eq_false hb56
      refine wcf hE rfl (wp_skip (qe (K12 (wpp (sm hE rfl fun a hE=>sb hE rfl rfl (show Bin _ _ _ _ _ (.int .i64 4) from bin_add (by rw [wrap_i64 (by omega) (by omega)];omega)) fun a hE=>?_)))))
      refine sas hE rfl fun a hE=>qa ?_
      replace hM : Mem _ _ w9 [_] := hM.pick [1] rfl
      refine qd ⟨(by first | (simp [slotB,slotZ,hb10,hJ4_0,hJ4_1,hJ10_0,hJ10_1,hJ10_2,hb43,hb51,hb56] <;> omega) | (simp_all [slotB,slotZ] <;> omega)),hE.sel [1,2,3,5,10,12] rfl,hM⟩
    ·refine gf hE rfl fun a hE=>gf hE rfl fun a hE=>gf hE rfl fun a hE=>gy hE rfl (pkf hE rfl fun a hE=>pkf hE rfl fun a hE=>qa (K14 (wcf hE rfl (wp_skip ?_))))
     refine qe (K12 (wpp (sm hE rfl fun a hE=>sb hE rfl rfl (show Bin _ _ _ _ _ (.int .i64 4) from bin_add (by rw [wrap_i64 (by omega) (by omega)];omega)) fun a hE=>?_)))
     refine sas hE rfl fun a hE=>qa ?_
     replace hM : Mem _ _ w9 [_] := hM.pick [1] rfl
     refine qd ⟨(by first | (simp [slotB,slotZ,hb10,hJ4_0,hJ4_1,hJ10_0,hJ10_1,hJ10_2,hb43,hb51] <;> omega) | (simp_all [slotB,slotZ] <;> omega)),hE.sel [1,2,3,5,10,12] rfl,hM⟩
  rintro a w8 ⟨hJ10_3,hE,hM⟩
  refine c_rounds (ww1 fun _ K10=>ww1 fun _ K11=>wpp (sm hE rfl fun a hE=>sb hE rfl rfl bin_lss fun a hE=>?_))
  replace hE := hE.cast 33 rfl (show _ = Value.bool false from (congrArg Value.bool (by decide)))
  refine qa (K11 (wcf hE rfl (wp_exit (qc (qc (qg (K8 (ww1 fun _ K12=>wpp ?_))))))))
  exact sas hE rfl fun a hE=>qa (K12 (wp_ret (qi hE rfl rfl ⟨(by have hg : geoB h.m h.r = true := (by cases hgg : geoB h.m h.r <;> simp_all);simp [shapedB,hg,hJ4_0,hJ4_1,hJ10_0,hJ10_1,hJ10_2,hJ10_3]),hM.pick [] rfl⟩)))
theorem rlong_c (h : Hd) (w : World) (hk : OkHd h) : Calls Tryd.prog 73 #[.agg ([[.int .i64 h.m],[.int .i64 h.r],[.bool h.v0.1],[.int .u64 ((h.v0.2.1 : Nat) : Int)],bv h.v0.2.2.1,bv h.v0.2.2.2,[.bool h.v1.1],[.int .u64 ((h.v1.2.1 : Nat) : Int)],bv h.v1.2.2.1,bv h.v1.2.2.2,[.bool h.s0.1],[.int .i64 h.s0.2.1],bv h.s0.2.2.1,bv h.s0.2.2.2.1,bv h.s0.2.2.2.2,[.bool h.s1.1],[.int .i64 h.s1.2.1],bv h.s1.2.2.1,bv h.s1.2.2.2.1,bv h.s1.2.2.2.2,[.bool h.s2.1],[.int .i64 h.s2.2.1],bv h.s2.2.2.1,bv h.s2.2.2.2.1,bv h.s2.2.2.2.2,[.bool h.s3.1],[.int .i64 h.s3.2.1],bv h.s3.2.2.1,bv h.s3.2.2.2.1,bv h.s3.2.2.2.2] : List (List Value)).flatten.toArray] w fun e w' => e = .returned (.bool (longB h)) ∧ Mem w [] w' [] := by
 have hi0 := hk.s0.1
 have hi1 := hk.s1.1
 have hi2 := hk.s2.1
 have hi3 := hk.s3.1
 have hn0 := hk.v0.1
 have hn1 := hk.v1.1
 have hM := Mem.start0 w
 refine ve 14 Tryd.func73 rfl rfl rfl ?_
 intro a hE
 replace hE : Env a 14 [(0,_)] := hE
 refine ww1 fun _ K1=>wpp ?_
 have hbl1_4 : h.v0.2.2.1.length = 32 := hk.v0.2.1
 have hbl1_5 : h.v0.2.2.2.length = 32 := hk.v0.2.2
 have hbl1_8 : h.v1.2.2.1.length = 32 := hk.v1.2.1
 have hbl1_9 : h.v1.2.2.2.length = 32 := hk.v1.2.2
 have hbl1_12 : h.s0.2.2.1.length = 16 := hk.s0.2.1
 have hbl1_13 : h.s0.2.2.2.1.length = 32 := hk.s0.2.2.1
 have hbl1_14 : h.s0.2.2.2.2.length = 32 := hk.s0.2.2.2
 have hbl1_17 : h.s1.2.2.1.length = 16 := hk.s1.2.1
 have hbl1_18 : h.s1.2.2.2.1.length = 32 := hk.s1.2.2.1
 have hbl1_19 : h.s1.2.2.2.2.length = 32 := hk.s1.2.2.2
 have hbl1_22 : h.s2.2.2.1.length = 16 := hk.s2.2.1
 have hbl1_23 : h.s2.2.2.2.1.length = 32 := hk.s2.2.2.1
 have hbl1_24 : h.s2.2.2.2.2.length = 32 := hk.s2.2.2.2
 have hbl1_27 : h.s3.2.2.1.length = 16 := hk.s3.2.1
 have hbl1_28 : h.s3.2.2.2.1.length = 32 := hk.s3.2.2.1
 have hbl1_29 : h.s3.2.2.2.2.length = 32 := hk.s3.2.2.2
 refine s_box (ss := [[.int .i64 h.m],[.int .i64 h.r],[.bool h.v0.1],[.int .u64 ((h.v0.2.1 : Nat) : Int)],bv h.v0.2.2.1,bv h.v0.2.2.2,[.bool h.v1.1],[.int .u64 ((h.v1.2.1 : Nat) : Int)],bv h.v1.2.2.1,bv h.v1.2.2.2,[.bool h.s0.1],[.int .i64 h.s0.2.1],bv h.s0.2.2.1,bv h.s0.2.2.2.1,bv h.s0.2.2.2.2,[.bool h.s1.1],[.int .i64 h.s1.2.1],bv h.s1.2.2.1,bv h.s1.2.2.2.1,bv h.s1.2.2.2.2,[.bool h.s2.1],[.int .i64 h.s2.2.1],bv h.s2.2.2.1,bv h.s2.2.2.2.1,bv h.s2.2.2.2.2,[.bool h.s3.1],[.int .i64 h.s3.2.1],bv h.s3.2.2.1,bv h.s3.2.2.2.1,bv h.s3.2.2.2.2]) [1,1,1,1,32,32,1,1,32,32,1,1,16,32,32,1,1,16,32,32,1,1,16,32,32,1,1,16,32,32] hE hM rfl rfl (by simp only [List.map_cons,List.map_nil,vh,List.length_cons,List.length_nil,List.length_replicate,hbl1_4,hbl1_5,hbl1_8,hbl1_9,hbl1_12,hbl1_13,hbl1_14,hbl1_17,hbl1_18,hbl1_19,hbl1_22,hbl1_23,hbl1_24,hbl1_27,hbl1_28,hbl1_29]) rfl fun a b1 w1 hE hM=>?_
 refine sas hE rfl fun a hE=>qa (K1 (ww1 fun _ K2=>ww1 fun _ K3=>wpp (sas hE rfl fun a hE=>qa (K3 (wp_block ?_)))))
 refine wp_loop_rounds 5 (c_rounds (ww1 fun _ K4=>ww1 fun _ K5=>wpp (sm hE rfl fun a hE=>sb hE rfl rfl bin_lss fun a hE=>?_)))
 replace hE := hE.cast 5 rfl (show _ = Value.bool true from (congrArg Value.bool (by decide)))
 refine qa (K5 (wct hE rfl (wp_skip (K4 (ww1 fun _ K6=>wp_block (ww1 fun _ K7=>wpp (sm hE rfl fun a hE=>?_)))))))
 refine sf hE rfl fo62_2 fun a hE=>qp (j := 0) hE rfl rfl arr60 rfl (by decide) rfl fun a hE=>?_
 refine sf hE rfl fo59_1 fun a hE=>qm hE rfl (hM.get 0 rfl) rfl one3 (by intro X h;cases h) rfl fun a hE=>?_
 refine sb hE rfl rfl bin_gtr fun a hE=>qa (K7 ?_)
 refine hE.split 13 rfl (fun hb13 hE=>?_) (fun hb13 hE=>?_)
 ·replace hb13 := of_decide_eq_true hb13
  refine wct hE rfl (ww1 fun _ K8=>wpp (sas hE rfl fun a hE=>qa (K8 (wp_ret (qf (qb (qb ?_)))))))
  exact qf (qb (qi hE rfl rfl ⟨(by simp [longB,hb13] <;> omega),hM.pick [] rfl⟩))
 ·replace hb13 := of_decide_eq_false hb13
  refine wcf hE rfl (wp_skip (qe (K6 (wpp (sm hE rfl fun a hE=>sb hE rfl rfl (show Bin _ _ _ _ _ (.int .i64 1) from bin_add (by rw [wrap_i64 (by omega) (by omega)];omega)) fun a hE=>?_)))))
  refine sas hE rfl fun a hE=>qa ?_
  replace hM : Mem _ _ w1 [_] := hM.pick [0] rfl
  refine qd (c_rounds (ww1 fun _ K8=>ww1 fun _ K9=>wpp (sm hE rfl fun a hE=>sb hE rfl rfl bin_lss fun a hE=>?_)))
  replace hE := hE.cast 5 rfl (show _ = Value.bool true from (congrArg Value.bool (by decide)))
  refine qa (K9 (wct hE rfl (wp_skip (K8 (ww1 fun _ K10=>wp_block (ww1 fun _ K11=>wpp (sm hE rfl fun a hE=>?_)))))))
  refine sf hE rfl fo62_2 fun a hE=>qp (j := 1) hE rfl rfl arr60 rfl (by decide) rfl fun a hE=>?_
  refine sf hE rfl fo59_1 fun a hE=>qm hE rfl (hM.get 0 rfl) rfl one3 (by intro X h;cases h) rfl fun a hE=>?_
  refine sb hE rfl rfl bin_gtr fun a hE=>qa (K11 ?_)
  refine hE.split 13 rfl (fun hb13' hE=>?_) (fun hb13' hE=>?_)
  ·replace hb13' := of_decide_eq_true hb13'
   refine wct hE rfl (ww1 fun _ K12=>wpp (sas hE rfl fun a hE=>qa (K12 (wp_ret (qf (qb (qb ?_)))))))
   exact qf (qb (qi hE rfl rfl ⟨(by simp [longB,hb13,hb13'] <;> omega),hM.pick [] rfl⟩))
  ·replace hb13' := of_decide_eq_false hb13'
   refine wcf hE rfl (wp_skip (qe (K10 (wpp (sm hE rfl fun a hE=>sb hE rfl rfl (show Bin _ _ _ _ _ (.int .i64 2) from bin_add (by rw [wrap_i64 (by omega) (by omega)];omega)) fun a hE=>?_)))))
   refine sas hE rfl fun a hE=>qa ?_
   replace hM : Mem _ _ w1 [_] := hM.pick [0] rfl
   refine qd (c_rounds (ww1 fun _ K12=>ww1 fun _ K13=>wpp (sm hE rfl fun a hE=>sb hE rfl rfl bin_lss fun a hE=>?_)))
   replace hE := hE.cast 5 rfl (show _ = Value.bool true from (congrArg Value.bool (by decide)))
   refine qa (K13 (wct hE rfl (wp_skip (K12 (ww1 fun _ K14=>wp_block (ww1 fun _ K15=>wpp (sm hE rfl fun a hE=>?_)))))))
   refine sf hE rfl fo62_2 fun a hE=>qp (j := 2) hE rfl rfl arr60 rfl (by decide) rfl fun a hE=>?_
   refine sf hE rfl fo59_1 fun a hE=>qm hE rfl (hM.get 0 rfl) rfl one3 (by intro X h;cases h) rfl fun a hE=>?_
   refine sb hE rfl rfl bin_gtr fun a hE=>qa (K15 ?_)
   refine hE.split 13 rfl (fun hb13'' hE=>?_) (fun hb13'' hE=>?_)
   ·replace hb13'' := of_decide_eq_true hb13''
    refine wct hE rfl (ww1 fun _ K16=>wpp (sas hE rfl fun a hE=>qa (K16 (wp_ret (qf (qb (qb ?_)))))))
    exact qf (qb (qi hE rfl rfl ⟨(by simp [longB,hb13,hb13',hb13''] <;> omega),hM.pick [] rfl⟩))
   ·replace hb13'' := of_decide_eq_false hb13''
    refine wcf hE rfl (wp_skip (qe (K14 (wpp (sm hE rfl fun a hE=>sb hE rfl rfl (show Bin _ _ _ _ _ (.int .i64 3) from bin_add (by rw [wrap_i64 (by omega) (by omega)];omega)) fun a hE=>?_)))))
    refine sas hE rfl fun a hE=>qa ?_
    replace hM : Mem _ _ w1 [_] := hM.pick [0] rfl
    refine qd (c_rounds (ww1 fun _ K16=>ww1 fun _ K17=>wpp (sm hE rfl fun a hE=>sb hE rfl rfl bin_lss fun a hE=>?_)))
    replace hE := hE.cast 5 rfl (show _ = Value.bool true from (congrArg Value.bool (by decide)))
    refine qa (K17 (wct hE rfl (wp_skip (K16 (ww1 fun _ K18=>wp_block (ww1 fun _ K19=>wpp (sm hE rfl fun a hE=>?_)))))))
    refine sf hE rfl fo62_2 fun a hE=>qp (j := 3) hE rfl rfl arr60 rfl (by decide) rfl fun a hE=>?_
    refine sf hE rfl fo59_1 fun a hE=>qm hE rfl (hM.get 0 rfl) rfl one3 (by intro X h;cases h) rfl fun a hE=>?_
    refine sb hE rfl rfl bin_gtr fun a hE=>qa (K19 ?_)
    refine hE.split 13 rfl (fun hb13''' hE=>?_) (fun hb13''' hE=>?_)
    ·replace hb13''' := of_decide_eq_true hb13'''
     refine wct hE rfl (ww1 fun _ K20=>wpp (sas hE rfl fun a hE=>qa (K20 (wp_ret (qf (qb (qb ?_)))))))
     exact qf (qb (qi hE rfl rfl ⟨(by simp [longB,hb13,hb13',hb13'',hb13'''] <;> omega),hM.pick [] rfl⟩))
    ·replace hb13''' := of_decide_eq_false hb13'''
     refine wcf hE rfl (wp_skip (qe (K18 (wpp (sm hE rfl fun a hE=>sb hE rfl rfl (show Bin _ _ _ _ _ (.int .i64 4) from bin_add (by rw [wrap_i64 (by omega) (by omega)];omega)) fun a hE=>?_)))))
     refine sas hE rfl fun a hE=>qa ?_
     replace hM : Mem _ _ w1 [_] := hM.pick [0] rfl
     refine qd (c_rounds (ww1 fun _ K20=>ww1 fun _ K21=>wpp (sm hE rfl fun a hE=>sb hE rfl rfl bin_lss fun a hE=>?_)))
     replace hE := hE.cast 5 rfl (show _ = Value.bool false from (congrArg Value.bool (by decide)))
     refine qa (K21 (wcf hE rfl (wp_exit (qc (qc (qg (K2 (ww1 fun _ K22=>wpp ?_))))))))
     exact sas hE rfl fun a hE=>qa (K22 (wp_ret (qi hE rfl rfl ⟨(by simp [longB,hb13,hb13',hb13'',hb13'''] <;> omega),hM.pick [] rfl⟩)))
theorem rcheck_c (h : Hd) (w : World) (hk : OkHd h) : Calls Tryd.prog 54 #[.agg ([[.int .i64 h.m],[.int .i64 h.r],[.bool h.v0.1],[.int .u64 ((h.v0.2.1 : Nat) : Int)],bv h.v0.2.2.1,bv h.v0.2.2.2,[.bool h.v1.1],[.int .u64 ((h.v1.2.1 : Nat) : Int)],bv h.v1.2.2.1,bv h.v1.2.2.2,[.bool h.s0.1],[.int .i64 h.s0.2.1],bv h.s0.2.2.1,bv h.s0.2.2.2.1,bv h.s0.2.2.2.2,[.bool h.s1.1],[.int .i64 h.s1.2.1],bv h.s1.2.2.1,bv h.s1.2.2.2.1,bv h.s1.2.2.2.2,[.bool h.s2.1],[.int .i64 h.s2.2.1],bv h.s2.2.2.1,bv h.s2.2.2.2.1,bv h.s2.2.2.2.2,[.bool h.s3.1],[.int .i64 h.s3.2.1],bv h.s3.2.2.1,bv h.s3.2.2.2.1,bv h.s3.2.2.2.2] : List (List Value)).flatten.toArray] w fun e w' => e = .returned (.int .i64 ((checkH h : Nat) : Int)) ∧ Mem w [] w' [] := by
 have hM := Mem.start0 w
 refine ve 10 Tryd.func54 rfl rfl rfl ?_
 intro a hE
 replace hE : Env a 10 [(0,_)] := hE
 refine ww1 fun _ K1=>wpp ?_
 have hbl1_4 : h.v0.2.2.1.length = 32 := hk.v0.2.1
 have hbl1_5 : h.v0.2.2.2.length = 32 := hk.v0.2.2
 have hbl1_8 : h.v1.2.2.1.length = 32 := hk.v1.2.1
 have hbl1_9 : h.v1.2.2.2.length = 32 := hk.v1.2.2
 have hbl1_12 : h.s0.2.2.1.length = 16 := hk.s0.2.1
 have hbl1_13 : h.s0.2.2.2.1.length = 32 := hk.s0.2.2.1
 have hbl1_14 : h.s0.2.2.2.2.length = 32 := hk.s0.2.2.2
 have hbl1_17 : h.s1.2.2.1.length = 16 := hk.s1.2.1
 have hbl1_18 : h.s1.2.2.2.1.length = 32 := hk.s1.2.2.1
 have hbl1_19 : h.s1.2.2.2.2.length = 32 := hk.s1.2.2.2
 have hbl1_22 : h.s2.2.2.1.length = 16 := hk.s2.2.1
 have hbl1_23 : h.s2.2.2.2.1.length = 32 := hk.s2.2.2.1
 have hbl1_24 : h.s2.2.2.2.2.length = 32 := hk.s2.2.2.2
 have hbl1_27 : h.s3.2.2.1.length = 16 := hk.s3.2.1
 have hbl1_28 : h.s3.2.2.2.1.length = 32 := hk.s3.2.2.1
 have hbl1_29 : h.s3.2.2.2.2.length = 32 := hk.s3.2.2.2
 refine s_box (ss := [[.int .i64 h.m],[.int .i64 h.r],[.bool h.v0.1],[.int .u64 ((h.v0.2.1 : Nat) : Int)],bv h.v0.2.2.1,bv h.v0.2.2.2,[.bool h.v1.1],[.int .u64 ((h.v1.2.1 : Nat) : Int)],bv h.v1.2.2.1,bv h.v1.2.2.2,[.bool h.s0.1],[.int .i64 h.s0.2.1],bv h.s0.2.2.1,bv h.s0.2.2.2.1,bv h.s0.2.2.2.2,[.bool h.s1.1],[.int .i64 h.s1.2.1],bv h.s1.2.2.1,bv h.s1.2.2.2.1,bv h.s1.2.2.2.2,[.bool h.s2.1],[.int .i64 h.s2.2.1],bv h.s2.2.2.1,bv h.s2.2.2.2.1,bv h.s2.2.2.2.2,[.bool h.s3.1],[.int .i64 h.s3.2.1],bv h.s3.2.2.1,bv h.s3.2.2.2.1,bv h.s3.2.2.2.2]) [1,1,1,1,32,32,1,1,32,32,1,1,16,32,32,1,1,16,32,32,1,1,16,32,32,1,1,16,32,32] hE hM rfl rfl (by simp only [List.map_cons,List.map_nil,vh,List.length_cons,List.length_nil,List.length_replicate,hbl1_4,hbl1_5,hbl1_8,hbl1_9,hbl1_12,hbl1_13,hbl1_14,hbl1_17,hbl1_18,hbl1_19,hbl1_22,hbl1_23,hbl1_24,hbl1_27,hbl1_28,hbl1_29]) rfl fun a b1 w1 hE hM=>?_
 refine sas hE rfl fun a hE=>qa (K1 (ww1 fun _ K2=>ww1 fun _ K3=>wpp (ql hE rfl (hM.get 0 rfl) row62 rfl (by intro X h;cases h) rfl fun a hE=>?_)))
 replace hE := hE.cast 3 rfl (show _ = Value.agg ([[.int .i64 h.m],[.int .i64 h.r],[.bool h.v0.1],[.int .u64 ((h.v0.2.1 : Nat) : Int)],bv h.v0.2.2.1,bv h.v0.2.2.2,[.bool h.v1.1],[.int .u64 ((h.v1.2.1 : Nat) : Int)],bv h.v1.2.2.1,bv h.v1.2.2.2,[.bool h.s0.1],[.int .i64 h.s0.2.1],bv h.s0.2.2.1,bv h.s0.2.2.2.1,bv h.s0.2.2.2.2,[.bool h.s1.1],[.int .i64 h.s1.2.1],bv h.s1.2.2.1,bv h.s1.2.2.2.1,bv h.s1.2.2.2.2,[.bool h.s2.1],[.int .i64 h.s2.2.1],bv h.s2.2.2.1,bv h.s2.2.2.2.1,bv h.s2.2.2.2.2,[.bool h.s3.1],[.int .i64 h.s3.2.1],bv h.s3.2.2.1,bv h.s3.2.2.2.1,bv h.s3.2.2.2.2] : List (List Value)).flatten.toArray from (by first | rfl | simp only [List.flatten_cons,List.flatten_nil,List.append_nil,List.append_assoc]))
 refine qn hE rfl Tryd.call72 (rshaped_c h _ hk ) rfl ?_
 rintro e w2 ⟨rfl,hN⟩
 refine ⟨_,rfl,trivial,fun a hE=>?_⟩
 replace hM : Mem _ _ w2 [_] := hM.call0 hN trivial;clear hN
 refine s_not hE rfl rfl fun a hE=>sm hE rfl fun a hE=>?_
 refine hE.split 6 rfl (fun hb6 hE=>?_) (fun hb6 hE=>?_)
 ·replace hb6 := not_true hb6
  refine gt hE rfl fun a hE=>gt hE rfl fun a hE=>pkt hE rfl fun a hE=>qa (K3 (wct hE rfl (ww1 fun _ K4=>wpp (sas hE rfl fun a hE=>qa ?_))))
  exact K4 (wp_ret (qb (qi hE rfl rfl ⟨(by simp [checkH,hb6]),hM.pick [] rfl⟩)))
 ·replace hb6 := not_false' hb6
  refine gy hE rfl (ql hE rfl (hM.get 0 rfl) row62 rfl (by intro X h;cases h) rfl fun a hE=>?_)
  replace hE := hE.cast 7 rfl (show _ = Value.agg ([[.int .i64 h.m],[.int .i64 h.r],[.bool h.v0.1],[.int .u64 ((h.v0.2.1 : Nat) : Int)],bv h.v0.2.2.1,bv h.v0.2.2.2,[.bool h.v1.1],[.int .u64 ((h.v1.2.1 : Nat) : Int)],bv h.v1.2.2.1,bv h.v1.2.2.2,[.bool h.s0.1],[.int .i64 h.s0.2.1],bv h.s0.2.2.1,bv h.s0.2.2.2.1,bv h.s0.2.2.2.2,[.bool h.s1.1],[.int .i64 h.s1.2.1],bv h.s1.2.2.1,bv h.s1.2.2.2.1,bv h.s1.2.2.2.2,[.bool h.s2.1],[.int .i64 h.s2.2.1],bv h.s2.2.2.1,bv h.s2.2.2.2.1,bv h.s2.2.2.2.2,[.bool h.s3.1],[.int .i64 h.s3.2.1],bv h.s3.2.2.1,bv h.s3.2.2.2.1,bv h.s3.2.2.2.2] : List (List Value)).flatten.toArray from (by first | rfl | simp only [List.flatten_cons,List.flatten_nil,List.append_nil,List.append_assoc]))
  refine gy hE rfl (qn hE rfl Tryd.call73 (rlong_c h _ hk ) rfl ?_)
  rintro e w3 ⟨rfl,hN⟩
  refine ⟨_,rfl,trivial,fun a hE=>?_⟩
  replace hM : Mem _ _ w3 [_] := hM.call0 hN trivial;clear hN
  refine pkf hE rfl fun a hE=>qa (K3 ?_)
  refine hE.split 9 rfl (fun hb9 hE=>?_) (fun hb9 hE=>?_)
  ·exact wct hE rfl (ww1 fun _ K4=>wpp (sas hE rfl fun a hE=>qa (K4 (wp_ret (qb (qi hE rfl rfl ⟨(by simp [checkH,hb6,hb9]),hM.pick [] rfl⟩))))))
  ·exact wcf hE rfl (wp_skip (K2 (ww1 fun _ K4=>wpp (sas hE rfl fun a hE=>qa (K4 (wp_ret (qi hE rfl rfl ⟨(by simp [checkH,hb6,hb9]),hM.pick [] rfl⟩)))))))
theorem pass_a (p : List UInt8) (w : World) : Calls Tryd.prog 30 #[.string (str p)] w fun e w' => ∃ v',e = .returned (.tuple #[v',.int .i64 ((passE p : Nat) : Int)]) ∧ Mem w [] w' [own v' 1 (phrZ p).length (bv (phrZ p))] := by
 have hsz := str_size p
 by_cases h : okp p = true
 ·rw [passE,phrZ,if_pos h,if_pos h]
  simp [okp] at h
  exact pass_ok (str p) w (by omega) (by omega)
 ·rw [passE,phrZ,if_neg h,if_neg h]
  simp [okp] at h
  refine (pass_bad (str p) w (by omega)).mono ?_
  rintro e w' ⟨rfl,hM⟩
  exact ⟨_,rfl,hM.addNil 1⟩
theorem pkey_a (v u : Value) (pass salt : List UInt8) (c cu : Nat) (z : Int) (w : World) (hG : (glb 1).holds w) (hr : (rd v 1 pass.length c (bv pass)).holds w) (hu : (rd u 1 salt.length cu (bv salt)).holds w) (hk : pass.length ≤ 100000) (hf : salt.length ≤ 100000) : Calls Tryd.prog 31 #[v,u,.int .i64 z,.int .i64 32] w fun e w' => ∃ v',e = .returned (.tuple #[v',.int .i64 ((roundE z : Nat) : Int)]) ∧ Mem w [] w' [ownW v' 1 (keyZ pass salt z).length (bv (keyZ pass salt z))] := by
 by_cases h : okr z = true
 ·rw [roundE,keyZ,if_pos h,if_pos h]
  simp [okr] at h
  obtain ⟨r,rfl⟩ := Int.eq_ofNat_of_zero_le (show 0 ≤ z by omega)
  exact keyw_c v u pass salt c cu r 32 w hG hr hu hk hf (by omega) (by omega) (by decide) (by decide)
 ·rw [roundE,keyZ,if_neg h,if_neg h]
  simp [okr] at h
  refine (key_bad v u z 32 w (by omega)).mono ?_
  rintro e w' ⟨rfl,hM⟩
  exact ⟨_,rfl,(hM.addNil 1).toW⟩
theorem skey_c (p : List UInt8) (b : List UInt8) (z : Int) (w : World) (hG : (glb 1).holds w) (hl_b : b.length = 16) : Calls Tryd.prog 56 #[.string (str p),.agg (bv b).toArray,.int .i64 z] w fun e w' => e = .returned (.tuple #[.agg (bv (kK p b z)).toArray,.int .i64 ((kE p z : Nat) : Int)]) ∧ Mem w [] w' [] := by
 have hM : Mem w [] w [glb 1] := Mem.startR w (fun g hg => by
  simp only [List.mem_cons,List.not_mem_nil,or_false] at hg
  rcases hg with rfl
  ·exact ⟨hG,rfl⟩)
 refine ve 34 Tryd.func56 rfl rfl rfl ?_
 intro a hE
 replace hE : Env a 34 [(0,_),(1,_),(2,_)] := hE
 refine ww1 fun _ K1=>wpp (s_box (ss := [bv b]) [16] hE hM rfl (by simp [Value.cells]) (by simp [*]) rfl fun a b4 w1 hE hM=>?_)
 refine qo [32] hE hM zero23 rfl rfl fun a b6 w2 hE hM=>sas hE rfl fun a hE=>qa (K1 (ww1 fun _ K2=>wpp (sm hE rfl fun a hE=>qn hE rfl Tryd.call30 (pass_a p _) rfl ?_)))
 rintro e w3 ⟨v13,rfl,hN⟩
 refine ⟨_,rfl,trivial,fun a hE=>?_⟩
 replace hM : Mem _ _ w3 [_,_,_,_] := hM.call0 hN ⟨rfl,trivial⟩;clear hN
 refine sm hE rfl fun a hE=>sx hE rfl fun a hE=>sx hE rfl fun a hE=>sas hE rfl fun a hE=>sas hE rfl fun a hE=>qa (K2 (ww1 fun _ K3=>ww1 fun _ K4=>wpp ?_))
 refine sm hE rfl fun a hE=>sb hE rfl rfl bin_neq fun a hE=>qa (K4 ?_)
 refine hE.split 17 rfl (fun hb17 hE=>?_) (fun hb17 hE=>?_)
 ·replace hb17 := of_decide_eq_false (not_true hb17)
  replace hb17 : ¬ ((passE p) = 0) := by omega
  have hop : okp p = false := passE_no hb17
  refine wct hE rfl (ww1 fun _ K5=>wpp (s_build (r := .agg (bv (List.replicate 32 (0 : UInt8))).toArray) _ hE rfl (fun w => by kernel_rfl) rfl fun a hE=>?_))
  refine sm hE rfl fun a hE=>?_
  replace hM : Mem _ _ w3 [_,_,_,_] := hM.pick [1,0,2,3] rfl
  refine qr 0 hE rfl rfl hM rfl sz23 ((vh _).trans (by first | (simp;done) | (simp [*];done) | (simp;omega))) (vc _) rfl ((vh _).trans (by first | (simp;done) | (simp [*];done) | (simp;omega))) rfl (by intro X h;cases h) fun w4 hM=>?_
  simp only [List.set_cons_zero,List.set_cons_succ] at hM
  exact sas hE rfl fun a hE=>qa (K5 (wp_ret (qb (qj hE rfl (res_cellN rfl (hM.get 0 rfl) row23 rfl) rfl ⟨(by first | (simp [kK,kE,passE,roundE,hop,hor];done) | (simp [kK,kE,passE,roundE,hop];done)),hM.pick [] rfl⟩))))
 ·replace hb17 := of_decide_eq_true (not_false' hb17)
  replace hb17 : (passE p) = 0 := by omega
  have hop : okp p = true := passE_zero.1 (by omega)
  refine wcf hE rfl (wp_skip (K3 (ww1 fun _ K5=>wpp (sm hE rfl fun a hE=>s_sliceArr (l := 0) (h := 16) (mx' := 16) hE rfl arr57 rfl rfl rfl (by simp) (by omega) (by omega) (by omega) rfl fun a hE=>?_))))
  replace hE := hE.cast 22 rfl (show _ = Value.slice (some ⟨b4,0,none⟩) 16 16 from rfl)
  refine sm hE rfl fun a hE=>?_
  obtain ⟨cq1,hq1⟩ := own_rd (hM.get 0 rfl)
  refine qn hE rfl Tryd.call31 (pkey_a _ _ (phrZ p) b _ _ z _ (hM.get 3 rfl) hq1 (rd_of_arr (hM.get 2 rfl) hl_b) (by have := phrZ_len p;omega) (by have hl_q : b.length = 16 := hl_b;omega)) rfl ?_
  rintro e w4 ⟨v24,rfl,hN⟩
  refine ⟨_,rfl,trivial,fun a hE=>?_⟩
  replace hM : Mem _ _ w4 [_,_,_,_,_] := hM.call0 hN ⟨rfl,trivial⟩;clear hN
  refine sm hE rfl fun a hE=>sx hE rfl fun a hE=>sx hE rfl fun a hE=>sas hE rfl fun a hE=>sas hE rfl fun a hE=>qa (K5 (ww1 fun _ K6=>ww1 fun _ K7=>wpp ?_))
  refine sm hE rfl fun a hE=>sb hE rfl rfl bin_neq fun a hE=>qa (K7 ?_)
  refine hE.split 28 rfl (fun hb28 hE=>?_) (fun hb28 hE=>?_)
  ·replace hb28 := of_decide_eq_false (not_true hb28)
   replace hb28 : ¬ ((roundE z) = 0) := by omega
   have hor : okr z = false := roundE_no hb28
   refine wct hE rfl (ww1 fun _ K8=>wpp (s_build (r := .agg (bv (List.replicate 32 (0 : UInt8))).toArray) _ hE rfl (fun w => by kernel_rfl) rfl fun a hE=>?_))
   refine sm hE rfl fun a hE=>?_
   replace hM : Mem _ _ w4 [_,_,_,_,_] := hM.pick [2,0,1,3,4] rfl
   refine qr 0 hE rfl rfl hM rfl sz23 ((vh _).trans (by first | (simp;done) | (simp [*];done) | (simp;omega))) (vc _) rfl ((vh _).trans (by first | (simp;done) | (simp [*];done) | (simp;omega))) rfl (by intro X h;cases h) fun w5 hM=>?_
   simp only [List.set_cons_zero,List.set_cons_succ] at hM
   exact sas hE rfl fun a hE=>qa (K8 (wp_ret (qb (qj hE rfl (res_cellN rfl (hM.get 0 rfl) row23 rfl) rfl ⟨(by first | (simp [kK,kE,passE,roundE,hop,hor];done) | (simp [kK,kE,passE,roundE,hop];done)),hM.pick [] rfl⟩))))
  ·replace hb28 := of_decide_eq_true (not_false' hb28)
   replace hb28 : (roundE z) = 0 := by omega
   have hor : okr z = true := roundE_zero.1 (by omega)
   replace hM := Mem.ownWB (p := keyZ (phrZ p) b z) (q := keyW (phrW p) b z.toNat 32) hM (by simp [keyZ,phrZ,hop,hor])
   refine wcf hE rfl (wp_skip (K6 (ww1 fun _ K8=>wpp (sm hE rfl fun a hE=>s_toArrV hE rfl (hM.get 0 rfl) rfl (keyW_length ..) (by decide) Tryd.underlying23 rfl fun a p32 hE hc32=>?_))))
   refine s_loadAtN hE rfl hc32 (by rw [vh,keyW_length];exact row23) (by intro X h;cases h) rfl fun a hE=>?_
   replace hM : Mem _ _ w4 [_,_,_,_,_] := hM.pick [2,0,1,3,4] rfl
   refine qr 0 hE rfl rfl hM rfl sz23 ((vh _).trans (keyW_length ..)) (vc _) rfl ((vh _).trans (by first | (simp;done) | (simp [*];done) | (simp;omega))) rfl (by intro X h;cases h) fun w5 hM=>?_
   simp only [List.set_cons_zero,List.set_cons_succ] at hM
   exact sas hE rfl fun a hE=>qa (K8 (wp_ret (qj hE rfl (res_cellN rfl (hM.get 0 rfl) row23 rfl) rfl ⟨(by first | (simp [kK,kE,passE,roundE,hop,hor];done) | (simp [kK,kE,passE,roundE,hop];done)),hM.pick [] rfl⟩)))
end Go.Proofs.YtniekapfoaiieaaDoor
