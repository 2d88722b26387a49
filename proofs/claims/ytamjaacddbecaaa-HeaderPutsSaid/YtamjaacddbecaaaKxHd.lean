/- Own library, part Hd: headers as bytes, in plain Lean. -/
import Derived.Test.YtamjaacddbecaaaKxSt
set_option linter.unusedSimpArgs false
set_option linter.unusedVariables false
namespace Go.Kx
open Go
/-- A volume: used, number, data, tag. -/
abbrev Vo := Bool × Nat × List UInt8 × List UInt8
/-- A slot: used, iterations, salt, data, tag. -/
abbrev So := Bool × Int × List UInt8 × List UInt8 × List UInt8
structure Hd where
  m : Int
  r : Int
  v0 : Vo
  v1 : Vo
  s0 : So
  s1 : So
  s2 : So
  s3 : So
def OkV (v : Vo) : Prop := v.2.1 < 18446744073709551616 ∧ v.2.2.1.length = 32 ∧ v.2.2.2.length = 32
def OkS (s : So) : Prop := In64 s.2.1 ∧ s.2.2.1.length = 16 ∧ s.2.2.2.1.length = 32 ∧ s.2.2.2.2.length = 32
structure OkHd (h : Hd) : Prop where
  m : In64 h.m
  r : In64 h.r
  v0 : OkV h.v0
  v1 : OkV h.v1
  s0 : OkS h.s0
  s1 : OkS h.s1
  s2 : OkS h.s2
  s3 : OkS h.s3
def zV : Vo := (false, 0, List.replicate 32 0, List.replicate 32 0)
def zS : So := (false, 0, List.replicate 16 0, List.replicate 32 0, List.replicate 32 0)
def zH : Hd := ⟨0, 0, zV, zV, zS, zS, zS, zS⟩
def volZ (v : Vo) : Bool := decide (v.1 = false ∧ (v.2.1 : Int) = 0 ∧ v.2.2.1 = List.replicate 32 0 ∧ v.2.2.2 = List.replicate 32 0)
def volB (v : Vo) : Bool := decide (v.2.1 ≤ 4611686018427387904) && (v.1 || volZ v)
def slotZ (s : So) : Bool := decide (s.1 = false ∧ s.2.1 = 0 ∧ s.2.2.1 = List.replicate 16 0 ∧ s.2.2.2.1 = List.replicate 32 0 ∧ s.2.2.2.2 = List.replicate 32 0)
def slotB (s : So) : Bool := if s.1 then decide (1 ≤ s.2.1) else slotZ s
def geoB (m r : Int) : Bool := decide (4 ≤ m) && decide (m ≤ 64) && decide (1 ≤ r) && decide (r ≤ 64)
def shapedB (h : Hd) : Bool := volB h.v0 && volB h.v1 && slotB h.s0 && slotB h.s1 && slotB h.s2 && slotB h.s3 && geoB h.m h.r
def longB (h : Hd) : Bool := decide (4096 < h.s0.2.1) || decide (4096 < h.s1.2.1) || decide (4096 < h.s2.2.1) || decide (4096 < h.s3.2.1)
def checkH (h : Hd) : Nat := if shapedB h && !longB h then 0 else 2
def flagN (b : Bool) : Nat := if b then 1 else 0
def magicH : List UInt8 := [67, 65, 83, 69, 77, 65, 84, 49]
def layV (v : Vo) : List UInt8 := laid 1 (flagN v.1) ++ (laid 8 v.2.1 ++ (v.2.2.1 ++ v.2.2.2))
def layS (s : So) : List UInt8 := laid 1 (flagN s.1) ++ (laid 4 s.2.1.toNat ++ (s.2.2.1 ++ (s.2.2.2.1 ++ s.2.2.2.2)))
def layH (h : Hd) : List UInt8 := magicH ++ (laid 1 h.m.toNat ++ (laid 1 h.r.toNat ++ (layV h.v0 ++ (layV h.v1 ++ (layS h.s0 ++ (layS h.s1 ++ (layS h.s2 ++ layS h.s3)))))))
theorem layV_len {v : Vo} (h : OkV v) : (layV v).length = 73 := by simp [layV, h.2.1, h.2.2]
theorem layS_len {s : So} (h : OkS s) : (layS s).length = 85 := by simp [layS, h.2.1, h.2.2.1, h.2.2.2]
theorem layH_len {h : Hd} (k : OkHd h) : (layH h).length = 496 := by
  simp [layH, magicH, layV_len k.v0, layV_len k.v1, layS_len k.s0, layS_len k.s1, layS_len k.s2, layS_len k.s3]
/-- What stands in bytes as a header. -/
def seg (b : List UInt8) (i n : Nat) : List UInt8 := (b.drop i).take n
def readV (b : List UInt8) (i : Nat) : Vo := (decide (val (seg b i 1) = 1), val (seg b (i + 1) 8), seg b (i + 9) 32, seg b (i + 41) 32)
def readS (b : List UInt8) (i : Nat) : So := (decide (val (seg b i 1) = 1), (val (seg b (i + 1) 4) : Nat), seg b (i + 5) 16, seg b (i + 21) 32, seg b (i + 53) 32)
def readH (b : List UInt8) : Hd := ⟨(val (seg b 8 1) : Nat), (val (seg b 9 1) : Nat), readV b 10, readV b 83, readS b 156, readS b 241, readS b 326, readS b 411⟩
theorem seg_len {b : List UInt8} {i n : Nat} (h : i + n ≤ b.length) : (seg b i n).length = n := by simp [seg]; omega
theorem readV_ok {b : List UInt8} {i : Nat} (h : i + 73 ≤ b.length) : OkV (readV b i) := by
  have := val8 (l := seg b (i + 1) 8) (seg_len (by omega))
  exact ⟨this, seg_len (by omega), seg_len (by omega)⟩
theorem readS_ok {b : List UInt8} {i : Nat} (h : i + 85 ≤ b.length) : OkS (readS b i) := by
  have := val4 (l := seg b (i + 1) 4) (seg_len (by omega))
  refine ⟨?_, seg_len (by omega), seg_len (by omega), seg_len (by omega)⟩
  simp only [readS, In64]; omega
theorem readH_ok {b : List UInt8} (h : 496 ≤ b.length) : OkHd (readH b) := by
  have h1 := val1 (l := seg b 8 1) (seg_len (by omega))
  have h2 := val1 (l := seg b 9 1) (seg_len (by omega))
  exact ⟨by simp only [readH, In64]; omega, by simp only [readH, In64]; omega, readV_ok (by omega), readV_ok (by omega), readS_ok (by omega), readS_ok (by omega), readS_ok (by omega), readS_ok (by omega)⟩
theorem slotB_ge {s : So} (h : slotB s = true) : 0 ≤ s.2.1 := by
  unfold slotB at h
  split at h
  · have := of_decide_eq_true h; omega
  · have := of_decide_eq_true h; omega
/-- The sectors. -/
def padH (b : List UInt8) : List UInt8 := b ++ List.replicate 16 0
def cutH (b : List UInt8) : List (List UInt8) := (List.range 8).map fun i => seg (padH b) (64 * i) 64
def getOkH (l : List (List UInt8)) : Bool := decide (l.length = 8) && shapedB (readH l.flatten) && decide (padH (layH (readH l.flatten)) = l.flatten)
def getEH (l : List (List UInt8)) : Nat := if getOkH l then (if longB (readH l.flatten) then 3 else 0) else 4
def getHH (l : List (List UInt8)) : Hd := if getOkH l && !longB (readH l.flatten) then readH l.flatten else zH
end Go.Kx
