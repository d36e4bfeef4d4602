/- What it is that RecordOk, BatchOk and LogOk tell, in plain Lean; no program in sight. -/
import Derived.Test.YtoacdmohgohpdaaK2QFnExactBehindx0
namespace Go.Proofs.Ytoacdmohgohpdaa.LogK
open Go.RowKit Go.Proofs.YtoacdmohgohpdaaW.PrintWords Go.Proofs.YtoacdmohgohpdaaW.PrintLast Go.Proofs.YtoacdmohgohpdaaW.PrintMore Go.Proofs.Ytoacdmohgohpdaa.QFnExactBehind
abbrev Hd := S177
abbrev Rec := S158
abbrev Bat := S82
abbrev Seg := S125
abbrev Twn := S106
def headB (h : Hd) : Bool := !(h.f0.toList == ([] : List UInt8)) && !decide (100 < h.f0.size) && !decide (100 < h.f1.size)
def recordB (r : Rec) : Bool := decide (0 ≤ r.f0 ∧ r.f0 ≤ 1000000000000) && !decide (100 < r.f2.size) && !decide (100 < r.f4.size) && !decide (3 < r.f5.length) && (r.f1 || r.f2.toList == ([] : List UInt8)) && (!r.f3 || r.f4.toList == ([] : List UInt8)) && r.f5.all headB
def markB (r : Rec) : Bool := r.f1 && (r.f2.toList == [99, 111, 109, 109, 105, 116] || r.f2.toList == [97, 98, 111, 114, 116]) && !r.f3 && r.f4.toList == ([] : List UInt8) && decide (r.f5.length = 0)
def openB (f : Int) : Bool := decide (f = 2 ∨ f = 3 ∨ f = 6 ∨ f = 7)
def batchB (b : Bat) : Bool := (decide (0 ≤ b.f0 ∧ b.f0 ≤ 1000000000) && decide (0 ≤ b.f1 ∧ b.f1 ≤ 1000000) && decide (-1 ≤ b.f2 ∧ b.f2 ≤ 1000000000) && decide (0 ≤ b.f3 ∧ b.f3 ≤ 1000) && decide (0 ≤ b.f4 ∧ b.f4 ≤ 1000000000) && decide (0 ≤ b.f5 ∧ b.f5 ≤ 7))
  && !(decide (b.f2 < 0) && (b.f3 != 0 || b.f4 != 0 || openB b.f5)) && !(decide (4 ≤ b.f5) && !openB b.f5)
  && (decide (1 ≤ (b.f6.length : Int) ∧ (b.f6.length : Int) ≤ 40) && decide (b.f0 + b.f6.length - 1 ≤ 1000000000) && decide (b.f4 + b.f6.length - 1 ≤ 1000000000))
  && b.f6.all recordB && (!decide (4 ≤ b.f5) || (decide (b.f6.length = 1) && markB (b.f6.getD 0 z158)))
theorem flags (f : Int) (h : 0 ≤ f ∧ f ≤ 7) : (Int.tmod (wrap64 (Int.tdiv f 2)) 2 == 1) = openB f ∧ (Int.tmod (wrap64 (Int.tdiv f 2)) 2 == 0) = !openB f ∧ (Go.bits .and .i64 f 2 == 0) = !openB f ∧ (Go.bits .and .i64 f 2 != 0) = openB f ∧ (Go.bits .and .i64 f 4 == 0) = !decide (4 ≤ f) ∧ (Go.bits .and .i64 f 4 != 0) = decide (4 ≤ f) := by
  have : f = 0 ∨ f = 1 ∨ f = 2 ∨ f = 3 ∨ f = 4 ∨ f = 5 ∨ f = 6 ∨ f = 7 := by omega
  rcases this with rfl | rfl | rfl | rfl | rfl | rfl | rfl | rfl <;> refine ⟨?_, ?_, ?_, ?_, ?_, ?_⟩ <;> decide +kernel
def lastO (b : Bat) : Int := b.f0 + b.f6.length - 1
def batsB (base : Int) : Int → Int → List Bat → Option (Int × Int)
  | l, e, [] => some (l, e)
  | l, e, b :: bs => if batchB b = true ∧ l < b.f0 ∧ base ≤ b.f0 ∧ e ≤ b.f1 then batsB base (lastO b) b.f1 bs else none
def segsB (next : Int) : Int → Int → Int → List Seg → Bool
  | l, _, n, [] => decide (l < next ∧ n ≤ 400)
  | l, e, n, s :: ss => if l < s.f0 ∧ 0 ≤ s.f0 ∧ (s.f1 ≠ [] ∨ ss = []) then
      (match batsB s.f0 l e s.f1 with | none => false | some (l', e') => segsB next (if l' < s.f0 - 1 then s.f0 - 1 else l') e' (n + s.f1.length) ss) else false
def logB (start next roll : Int) (x : List Seg) : Bool := !decide (60 < x.length) && decide (1 ≤ roll ∧ roll ≤ 20000) && decide (0 ≤ next ∧ next ≤ 1000000000) && decide (0 ≤ start ∧ start ≤ next) && segsB next (-1) 0 0 x
theorem segsB_many (next : Int) (x : List Seg) : ∀ l e n : Int, 400 < n → segsB next l e n x = false := by
  induction x with
  | nil => intro l e n h; simp [segsB]; omega
  | cons s ss ih =>
    intro l e n h
    unfold segsB
    split
    · split
      · rfl
      · exact ih _ _ _ (by omega)
    · rfl
end Go.Proofs.Ytoacdmohgohpdaa.LogK
