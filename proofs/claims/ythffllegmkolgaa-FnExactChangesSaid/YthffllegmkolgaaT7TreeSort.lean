/- The order of cells, and the one sorted row of cells no two of which tie. Plain Lean. -/
import Derived.Test.YthffllegmkolgaaT7TreePure
import Derived.Sort.Walk0
import Derived.Sort.Statements
import Derived.Shelf.SlSortCmp.Insertion
namespace Go.Proofs.Ythffllegmkolgaa.TreeK
open Go.RowKit Go.Proofs.YthffllegmkolgaaW.PrintWords Go.Proofs.YthffllegmkolgaaW.PrintLast Go.Proofs.YthffllegmkolgaaW.PrintMore Go.Proofs.Ythffllegmkolgaa.QTree
set_option linter.unusedSimpArgs false
set_option linter.unusedVariables false
theorem bl_eq (x y : List UInt8) : Op.bytesLess x y = decide (x < y) := Go.Proofs.bytesLess_eq x y
theorem bl_irrefl (x : List UInt8) : Op.bytesLess x x = false := by rw [bl_eq]; simp
theorem bl_trans {x y z : List UInt8} (h1 : Op.bytesLess x y = true) (h2 : Op.bytesLess y z = true) : Op.bytesLess x z = true := by
  rw [bl_eq, decide_eq_true_eq] at *
  exact List.lt_trans h1 h2
theorem bl_tri (x y : List UInt8) : Op.bytesLess x y = true ∨ x = y ∨ Op.bytesLess y x = true := by
  rw [bl_eq, bl_eq, decide_eq_true_eq, decide_eq_true_eq]
  by_cases h : x < y
  · exact .inl h
  · by_cases h2 : y < x
    · exact .inr (.inr h2)
    · exact .inr (.inl (List.le_antisymm (List.not_lt.1 h2) (List.not_lt.1 h)))
theorem aheadB_iff (a b : Cel) : aheadB a b = true ↔ Op.bytesLess a.f0.toList b.f0.toList = true ∨ (a.f0.toList = b.f0.toList ∧ b.f2 < a.f2) := by
  unfold aheadB
  simp
theorem ahead_trans {a b c : Cel} (h1 : aheadB a b = true) (h2 : aheadB b c = true) : aheadB a c = true := by
  rw [aheadB_iff] at *
  rcases h1 with h1 | ⟨e1, h1⟩ <;> rcases h2 with h2 | ⟨e2, h2⟩
  · exact .inl (bl_trans h1 h2)
  · exact .inl (e2 ▸ h1)
  · exact .inl (e1 ▸ h2)
  · exact .inr ⟨e1.trans e2, by omega⟩
theorem ahead_tri (a b : Cel) : aheadB a b = true ∨ (a.f0.toList = b.f0.toList ∧ a.f2 = b.f2) ∨ aheadB b a = true := by
  rw [aheadB_iff, aheadB_iff]
  rcases bl_tri a.f0.toList b.f0.toList with h | h | h
  · exact .inl (.inl h)
  · rcases Int.lt_trichotomy a.f2 b.f2 with h2 | h2 | h2
    · exact .inr (.inr (.inr ⟨h.symm, h2⟩))
    · exact .inr (.inl ⟨h, h2⟩)
    · exact .inl (.inr ⟨h, h2⟩)
  · exact .inr (.inr (.inl h))
def insC (c : Cel) : List Cel → List Cel
  | [] => [c]
  | x :: xs => if aheadB x c = true then x :: insC c xs else c :: x :: xs
def srtOn (a l : List Cel) : List Cel := l.foldl (fun a c => insC c a) a
def srt (l : List Cel) : List Cel := srtOn [] l
def apart (a b : Cel) : Bool := aheadB a b || aheadB b a
theorem apart_iff (a b : Cel) : apart a b = true ↔ ¬ (a.f0.toList = b.f0.toList ∧ a.f2 = b.f2) := by
  unfold apart
  rw [Bool.or_eq_true]
  constructor
  · rintro (h | h) ⟨e1, e2⟩
    · rcases (aheadB_iff a b).1 h with h | ⟨_, h⟩
      · rw [e1, bl_irrefl] at h; cases h
      · omega
    · rcases (aheadB_iff b a).1 h with h | ⟨_, h⟩
      · rw [e1, bl_irrefl] at h; cases h
      · omega
  · intro h
    rcases ahead_tri a b with h1 | h1 | h1
    · exact .inl h1
    · exact absurd h1 h
    · exact .inr h1
def noTie (l : List Cel) : Bool := decide (l.Pairwise (fun a b => apart a b = true))
end Go.Proofs.Ythffllegmkolgaa.TreeK
