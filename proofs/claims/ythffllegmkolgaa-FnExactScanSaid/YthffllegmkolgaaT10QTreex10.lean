/- Joined: TreeSort, QTreex10. -/
import Derived.Test.YthffllegmkolgaaT10TreePure
import Derived.Sort.Walk0
import Derived.Sort.Statements
import Derived.Shelf.SlSortCmp.Insertion
import Derived.Test.YthffllegmkolgaaT10TreeCalls
import Derived.Test.YthffllegmkolgaaT10SortKit
import Derived.Test.YthffllegmkolgaaProg
import Derived.Shelf.SlSortCmp.WholeK
import Derived.Shelf.SlSortCmp.NoneTotal
import Derived.Test.YthffllegmkolgaaT10QTreex0
namespace Go.Proofs.Ythffllegmkolgaa.TreeK
open Go.RowKit Go.Proofs.YthffllegmkolgaaW.PrintWords Go.Proofs.YthffllegmkolgaaW.PrintLast Go.Proofs.YthffllegmkolgaaW.PrintMore Go.Proofs.Ythffllegmkolgaa.QTree
set_option linter.unusedSimpArgs false
set_option linter.unusedVariables false
theorem bl_eq (x y : List UInt8) : Op.bytesLess x y = decide (x < y) := Go.Proofs.bytesLess_eq x y
theorem bl_irrefl (x : List UInt8) : Op.bytesLess x x = false := by rw [bl_eq]; simp
theorem bl_trans {x y z : List UInt8} (h1 : Op.bytesLess x y = true) (h2 : Op.bytesLess y z = true) : Op.bytesLess x z = true := by
  rw [bl_eq, decide_eq_true_eq] at *
  exact List.lt_trans h1 h2
theorem bl_tri (x y : List UInt8) : Op.bytesLess x y = true ∨ x = y ∨ Op.bytesLess y x = true := by
  rw [bl_eq, bl_eq, decide_eq_true_eq, decide_eq_true_eq]
  by_cases h : x < y
  · exact .inl h
  · by_cases h2 : y < x
    · exact .inr (.inr h2)
    · exact .inr (.inl (List.le_antisymm (List.not_lt.1 h2) (List.not_lt.1 h)))
theorem aheadB_iff (a b : Cel) : aheadB a b = true ↔ Op.bytesLess a.f0.toList b.f0.toList = true ∨ (a.f0.toList = b.f0.toList ∧ b.f2 < a.f2) := by
  unfold aheadB
  simp
theorem ahead_trans {a b c : Cel} (h1 : aheadB a b = true) (h2 : aheadB b c = true) : aheadB a c = true := by
  rw [aheadB_iff] at *
  rcases h1 with h1 | ⟨e1, h1⟩ <;> rcases h2 with h2 | ⟨e2, h2⟩
  · exact .inl (bl_trans h1 h2)
  · exact .inl (e2 ▸ h1)
  · exact .inl (e1 ▸ h2)
  · exact .inr ⟨e1.trans e2, by omega⟩
theorem ahead_tri (a b : Cel) : aheadB a b = true ∨ (a.f0.toList = b.f0.toList ∧ a.f2 = b.f2) ∨ aheadB b a = true := by
  rw [aheadB_iff, aheadB_iff]
  rcases bl_tri a.f0.toList b.f0.toList with h | h | h
  · exact .inl (.inl h)
  · rcases Int.lt_trichotomy a.f2 b.f2 with h2 | h2 | h2
    · exact .inr (.inr (.inr ⟨h.symm, h2⟩))
    · exact .inr (.inl ⟨h, h2⟩)
    · exact .inl (.inr ⟨h, h2⟩)
  · exact .inr (.inr (.inl h))
def insC (c : Cel) : List Cel → List Cel
  | [] => [c]
  | x :: xs => if aheadB x c = true then x :: insC c xs else c :: x :: xs
def srtOn (a l : List Cel) : List Cel := l.foldl (fun a c => insC c a) a
def srt (l : List Cel) : List Cel := srtOn [] l
theorem insC_perm (c : Cel) : ∀ l, (insC c l).Perm (c :: l)
  | [] => List.Perm.refl _
  | x :: xs => by
    rw [insC]
    by_cases h : aheadB x c = true
    · rw [if_pos h]
      exact ((insC_perm c xs).cons x).trans (List.Perm.swap c x xs)
    · rw [if_neg h]
theorem srtOn_perm : ∀ (l a : List Cel), (srtOn a l).Perm (a ++ l)
  | [], a => by simp [srtOn]
  | c :: l, a => by
    show (srtOn (insC c a) l).Perm _
    exact (srtOn_perm l _).trans (((insC_perm c a).append_right l).trans (List.perm_middle.symm))
theorem srt_perm (l : List Cel) : (srt l).Perm l := by have h := srtOn_perm l []; rwa [List.nil_append] at h
def apart (a b : Cel) : Bool := aheadB a b || aheadB b a
theorem apart_iff (a b : Cel) : apart a b = true ↔ ¬ (a.f0.toList = b.f0.toList ∧ a.f2 = b.f2) := by
  unfold apart
  rw [Bool.or_eq_true]
  constructor
  · rintro (h | h) ⟨e1, e2⟩
    · rcases (aheadB_iff a b).1 h with h | ⟨_, h⟩
      · rw [e1, bl_irrefl] at h; cases h
      · omega
    · rcases (aheadB_iff b a).1 h with h | ⟨_, h⟩
      · rw [e1, bl_irrefl] at h; cases h
      · omega
  · intro h
    rcases ahead_tri a b with h1 | h1 | h1
    · exact .inl h1
    · exact absurd h1 h
    · exact .inr h1
theorem insC_sorted (c : Cel) : ∀ l, l.Pairwise (fun a b => aheadB a b = true) → (∀ x ∈ l, apart x c = true) → (insC c l).Pairwise (fun a b => aheadB a b = true)
  | [], _, _ => by simp [insC]
  | x :: xs, h, hd => by
    obtain ⟨h1, h2⟩ := List.pairwise_cons.1 h
    rw [insC]
    by_cases hx : aheadB x c = true
    · rw [if_pos hx]
      refine List.pairwise_cons.2 ⟨fun y hy => ?_, insC_sorted c xs h2 (fun y hy => hd y (List.mem_cons_of_mem _ hy))⟩
      rcases List.mem_cons.1 ((insC_perm c xs).mem_iff.1 hy) with rfl | hy
      · exact hx
      · exact h1 y hy
    · rw [if_neg hx]
      have hcx : aheadB c x = true := by
        have := hd x List.mem_cons_self
        unfold apart at this
        rw [Bool.or_eq_true] at this
        exact this.resolve_left hx
      refine List.pairwise_cons.2 ⟨fun y hy => ?_, h⟩
      rcases List.mem_cons.1 hy with rfl | hy
      · exact hcx
      · exact ahead_trans hcx (h1 y hy)
def noTie (l : List Cel) : Bool := decide (l.Pairwise (fun a b => apart a b = true))
theorem noTie_iff (l : List Cel) : noTie l = true ↔ l.Pairwise (fun a b => apart a b = true) := by unfold noTie; simp
theorem apart_comm (a b : Cel) : apart a b = apart b a := Bool.or_comm _ _
theorem noTie_perm {l l' : List Cel} (hp : l.Perm l') (h : noTie l = true) : noTie l' = true := by
  rw [noTie_iff] at *
  exact (hp.pairwise_iff (fun {a b} h => by rw [apart_comm]; exact h)).1 h
theorem srtOn_sorted : ∀ (l a : List Cel), a.Pairwise (fun a b => aheadB a b = true) → noTie (a ++ l) = true → (srtOn a l).Pairwise (fun a b => aheadB a b = true)
  | [], a, h, _ => h
  | c :: l, a, h, hn => by
    show (srtOn (insC c a) l).Pairwise _
    have hn2 := (noTie_iff _).1 hn
    refine srtOn_sorted l _ (insC_sorted c a h (fun x hx => ?_)) ?_
    · exact (List.pairwise_append.1 hn2).2.2 x hx c List.mem_cons_self
    · exact noTie_perm ((List.perm_middle).trans ((insC_perm c a).symm.append_right l)) hn
theorem srt_sorted {l : List Cel} (h : noTie l = true) : (srt l).Pairwise (fun a b => aheadB a b = true) := srtOn_sorted l [] List.Pairwise.nil (by simpa using h)
end Go.Proofs.Ythffllegmkolgaa.TreeK

namespace Go.Proofs.Ythffllegmkolgaa.TreeK
open Go.RowKit Go.Proofs.YthffllegmkolgaaW.PrintWords Go.Proofs.YthffllegmkolgaaW.PrintLast Go.Proofs.YthffllegmkolgaaW.PrintMore Go.Proofs.Ythffllegmkolgaa.QTree Go.Sort
set_option linter.unusedSimpArgs false
set_option linter.unusedVariables false
abbrev CelR := {c : Cel // 1 ≤ c.f2 ∧ c.f2 ≤ 400}
instance : Inhabited CelR := ⟨⟨⟨⟨#[]⟩, ⟨#[]⟩, 1, false⟩, by decide⟩⟩
end Go.Proofs.Ythffllegmkolgaa.TreeK

namespace Go.Proofs.Ythffllegmkolgaa.QTree
open Go.RowKit Go.Proofs.YthffllegmkolgaaW.PrintWords Go.Proofs.YthffllegmkolgaaW.PrintLast Go.Proofs.YthffllegmkolgaaW.PrintMore
attribute [local go_sem] max2_int min2_int max_two min_two max_three min_three max_four min_four   -- for this text's walks alone
set_option linter.unusedVariables false
set_option linter.unusedSimpArgs false
def impl_Cell_73.ok (l0 : List (S48)) : Bool := l0.all (fun c => decide (1 ≤ c.f2 ∧ c.f2 ≤ 400)) && TreeK.noTie l0 && decide (l0.length < 4611686018427387904)
def impl_Cell_73.f (l0 : List (S48)) : Option (List (S48)) := if impl_Cell_73.ok l0 = true then some (TreeK.srt l0) else none
end Go.Proofs.Ythffllegmkolgaa.QTree
