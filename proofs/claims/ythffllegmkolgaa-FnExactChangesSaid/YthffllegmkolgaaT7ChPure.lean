/- A change of a tree, told plainly. -/
import Derived.Test.YthffllegmkolgaaT7FlPure
namespace Go.Proofs.Ythffllegmkolgaa.TreeK
set_option linter.unusedSimpArgs false
set_option linter.unusedVariables false
theorem cells_low (least : Int) : ∀ (x : List Cel) (h : List Int) (b : Int) (p : Option Cel) (h' : List Int) (b' : Int), cellsB least h b p x = some (h', b') → (∀ c ∈ x, c.f2 < least) ∧ b' ≤ b := by
  intro x
  induction x with
  | nil =>
    intro h b p h' b' e
    simp only [cellsB, Option.some.injEq, Prod.mk.injEq] at e
    obtain ⟨rfl, rfl⟩ := e
    exact ⟨fun c hc => (by cases hc), Int.le_refl _⟩
  | cons c cs ih =>
    intro h b p h' b' e
    rw [cellsB] at e
    by_cases hc : cellB c = true ∧ c.f2 ∉ h ∧ c.f2 < least ∧ (∀ q ∈ p, aheadB q c = true)
    case neg => rw [if_neg hc] at e; cases e
    rw [if_pos hc] at e
    obtain ⟨i1, i2⟩ := ih _ _ _ _ _ e
    refine ⟨fun y hy => ?_, ?_⟩
    · rcases List.mem_cons.1 hy with rfl | hy
      · exact hc.2.2.1
      · exact i1 y hy
    · by_cases hlt : c.f2 < b
      · rw [if_pos hlt] at i2; omega
      · rw [if_neg hlt] at i2; exact i2
theorem lists_low : ∀ (xs : List (List Cel)) (h : List Int) (l : Int) (f : Bool), listsB h l f xs = true → ∀ r ∈ xs, ∀ c ∈ r, c.f2 < l := by
  intro xs
  induction xs with
  | nil => intro h l f _ r hr; cases hr
  | cons x xs ih =>
    intro h l f e r hr c hc
    rw [listsB] at e
    by_cases h0 : f = false ∧ x = []
    · rw [if_pos h0] at e; cases e
    rw [if_neg h0] at e
    cases hx : cellsB l h l none x with
    | none => rw [hx] at e; cases e
    | some q =>
      obtain ⟨h', b'⟩ := q
      rw [hx] at e
      obtain ⟨c1, c2⟩ := cells_low l x h l none h' b' hx
      rcases List.mem_cons.1 hr with rfl | hr
      · exact c1 c hc
      · have := ih _ _ _ e r hr c hc; omega
end Go.Proofs.Ythffllegmkolgaa.TreeK
