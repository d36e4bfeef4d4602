/- Joined: ChPure, ChgPure. -/
import Derived.Test.YthffllegmkolgaaT10FlPure
import Derived.Test.YthffllegmkolgaaT10FlOwn
import Derived.Test.YthffllegmkolgaaT10TreeSpec2
import Derived.Test.YthffllegmkolgaaT10TreeOwn
import Derived.Test.YthffllegmkolgaaT10QTreex11
namespace Go.Proofs.Ythffllegmkolgaa.TreeK
set_option linter.unusedSimpArgs false
set_option linter.unusedVariables false
theorem cells_low (least : Int) : ∀ (x : List Cel) (h : List Int) (b : Int) (p : Option Cel) (h' : List Int) (b' : Int), cellsB least h b p x = some (h', b') → (∀ c ∈ x, c.f2 < least) ∧ b' ≤ b := by
  intro x
  induction x with
  | nil =>
    intro h b p h' b' e
    simp only [cellsB, Option.some.injEq, Prod.mk.injEq] at e
    obtain ⟨rfl, rfl⟩ := e
    exact ⟨fun c hc => (by cases hc), Int.le_refl _⟩
  | cons c cs ih =>
    intro h b p h' b' e
    rw [cellsB] at e
    by_cases hc : cellB c = true ∧ c.f2 ∉ h ∧ c.f2 < least ∧ (∀ q ∈ p, aheadB q c = true)
    case neg => rw [if_neg hc] at e; cases e
    rw [if_pos hc] at e
    obtain ⟨i1, i2⟩ := ih _ _ _ _ _ e
    refine ⟨fun y hy => ?_, ?_⟩
    · rcases List.mem_cons.1 hy with rfl | hy
      · exact hc.2.2.1
      · exact i1 y hy
    · by_cases hlt : c.f2 < b
      · rw [if_pos hlt] at i2; omega
      · rw [if_neg hlt] at i2; exact i2
theorem lists_low : ∀ (xs : List (List Cel)) (h : List Int) (l : Int) (f : Bool), listsB h l f xs = true → ∀ r ∈ xs, ∀ c ∈ r, c.f2 < l := by
  intro xs
  induction xs with
  | nil => intro h l f _ r hr; cases hr
  | cons x xs ih =>
    intro h l f e r hr c hc
    rw [listsB] at e
    by_cases h0 : f = false ∧ x = []
    · rw [if_pos h0] at e; cases e
    rw [if_neg h0] at e
    cases hx : cellsB l h l none x with
    | none => rw [hx] at e; cases e
    | some q =>
      obtain ⟨h', b'⟩ := q
      rw [hx] at e
      obtain ⟨c1, c2⟩ := cells_low l x h l none h' b' hx
      rcases List.mem_cons.1 hr with rfl | hr
      · exact c1 c hc
      · have := ih _ _ _ e r hr c hc; omega
end Go.Proofs.Ythffllegmkolgaa.TreeK

namespace Go.Proofs.Ythffllegmkolgaa.TreeK
open Go.RowKit Go.Proofs.Ythffllegmkolgaa.QTree Go.Proofs.Ythffllegmkolgaa.GTree
set_option linter.unusedSimpArgs false
set_option linter.unusedVariables false
theorem cells_least (least : Int) : ∀ (x : List Cel) (h : List Int) (b : Int) (p : Option Cel) (h' : List Int) (b' : Int), cellsB least h b p x = some (h', b') → b' ≤ b ∧ ∀ c ∈ x, b' ≤ c.f2 := by
  intro x
  induction x with
  | nil =>
    intro h b p h' b' e
    simp only [cellsB, Option.some.injEq, Prod.mk.injEq] at e
    obtain ⟨rfl, rfl⟩ := e
    exact ⟨Int.le_refl _, fun c hc => by cases hc⟩
  | cons c cs ih =>
    intro h b p h' b' e
    rw [cellsB] at e
    by_cases hc : cellB c = true ∧ c.f2 ∉ h ∧ c.f2 < least ∧ (∀ q ∈ p, aheadB q c = true)
    case neg => rw [if_neg hc] at e; cases e
    rw [if_pos hc] at e
    obtain ⟨i1, i2⟩ := ih _ _ _ _ _ e
    have hm : (if c.f2 < b then c.f2 else b) ≤ b ∧ (if c.f2 < b then c.f2 else b) ≤ c.f2 := by
      by_cases hlt : c.f2 < b
      · rw [if_pos hlt]; omega
      · rw [if_neg hlt]; omega
    refine ⟨by omega, fun y hy => ?_⟩
    rcases List.mem_cons.1 hy with rfl | hy
    · omega
    · exact i2 y hy
def fallB (a b : List Cel) : Prop := ∀ x ∈ a, ∀ y ∈ b, y.f2 < x.f2
theorem lists_rows : ∀ (xs : List (List Cel)) (h : List Int) (l : Int) (f : Bool), listsB h l f xs = true → xs.Pairwise fallB ∧ (f = false → ∀ r ∈ xs, r ≠ []) ∧ ∀ r ∈ xs.tail, r ≠ [] := by
  intro xs
  induction xs with
  | nil => intro h l f _; exact ⟨List.Pairwise.nil, fun _ r hr => (by cases hr), fun r hr => (by cases hr)⟩
  | cons x xs ih =>
    intro h l f e
    rw [listsB] at e
    by_cases h0 : f = false ∧ x = []
    · rw [if_pos h0] at e; cases e
    rw [if_neg h0] at e
    cases hx : cellsB l h l none x with
    | none => rw [hx] at e; cases e
    | some q =>
      obtain ⟨h', b'⟩ := q
      rw [hx] at e
      obtain ⟨i1, i2, i3⟩ := ih _ _ _ e
      have c2 := (cells_least l x h l none h' b' hx).2
      have c3 := lists_low _ _ _ _ e
      refine ⟨List.pairwise_cons.2 ⟨fun r hr a ha b hb => ?_, i1⟩, fun hf r hr => ?_, i2 rfl⟩
      · have := c2 a ha; have := c3 r hr b hb; omega
      · rcases List.mem_cons.1 hr with rfl | hr
        · exact fun hn => h0 ⟨hf, hn⟩
        · exact i2 rfl r hr
theorem tree_rows {m : List Cel} {rs : List (List Cel)} {s q : Int} (h : treeB m rs s q = true) : (m :: rs).Pairwise fallB ∧ (∀ r ∈ rs, r ≠ []) ∧ (∀ r ∈ m :: rs, ∀ c ∈ r, c.f2 ≤ s) ∧ ∀ r ∈ m :: rs, r.Pairwise (fun a b => a.f2 ≠ b.f2) := by
  unfold treeB at h
  simp only [Bool.and_eq_true] at h
  obtain ⟨_, h⟩ := h
  obtain ⟨a1, _, a3⟩ := lists_rows _ _ _ _ h
  have a4 := lists_low _ _ _ _ h
  have a5 := (lists_facts _ _ _ _ h).2.1
  refine ⟨a1, a3, fun r hr c hc => by have := a4 r hr c hc; omega, fun r hr => ?_⟩
  exact a5.sublist (List.sublist_flatten_of_mem hr)
end Go.Proofs.Ythffllegmkolgaa.TreeK

namespace Go.Proofs.Ythffllegmkolgaa.TreeK
open Go.RowKit Go.Proofs.YthffllegmkolgaaW.PrintWords Go.Proofs.YthffllegmkolgaaW.PrintLast Go.Proofs.YthffllegmkolgaaW.PrintMore Go.Proofs.Ythffllegmkolgaa.QTree Go.Proofs.Ythffllegmkolgaa.EvKit Go.Proofs.Ythffllegmkolgaa.GTree
set_option linter.unusedSimpArgs false
set_option linter.unusedVariables false
def allC (x : Tre) : List Cel := x.f0 ++ x.f1.flatten
theorem all_facts {x : Tre} (h : trB x = true) : (allC x).length ≤ 400 ∧ (allC x).Pairwise (fun a b => a.f2 ≠ b.f2) ∧ ∀ c ∈ allC x, 1 ≤ c.f2 ∧ c.f2 ≤ 400 ∧ c.f2 ≤ x.f2 := by
  have h1 := few_cells h
  rw [List.flatten_cons] at h1
  have h2 := tree_rows h
  have h3 := tree_facts h
  refine ⟨h1, ?_, fun c hc => ?_⟩
  · have h4 : listsB [] (x.f2 + 1) true (x.f0 :: x.f1) = true := by
      have h' := h
      unfold trB treeB at h'
      simp only [Bool.and_eq_true] at h'
      exact h'.2
    have h5 := (lists_facts _ _ _ _ h4).2.1
    rwa [List.flatten_cons] at h5
  · have hm : c ∈ (x.f0 :: x.f1).flatten := by rw [List.flatten_cons]; exact hc
    obtain ⟨r, hr, hc⟩ := List.mem_flatten.1 hm
    have := h3.at_ r hr c hc
    exact ⟨this.1, this.2, h2.2.2.1 r hr c hc⟩
end Go.Proofs.Ythffllegmkolgaa.TreeK
