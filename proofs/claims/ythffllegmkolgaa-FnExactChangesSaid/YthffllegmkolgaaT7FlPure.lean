/- What is known of the cells of a right tree; a flush, told plainly. -/
import Derived.Test.YthffllegmkolgaaT7FlushI
namespace Go.Proofs.Ythffllegmkolgaa.TreeK
set_option linter.unusedSimpArgs false
set_option linter.unusedVariables false
theorem cells_facts (least : Int) : ∀ (x : List Cel) (h : List Int) (b : Int) (p : Option Cel) (h' : List Int) (b' : Int), cellsB least h b p x = some (h', b') →
    (∀ c ∈ x, cellB c = true ∧ c.f2 ∉ h) ∧ x.Pairwise (fun a b => a.f2 ≠ b.f2) ∧ (∀ i, i ∈ h' ↔ i ∈ h ∨ ∃ c ∈ x, c.f2 = i) ∧ x.Pairwise (fun a b => aheadB a b = true) ∧ (∀ q ∈ p, ∀ c ∈ x, aheadB q c = true) := by
  intro x
  induction x with
  | nil =>
    intro h b p h' b' e
    simp only [cellsB, Option.some.injEq, Prod.mk.injEq] at e
    obtain ⟨rfl, rfl⟩ := e
    simp
  | cons c cs ih =>
    intro h b p h' b' e
    rw [cellsB] at e
    by_cases hc : cellB c = true ∧ c.f2 ∉ h ∧ c.f2 < least ∧ (∀ q ∈ p, aheadB q c = true)
    case neg => rw [if_neg hc] at e; cases e
    rw [if_pos hc] at e
    obtain ⟨i1, i2, i3, i4, i5⟩ := ih _ _ _ _ _ e
    obtain ⟨c1, c2, _, c4⟩ := hc
    have i5' : ∀ y ∈ cs, aheadB c y = true := i5 c rfl
    refine ⟨fun y hy => ?_, List.pairwise_cons.2 ⟨fun y hy he => ?_, i2⟩, fun i => ?_, List.pairwise_cons.2 ⟨i5', i4⟩, fun q hq y hy => ?_⟩
    · rcases List.mem_cons.1 hy with rfl | hy
      · exact ⟨c1, c2⟩
      · exact ⟨(i1 y hy).1, fun h0 => (i1 y hy).2 (List.mem_cons_of_mem _ h0)⟩
    · exact (i1 y hy).2 (by rw [← he]; exact List.mem_cons_self)
    · rw [i3 i]
      simp only [List.mem_cons]
      constructor
      · rintro ((h0 | h0) | ⟨y, hy, h0⟩)
        · exact .inr ⟨c, .inl rfl, h0.symm⟩
        · exact .inl h0
        · exact .inr ⟨y, .inr hy, h0⟩
      · rintro (h0 | ⟨y, hy | hy, h0⟩)
        · exact .inl (.inr h0)
        · subst hy; exact .inl (.inl h0.symm)
        · exact .inr ⟨y, hy, h0⟩
    · rcases List.mem_cons.1 hy with rfl | hy
      · exact c4 q hq
      · exact ahead_trans (c4 q hq) (i5' y hy)
theorem lists_facts : ∀ (xs : List (List Cel)) (h : List Int) (l : Int) (f : Bool), listsB h l f xs = true →
    (∀ r ∈ xs, ∀ c ∈ r, cellB c = true ∧ c.f2 ∉ h) ∧ xs.flatten.Pairwise (fun a b => a.f2 ≠ b.f2) ∧ ∀ r ∈ xs, r.Pairwise (fun a b => aheadB a b = true) := by
  intro xs
  induction xs with
  | nil => intro h l f _; simp
  | cons x xs ih =>
    intro h l f e
    rw [listsB] at e
    by_cases h0 : f = false ∧ x = []
    · rw [if_pos h0] at e; cases e
    rw [if_neg h0] at e
    cases hx : cellsB l h l none x with
    | none => rw [hx] at e; cases e
    | some q =>
      obtain ⟨h', b'⟩ := q
      rw [hx] at e
      obtain ⟨i1, i2, i3⟩ := ih _ _ _ e
      obtain ⟨c1, c2, c3, c4, _⟩ := cells_facts l x h l none h' b' hx
      refine ⟨fun r hr c hc => ?_, ?_, fun r hr => ?_⟩
      · rcases List.mem_cons.1 hr with rfl | hr
        · exact c1 c hc
        · exact ⟨(i1 r hr c hc).1, fun h2 => (i1 r hr c hc).2 ((c3 _).2 (.inl h2))⟩
      · rw [List.flatten_cons, List.pairwise_append]
        refine ⟨c2, i2, fun a ha b hb he => ?_⟩
        obtain ⟨r, hr, hb⟩ := List.mem_flatten.1 hb
        exact (i1 r hr b hb).2 ((c3 _).2 (.inr ⟨a, ha, he⟩))
      · rcases List.mem_cons.1 hr with rfl | hr
        · exact c4
        · exact i3 r hr
structure TreeR (m : List Cel) (rs : List (List Cel)) (s q : Int) : Prop where
  most : 1 ≤ q ∧ q ≤ 50
  seq : 0 ≤ s ∧ s ≤ 400
  len : (m.length : Int) ≤ q
  runs : rs.length ≤ 6
  cell : ∀ r ∈ m :: rs, ∀ c ∈ r, cellB c = true
  at_ : ∀ r ∈ m :: rs, ∀ c ∈ r, 1 ≤ c.f2 ∧ c.f2 ≤ 400
  tie : noTie (m :: rs).flatten = true
  ord : ∀ r ∈ m :: rs, r.Pairwise (fun a b => aheadB a b = true)
theorem tree_facts {m : List Cel} {rs : List (List Cel)} {s q : Int} (h : treeB m rs s q = true) : TreeR m rs s q := by
  unfold treeB at h
  simp only [Bool.and_eq_true, decide_eq_true_eq, Bool.not_eq_true', decide_eq_false_iff_not] at h
  obtain ⟨⟨⟨⟨h1, h2⟩, h3⟩, h4⟩, h5⟩ := h
  obtain ⟨i1, i2, i3⟩ := lists_facts _ _ _ _ h5
  refine ⟨h1, h2, by omega, by omega, fun r hr c hc => (i1 r hr c hc).1, fun r hr c hc => ?_, ?_, i3⟩
  · have := (i1 r hr c hc).1
    unfold cellB at this
    simp only [Bool.and_eq_true, decide_eq_true_eq] at this
    exact this.2
  · unfold noTie
    exact decide_eq_true (i2.imp (fun {a b} hab => (apart_iff a b).2 (fun hh => hab hh.2)))
end Go.Proofs.Ythffllegmkolgaa.TreeK
