/- Joined: FlPure, ChPure. -/
import Derived.Test.YthffllegmkolgaaT11FlushI
namespace Go.Proofs.Ythffllegmkolgaa.TreeK
set_option linter.unusedSimpArgs false
set_option linter.unusedVariables false
theorem cells_facts (least : Int) : ∀ (x : List Cel) (h : List Int) (b : Int) (p : Option Cel) (h' : List Int) (b' : Int), cellsB least h b p x = some (h', b') →
    (∀ c ∈ x, cellB c = true ∧ c.f2 ∉ h) ∧ x.Pairwise (fun a b => a.f2 ≠ b.f2) ∧ (∀ i, i ∈ h' ↔ i ∈ h ∨ ∃ c ∈ x, c.f2 = i) ∧ x.Pairwise (fun a b => aheadB a b = true) ∧ (∀ q ∈ p, ∀ c ∈ x, aheadB q c = true) := by
  intro x
  induction x with
  | nil =>
    intro h b p h' b' e
    simp only [cellsB, Option.some.injEq, Prod.mk.injEq] at e
    obtain ⟨rfl, rfl⟩ := e
    simp
  | cons c cs ih =>
    intro h b p h' b' e
    rw [cellsB] at e
    by_cases hc : cellB c = true ∧ c.f2 ∉ h ∧ c.f2 < least ∧ (∀ q ∈ p, aheadB q c = true)
    case neg => rw [if_neg hc] at e; cases e
    rw [if_pos hc] at e
    obtain ⟨i1, i2, i3, i4, i5⟩ := ih _ _ _ _ _ e
    obtain ⟨c1, c2, _, c4⟩ := hc
    have i5' : ∀ y ∈ cs, aheadB c y = true := i5 c rfl
    refine ⟨fun y hy => ?_, List.pairwise_cons.2 ⟨fun y hy he => ?_, i2⟩, fun i => ?_, List.pairwise_cons.2 ⟨i5', i4⟩, fun q hq y hy => ?_⟩
    · rcases List.mem_cons.1 hy with rfl | hy
      · exact ⟨c1, c2⟩
      · exact ⟨(i1 y hy).1, fun h0 => (i1 y hy).2 (List.mem_cons_of_mem _ h0)⟩
    · exact (i1 y hy).2 (by rw [← he]; exact List.mem_cons_self)
    · rw [i3 i]
      simp only [List.mem_cons]
      constructor
      · rintro ((h0 | h0) | ⟨y, hy, h0⟩)
        · exact .inr ⟨c, .inl rfl, h0.symm⟩
        · exact .inl h0
        · exact .inr ⟨y, .inr hy, h0⟩
      · rintro (h0 | ⟨y, hy | hy, h0⟩)
        · exact .inl (.inr h0)
        · subst hy; exact .inl (.inl h0.symm)
        · exact .inr ⟨y, hy, h0⟩
    · rcases List.mem_cons.1 hy with rfl | hy
      · exact c4 q hq
      · exact ahead_trans (c4 q hq) (i5' y hy)
theorem lists_facts : ∀ (xs : List (List Cel)) (h : List Int) (l : Int) (f : Bool), listsB h l f xs = true →
    (∀ r ∈ xs, ∀ c ∈ r, cellB c = true ∧ c.f2 ∉ h) ∧ xs.flatten.Pairwise (fun a b => a.f2 ≠ b.f2) ∧ ∀ r ∈ xs, r.Pairwise (fun a b => aheadB a b = true) := by
  intro xs
  induction xs with
  | nil => intro h l f _; simp
  | cons x xs ih =>
    intro h l f e
    rw [listsB] at e
    by_cases h0 : f = false ∧ x = []
    · rw [if_pos h0] at e; cases e
    rw [if_neg h0] at e
    cases hx : cellsB l h l none x with
    | none => rw [hx] at e; cases e
    | some q =>
      obtain ⟨h', b'⟩ := q
      rw [hx] at e
      obtain ⟨i1, i2, i3⟩ := ih _ _ _ e
      obtain ⟨c1, c2, c3, c4, _⟩ := cells_facts l x h l none h' b' hx
      refine ⟨fun r hr c hc => ?_, ?_, fun r hr => ?_⟩
      · rcases List.mem_cons.1 hr with rfl | hr
        · exact c1 c hc
        · exact ⟨(i1 r hr c hc).1, fun h2 => (i1 r hr c hc).2 ((c3 _).2 (.inl h2))⟩
      · rw [List.flatten_cons, List.pairwise_append]
        refine ⟨c2, i2, fun a ha b hb he => ?_⟩
        obtain ⟨r, hr, hb⟩ := List.mem_flatten.1 hb
        exact (i1 r hr b hb).2 ((c3 _).2 (.inr ⟨a, ha, he⟩))
      · rcases List.mem_cons.1 hr with rfl | hr
        · exact c4
        · exact i3 r hr
structure TreeR (m : List Cel) (rs : List (List Cel)) (s q : Int) : Prop where
  most : 1 ≤ q ∧ q ≤ 50
  seq : 0 ≤ s ∧ s ≤ 400
  len : (m.length : Int) ≤ q
  runs : rs.length ≤ 6
  cell : ∀ r ∈ m :: rs, ∀ c ∈ r, cellB c = true
  at_ : ∀ r ∈ m :: rs, ∀ c ∈ r, 1 ≤ c.f2 ∧ c.f2 ≤ 400
  tie : noTie (m :: rs).flatten = true
  ord : ∀ r ∈ m :: rs, r.Pairwise (fun a b => aheadB a b = true)
theorem tree_facts {m : List Cel} {rs : List (List Cel)} {s q : Int} (h : treeB m rs s q = true) : TreeR m rs s q := by
  unfold treeB at h
  simp only [Bool.and_eq_true, decide_eq_true_eq, Bool.not_eq_true', decide_eq_false_iff_not] at h
  obtain ⟨⟨⟨⟨h1, h2⟩, h3⟩, h4⟩, h5⟩ := h
  obtain ⟨i1, i2, i3⟩ := lists_facts _ _ _ _ h5
  refine ⟨h1, h2, by omega, by omega, fun r hr c hc => (i1 r hr c hc).1, fun r hr c hc => ?_, ?_, i3⟩
  · have := (i1 r hr c hc).1
    unfold cellB at this
    simp only [Bool.and_eq_true, decide_eq_true_eq] at this
    exact this.2
  · unfold noTie
    exact decide_eq_true (i2.imp (fun {a b} hab => (apart_iff a b).2 (fun hh => hab hh.2)))
end Go.Proofs.Ythffllegmkolgaa.TreeK

namespace Go.Proofs.Ythffllegmkolgaa.TreeK
set_option linter.unusedSimpArgs false
set_option linter.unusedVariables false
theorem cells_low (least : Int) : ∀ (x : List Cel) (h : List Int) (b : Int) (p : Option Cel) (h' : List Int) (b' : Int), cellsB least h b p x = some (h', b') → (∀ c ∈ x, c.f2 < least) ∧ b' ≤ b := by
  intro x
  induction x with
  | nil =>
    intro h b p h' b' e
    simp only [cellsB, Option.some.injEq, Prod.mk.injEq] at e
    obtain ⟨rfl, rfl⟩ := e
    exact ⟨fun c hc => (by cases hc), Int.le_refl _⟩
  | cons c cs ih =>
    intro h b p h' b' e
    rw [cellsB] at e
    by_cases hc : cellB c = true ∧ c.f2 ∉ h ∧ c.f2 < least ∧ (∀ q ∈ p, aheadB q c = true)
    case neg => rw [if_neg hc] at e; cases e
    rw [if_pos hc] at e
    obtain ⟨i1, i2⟩ := ih _ _ _ _ _ e
    refine ⟨fun y hy => ?_, ?_⟩
    · rcases List.mem_cons.1 hy with rfl | hy
      · exact hc.2.2.1
      · exact i1 y hy
    · by_cases hlt : c.f2 < b
      · rw [if_pos hlt] at i2; omega
      · rw [if_neg hlt] at i2; exact i2
theorem lists_low : ∀ (xs : List (List Cel)) (h : List Int) (l : Int) (f : Bool), listsB h l f xs = true → ∀ r ∈ xs, ∀ c ∈ r, c.f2 < l := by
  intro xs
  induction xs with
  | nil => intro h l f _ r hr; cases hr
  | cons x xs ih =>
    intro h l f e r hr c hc
    rw [listsB] at e
    by_cases h0 : f = false ∧ x = []
    · rw [if_pos h0] at e; cases e
    rw [if_neg h0] at e
    cases hx : cellsB l h l none x with
    | none => rw [hx] at e; cases e
    | some q =>
      obtain ⟨h', b'⟩ := q
      rw [hx] at e
      obtain ⟨c1, c2⟩ := cells_low l x h l none h' b' hx
      rcases List.mem_cons.1 hr with rfl | hr
      · exact c1 c hc
      · have := ih _ _ _ e r hr c hc; omega
theorem tree_low {m : List Cel} {rs : List (List Cel)} {s q : Int} (h : treeB m rs s q = true) : ∀ c ∈ m, c.f2 ≤ s := by
  unfold treeB at h
  simp only [Bool.and_eq_true] at h
  intro c hc
  have := lists_low _ _ _ _ h.2 m List.mem_cons_self c hc
  omega
def chB (s : Int) (c : Cel) : Bool := !(s == 400) && decide ((c.f0.size : Int) ≤ 100) && decide ((c.f1.size : Int) ≤ 100)
def chC (s : Int) (c : Cel) : Cel := ⟨c.f0, c.f1, s + 1, c.f3⟩
def chA (m : List Cel) (q : Int) : List Cel := if (m.length : Int) = q then [] else m
def chR (m : List Cel) (rs : List (List Cel)) (q : Int) : List (List Cel) := if (m.length : Int) = q then flR m rs else rs
def chM (m : List Cel) (s q : Int) (c : Cel) : List Cel := srt (chA m q ++ [chC s c])
theorem chA_sub (m : List Cel) (q : Int) : (chA m q).Sublist m := by
  unfold chA
  by_cases h : (m.length : Int) = q
  · rw [if_pos h]; exact List.nil_sublist _
  · rw [if_neg h]; exact List.Sublist.refl _
theorem ch_tie {m : List Cel} {rs : List (List Cel)} {s q : Int} {c : Cel} (h : treeB m rs s q = true) : noTie (chA m q ++ [chC s c]) = true := by
  have h1 := (tree_facts h).tie
  have h2 := tree_low h
  unfold noTie at h1 ⊢
  have h3 := (of_decide_eq_true h1)
  refine decide_eq_true (List.pairwise_append.2 ⟨?_, by simp, fun a ha b hb => ?_⟩)
  · exact (h3.sublist (by rw [List.flatten_cons]; exact List.sublist_append_left _ _)).sublist (chA_sub m q)
  · obtain rfl : b = chC s c := by simpa using hb
    have := h2 a ((chA_sub m q).subset ha)
    exact (apart_iff _ _).2 (fun hh => by have h4 : a.f2 = s + 1 := hh.2; omega)
theorem ch_at {m : List Cel} {rs : List (List Cel)} {s q : Int} {c : Cel} (h : treeB m rs s q = true) (hc : chB s c = true) : ∀ y ∈ chA m q ++ [chC s c], 1 ≤ y.f2 ∧ y.f2 ≤ 400 := by
  have h1 := tree_facts h
  intro y hy
  rcases List.mem_append.1 hy with hy | hy
  · exact h1.at_ m List.mem_cons_self y ((chA_sub m q).subset hy)
  · obtain rfl : y = chC s c := by simpa using hy
    unfold chB at hc
    simp only [Bool.and_eq_true, Bool.not_eq_true', beq_eq_false_iff_ne] at hc
    have := h1.seq
    have h3 : (chC s c).f2 = s + 1 := rfl
    omega
def chT (x : Tre) (c : Cel) : Tre × Bool := if trB x = true ∧ chB x.f2 c = true then (⟨chM x.f0 x.f2 x.f3 c, chR x.f0 x.f1 x.f3, x.f2 + 1, x.f3⟩, true) else (⟨[], [], 0, 0⟩, false)
end Go.Proofs.Ythffllegmkolgaa.TreeK
