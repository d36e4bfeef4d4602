/- Joined: FlushI, FlPure. -/
import Derived.Test.YthffllegmkolgaaT10QTreex0
import Derived.Test.YthffllegmkolgaaT10QTreex4
import Derived.Test.YthffllegmkolgaaT10TreeOwn
import Derived.Test.YthffllegmkolgaaT10QTreex15
import Derived.Handy
namespace Go.Proofs.Ythffllegmkolgaa.QTree
open Go.RowKit Go.Proofs.YthffllegmkolgaaW.PrintWords Go.Proofs.YthffllegmkolgaaW.PrintLast Go.Proofs.YthffllegmkolgaaW.PrintMore
attribute [local go_sem] max2_int min2_int max_two min_two max_three min_three max_four min_four   -- for this text's walks alone
set_option linter.unusedVariables false
set_option linter.unusedSimpArgs false
def spec_NewTree.f (a0 : Int) : Option ((List (S48)) × (List (List (S48))) × Int × Int) := (spec_l1In.f a0 1 50).bind fun t307 => (if t307 = true then (some (([] : List (S48)), ([] : List (List (S48))), 0, a0)) else (some (([] : List (S48)), ([] : List (List (S48))), 0, 0)))
def spec_l17Copy.l0 : Nat → Int → List (S48) → List (List (S48)) → Int → Int → List (S48) → List (List (S48)) → Int → Int → Option ((List (S48)) × (List (List (S48))) × Int × Int)
  | 0, _, _, _, _, _, _, _, _, _ => none
  | k + 1, x4, x309000, x309001, x309002, x309003, x317000, x317001, x317002, x317003 => if x4 < (x309001.length : Int) then ((some (([] : List (S48)) : List (S48))).bind fun y317 => (if 0 ≤ x4 then (if y317.length + (rd_L6 x309001 x4).length < 2932031007402 then (if x317001.length < 5864062014805 then (spec_l17Copy.l0 k (wrap64 (x4 + 1)) x309000 x309001 x309002 x309003 x317000 (x317001 ++ [(y317 ++ (rd_L6 x309001 x4))]) x317002 x317003) else (none)) else (none)) else (none))) else (some (x317000, x317001, x317002, x317003))
def spec_l17Copy.f (k : Nat) (l0_0 : List (S48)) (l0_1 : List (List (S48))) (a0_2 : Int) (a0_3 : Int) : Option ((List (S48)) × (List (List (S48))) × Int × Int) := (some (([] : List (S48)) : List (S48))).bind fun y310 => (if y310.length + l0_0.length < 2932031007402 then (spec_l17Copy.l0 k 0 l0_0 l0_1 a0_2 a0_3 (y310 ++ l0_0) ([] : List (List (S48))) a0_2 a0_3) else (none))
def spec_l17Copy.T1 : Bool × List (List Nat × List Nat) := (true, [([], []), ([0], [0]), ([], []), ([2], [2]), ([], []), ([], []), ([5], [5]), ([4, 6], [4, 6]), ([1, 3, 7], [1, 3, 7]), ([], []), ([9, 8, 7, 0, 1, 2, 3, 4, 5, 6, 7, 8, 9], [8, 9])])
def spec_l17Copy.B1 : List Nat := [0, 1, 0, 4, 0, 0, 32, 112, 255, 0, 1023]
def spec_l17Copy.B5 : List Nat := [0, 1, 0, 0, 8, 0, 56, 120, 252, 508, 1023, 2047, 4095]
end Go.Proofs.Ythffllegmkolgaa.QTree

namespace Go.Proofs.Ythffllegmkolgaa.TreeK
open Go.RowKit Go.Proofs.YthffllegmkolgaaW.PrintWords Go.Proofs.YthffllegmkolgaaW.PrintLast Go.Proofs.YthffllegmkolgaaW.PrintMore Go.Proofs.Ythffllegmkolgaa.QTree Go.Proofs.Ythffllegmkolgaa.EvKit
set_option linter.unusedSimpArgs false
set_option linter.unusedVariables false
abbrev blkT (w : World) (g : Nat) (v0 v1 : Value) (s q : Int) : Prop := w.heap[g]? = some (.cells #[v0, v1, .int .i64 s, .int .i64 q] 31 (0, 0))
end Go.Proofs.Ythffllegmkolgaa.TreeK

namespace Go.Proofs.Ythffllegmkolgaa.TreeK
set_option linter.unusedSimpArgs false
set_option linter.unusedVariables false
theorem cells_facts (least : Int) : ∀ (x : List Cel) (h : List Int) (b : Int) (p : Option Cel) (h' : List Int) (b' : Int), cellsB least h b p x = some (h', b') →
    (∀ c ∈ x, cellB c = true ∧ c.f2 ∉ h) ∧ x.Pairwise (fun a b => a.f2 ≠ b.f2) ∧ (∀ i, i ∈ h' ↔ i ∈ h ∨ ∃ c ∈ x, c.f2 = i) ∧ x.Pairwise (fun a b => aheadB a b = true) ∧ (∀ q ∈ p, ∀ c ∈ x, aheadB q c = true) := by
  intro x
  induction x with
  | nil =>
    intro h b p h' b' e
    simp only [cellsB, Option.some.injEq, Prod.mk.injEq] at e
    obtain ⟨rfl, rfl⟩ := e
    simp
  | cons c cs ih =>
    intro h b p h' b' e
    rw [cellsB] at e
    by_cases hc : cellB c = true ∧ c.f2 ∉ h ∧ c.f2 < least ∧ (∀ q ∈ p, aheadB q c = true)
    case neg => rw [if_neg hc] at e; cases e
    rw [if_pos hc] at e
    obtain ⟨i1, i2, i3, i4, i5⟩ := ih _ _ _ _ _ e
    obtain ⟨c1, c2, _, c4⟩ := hc
    have i5' : ∀ y ∈ cs, aheadB c y = true := i5 c rfl
    refine ⟨fun y hy => ?_, List.pairwise_cons.2 ⟨fun y hy he => ?_, i2⟩, fun i => ?_, List.pairwise_cons.2 ⟨i5', i4⟩, fun q hq y hy => ?_⟩
    · rcases List.mem_cons.1 hy with rfl | hy
      · exact ⟨c1, c2⟩
      · exact ⟨(i1 y hy).1, fun h0 => (i1 y hy).2 (List.mem_cons_of_mem _ h0)⟩
    · exact (i1 y hy).2 (by rw [← he]; exact List.mem_cons_self)
    · rw [i3 i]
      simp only [List.mem_cons]
      constructor
      · rintro ((h0 | h0) | ⟨y, hy, h0⟩)
        · exact .inr ⟨c, .inl rfl, h0.symm⟩
        · exact .inl h0
        · exact .inr ⟨y, .inr hy, h0⟩
      · rintro (h0 | ⟨y, hy | hy, h0⟩)
        · exact .inl (.inr h0)
        · subst hy; exact .inl (.inl h0.symm)
        · exact .inr ⟨y, hy, h0⟩
    · rcases List.mem_cons.1 hy with rfl | hy
      · exact c4 q hq
      · exact ahead_trans (c4 q hq) (i5' y hy)
theorem lists_facts : ∀ (xs : List (List Cel)) (h : List Int) (l : Int) (f : Bool), listsB h l f xs = true →
    (∀ r ∈ xs, ∀ c ∈ r, cellB c = true ∧ c.f2 ∉ h) ∧ xs.flatten.Pairwise (fun a b => a.f2 ≠ b.f2) ∧ ∀ r ∈ xs, r.Pairwise (fun a b => aheadB a b = true) := by
  intro xs
  induction xs with
  | nil => intro h l f _; simp
  | cons x xs ih =>
    intro h l f e
    rw [listsB] at e
    by_cases h0 : f = false ∧ x = []
    · rw [if_pos h0] at e; cases e
    rw [if_neg h0] at e
    cases hx : cellsB l h l none x with
    | none => rw [hx] at e; cases e
    | some q =>
      obtain ⟨h', b'⟩ := q
      rw [hx] at e
      obtain ⟨i1, i2, i3⟩ := ih _ _ _ e
      obtain ⟨c1, c2, c3, c4, _⟩ := cells_facts l x h l none h' b' hx
      refine ⟨fun r hr c hc => ?_, ?_, fun r hr => ?_⟩
      · rcases List.mem_cons.1 hr with rfl | hr
        · exact c1 c hc
        · exact ⟨(i1 r hr c hc).1, fun h2 => (i1 r hr c hc).2 ((c3 _).2 (.inl h2))⟩
      · rw [List.flatten_cons, List.pairwise_append]
        refine ⟨c2, i2, fun a ha b hb he => ?_⟩
        obtain ⟨r, hr, hb⟩ := List.mem_flatten.1 hb
        exact (i1 r hr b hb).2 ((c3 _).2 (.inr ⟨a, ha, he⟩))
      · rcases List.mem_cons.1 hr with rfl | hr
        · exact c4
        · exact i3 r hr
structure TreeR (m : List Cel) (rs : List (List Cel)) (s q : Int) : Prop where
  most : 1 ≤ q ∧ q ≤ 50
  seq : 0 ≤ s ∧ s ≤ 400
  len : (m.length : Int) ≤ q
  runs : rs.length ≤ 6
  cell : ∀ r ∈ m :: rs, ∀ c ∈ r, cellB c = true
  at_ : ∀ r ∈ m :: rs, ∀ c ∈ r, 1 ≤ c.f2 ∧ c.f2 ≤ 400
  tie : noTie (m :: rs).flatten = true
  ord : ∀ r ∈ m :: rs, r.Pairwise (fun a b => aheadB a b = true)
theorem tree_facts {m : List Cel} {rs : List (List Cel)} {s q : Int} (h : treeB m rs s q = true) : TreeR m rs s q := by
  unfold treeB at h
  simp only [Bool.and_eq_true, decide_eq_true_eq, Bool.not_eq_true', decide_eq_false_iff_not] at h
  obtain ⟨⟨⟨⟨h1, h2⟩, h3⟩, h4⟩, h5⟩ := h
  obtain ⟨i1, i2, i3⟩ := lists_facts _ _ _ _ h5
  refine ⟨h1, h2, by omega, by omega, fun r hr c hc => (i1 r hr c hc).1, fun r hr c hc => ?_, ?_, i3⟩
  · have := (i1 r hr c hc).1
    unfold cellB at this
    simp only [Bool.and_eq_true, decide_eq_true_eq] at this
    exact this.2
  · unfold noTie
    exact decide_eq_true (i2.imp (fun {a b} hab => (apart_iff a b).2 (fun hh => hab hh.2)))
end Go.Proofs.Ythffllegmkolgaa.TreeK
