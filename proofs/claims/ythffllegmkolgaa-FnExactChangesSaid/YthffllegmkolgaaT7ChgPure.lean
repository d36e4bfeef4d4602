/- The changes of a tree from some number on, told plainly; the reference's Changes. -/
import Derived.Test.YthffllegmkolgaaT7ResPure
import Derived.Test.YthffllegmkolgaaT7TreeSpec2
import Derived.Test.YthffllegmkolgaaT7TreeLawKit
import Derived.Test.YthffllegmkolgaaT7QTreex11
namespace Go.Proofs.Ythffllegmkolgaa.TreeK
open Go.RowKit Go.Proofs.YthffllegmkolgaaW.PrintWords Go.Proofs.YthffllegmkolgaaW.PrintLast Go.Proofs.YthffllegmkolgaaW.PrintMore Go.Proofs.Ythffllegmkolgaa.QTree Go.Proofs.Ythffllegmkolgaa.EvKit Go.Proofs.Ythffllegmkolgaa.GTree
set_option linter.unusedSimpArgs false
set_option linter.unusedVariables false
def chgS (frm : Int) (all : List Cel) : Nat → List Cel
  | 0 => []
  | n + 1 => chgS frm all n ++ (if frm < (n : Int) + 1 then all.filter (fun c => decide (c.f2 = (n : Int) + 1)) else [])
theorem chgS_mem (frm : Int) (all : List Cel) : ∀ (n : Nat) (c : Cel), c ∈ chgS frm all n ↔ c ∈ all ∧ frm < c.f2 ∧ 1 ≤ c.f2 ∧ c.f2 ≤ n := by
  intro n
  induction n with
  | zero => intro c; simp only [chgS, List.not_mem_nil, false_iff]; rintro ⟨_, _, h1, h2⟩; simp at h2; omega
  | succ n ih =>
    intro c
    rw [chgS, List.mem_append, ih c]
    by_cases h : frm < (n : Int) + 1
    · rw [if_pos h, List.mem_filter, decide_eq_true_eq]
      constructor
      · rintro (⟨h1, h2, h3, h4⟩ | ⟨h1, h2⟩)
        · exact ⟨h1, h2, h3, by omega⟩
        · exact ⟨h1, by omega, by omega, by omega⟩
      · rintro ⟨h1, h2, h3, h4⟩
        by_cases he : c.f2 = (n : Int) + 1
        · exact .inr ⟨h1, he⟩
        · exact .inl ⟨h1, h2, h3, by omega⟩
    · rw [if_neg h]
      constructor
      · rintro (⟨h1, h2, h3, h4⟩ | h1)
        · exact ⟨h1, h2, h3, by omega⟩
        · cases h1
      · rintro ⟨h1, h2, h3, h4⟩
        exact .inl ⟨h1, h2, h3, by omega⟩
theorem chgS_sorted {frm : Int} {all : List Cel} (h : all.Pairwise (fun a b => a.f2 ≠ b.f2)) : ∀ n, (chgS frm all n).Pairwise (fun a b => a.f2 < b.f2) := by
  intro n
  induction n with
  | zero => exact List.Pairwise.nil
  | succ n ih =>
    rw [chgS, List.pairwise_append]
    refine ⟨ih, ?_, fun a ha b hb => ?_⟩
    · split
      · have h2 := h.sublist (List.filter_sublist (p := fun c : Cel => decide (c.f2 = (n : Int) + 1)))
        refine List.Pairwise.imp_of_mem (fun {a b} ha hb hab => ?_) h2
        have h3 := of_decide_eq_true (List.mem_filter.1 ha).2
        have h4 := of_decide_eq_true (List.mem_filter.1 hb).2
        exact absurd (h3.trans h4.symm) hab
      · exact List.Pairwise.nil
    · have h1 := ((chgS_mem frm all n a).1 ha).2.2.2
      split at hb
      · have := of_decide_eq_true (List.mem_filter.1 hb).2; omega
      · cases hb
theorem sorted_mem {l1 l2 : List Cel} : l1.Pairwise (fun a b => a.f2 < b.f2) → l2.Pairwise (fun a b => a.f2 < b.f2) → (∀ c, c ∈ l1 ↔ c ∈ l2) → l1 = l2 := by
  induction l1 generalizing l2 with
  | nil =>
    intro _ _ hm
    cases l2 with
    | nil => rfl
    | cons b u => exact absurd ((hm b).2 List.mem_cons_self) (by simp)
  | cons a t ih =>
    intro h1 h2 hm
    cases l2 with
    | nil => exact absurd ((hm a).1 List.mem_cons_self) (by simp)
    | cons b u =>
      obtain ⟨h1a, h1t⟩ := List.pairwise_cons.1 h1
      obtain ⟨h2b, h2u⟩ := List.pairwise_cons.1 h2
      have hab : a = b := by
        rcases List.mem_cons.1 ((hm a).1 List.mem_cons_self) with h | ha
        · exact h
        · rcases List.mem_cons.1 ((hm b).2 List.mem_cons_self) with h | hb
          · exact h.symm
          · have := h1a b hb; have := h2b a ha; omega
      subst hab
      congr 1
      refine ih h1t h2u (fun c => ⟨fun hc => ?_, fun hc => ?_⟩)
      · rcases List.mem_cons.1 ((hm c).1 (List.mem_cons_of_mem _ hc)) with h | h
        · subst h; have := h1a c hc; omega
        · exact h
      · rcases List.mem_cons.1 ((hm c).2 (List.mem_cons_of_mem _ hc)) with h | h
        · subst h; have := h2b c hc; omega
        · exact h
def allC (x : Tre) : List Cel := x.f0 ++ x.f1.flatten
def chgR (x : Tre) (frm : Int) : List Cel := if trB x = true then chgS frm (allC x) x.f2.toNat else []
theorem all_facts {x : Tre} (h : trB x = true) : (allC x).length ≤ 400 ∧ (allC x).Pairwise (fun a b => a.f2 ≠ b.f2) ∧ ∀ c ∈ allC x, 1 ≤ c.f2 ∧ c.f2 ≤ 400 ∧ c.f2 ≤ x.f2 := by
  have h1 := few_cells h
  rw [List.flatten_cons] at h1
  have h2 := tree_rows h
  have h3 := tree_facts h
  refine ⟨h1, ?_, fun c hc => ?_⟩
  · have h4 : listsB [] (x.f2 + 1) true (x.f0 :: x.f1) = true := by
      have h' := h
      unfold trB treeB at h'
      simp only [Bool.and_eq_true] at h'
      exact h'.2
    have h5 := (lists_facts _ _ _ _ h4).2.1
    rwa [List.flatten_cons] at h5
  · have hm : c ∈ (x.f0 :: x.f1).flatten := by rw [List.flatten_cons]; exact hc
    obtain ⟨r, hr, hc⟩ := List.mem_flatten.1 hm
    have := h3.at_ r hr c hc
    exact ⟨this.1, this.2, h2.2.2.1 r hr c hc⟩
theorem chg_one {x : Tre} (h : trB x = true) {frm : Int} {l : List Cel} (hs : l.Pairwise (fun a b => a.f2 < b.f2)) (hm : ∀ c, c ∈ l ↔ c ∈ allC x ∧ frm < c.f2) : l = chgR x frm := by
  have ha := all_facts h
  have h2 := (tree_facts h).seq
  rw [chgR, if_pos h]
  refine sorted_mem hs (chgS_sorted ha.2.1 _) (fun c => ?_)
  rw [hm c, chgS_mem]
  constructor
  · rintro ⟨h3, h4⟩
    have := ha.2.2 c h3
    exact ⟨h3, h4, this.1, by omega⟩
  · rintro ⟨h3, h4, _⟩
    exact ⟨h3, h4⟩
theorem chgS_len (frm : Int) (all : List Cel) : ∀ n, (chgS frm all n).length ≤ n * all.length := by
  intro n
  induction n with
  | zero => simp [chgS]
  | succ n ih =>
    rw [chgS, List.length_append, Nat.add_mul]
    have : (if frm < (n : Int) + 1 then all.filter (fun c => decide (c.f2 = (n : Int) + 1)) else []).length ≤ all.length := by
      split
      · exact List.length_filter_le _ _
      · simp
    omega
theorem chg_len (x : Tre) (frm : Int) : (chgR x frm).length ≤ 160000 := by
  unfold chgR
  split
  case isTrue h =>
    have h1 := chgS_len frm (allC x) x.f2.toNat
    have h2 := (all_facts h).1
    have h3 := (tree_facts h).seq
    have h4 : x.f2.toNat * (allC x).length ≤ 400 * 400 := Nat.mul_le_mul (by omega) h2
    omega
  · simp
theorem sm_chg (x : Tre) (s : sm_Tree x) (frm : Int) : sm_CellS (chgR x frm) := by
  refine ⟨by have := chg_len x frm; omega, fun c hc => ?_⟩
  unfold chgR at hc
  split at hc
  · have hm := ((chgS_mem _ _ _ _).1 hc).1
    rcases List.mem_append.1 hm with hm | hm
    · exact s.1.2 c hm
    · obtain ⟨r, hr, hm⟩ := List.mem_flatten.1 hm
      exact (s.2.1.2 r hr).2 c hm
  · cases hc
section
variable (frm : Int) (m : List Cel) (rs : List (List Cel)) (s q : Int)
theorem chg_inner {R : List Cel} (all : List Cel) (ha : all.length ≤ 1000) (seq : Int) (hs : frm < seq) : ∀ (d i : Nat) (acc : List Cel), i + d = all.length → acc.length + d ≤ 1000000 → Ev (fun k => spec_Changes.l0 k frm (acc ++ (all.drop i).filter (fun c => decide (c.f2 = seq))) all (wrap64 (seq + 1)) m rs s q) R → Ev (fun k => spec_Changes.l1 k frm acc all seq (i : Int) m rs s q) R := by
  intro d
  induction d with
  | zero =>
    intro i acc hi hl h
    obtain rfl : i = all.length := by omega
    rw [List.drop_length] at h
    simp only [List.filter_nil, List.append_nil] at h
    refine Ev.step (f := fun k => spec_Changes.j2 k frm acc all seq (all.length : Int) false m rs s q) (fun k => ?_) ?_
    · rw [spec_Changes.l1, if_neg (by omega)]
    refine Ev.step (f := fun k => spec_Changes.l0 k frm acc all (wrap64 (seq + 1)) m rs s q) (fun k => ?_) h
    rw [spec_Changes.j2, if_neg (by simp)]
  | succ d ih =>
    intro i acc hi hl h
    have hlt : i < all.length := by omega
    rw [List.drop_eq_getElem_cons hlt, List.filter_cons] at h
    have hw : wrap64 ((i : Int) + 1) = ((i + 1 : Nat) : Int) := w64_succ hlt (by omega)
    have hr : rd_T48 all (i : Int) = all[i] := at_rd_T48 all i hlt
    refine Ev.step (f := fun k => spec_Changes.j2 k frm acc all seq (i : Int) true m rs s q) (fun k => ?_) ?_
    · rw [spec_Changes.l1, if_pos (by omega), show decide (seq > frm) = true from decide_eq_true hs]
    by_cases he : all[i].f2 = seq
    · rw [if_pos (decide_eq_true he)] at h
      refine Ev.step (f := fun k => spec_Changes.l1 k frm (acc ++ [all[i]]) all seq ((i + 1 : Nat) : Int) m rs s q) (fun k => ?_) (ih (i + 1) (acc ++ [all[i]]) (by omega) (by rw [List.length_append, List.length_singleton]; omega) (by rw [List.append_assoc]; exact h))
      rw [spec_Changes.j2, if_pos rfl, if_pos (by omega), if_pos (by omega), hr, if_pos he, if_pos (by omega), hw]
    · rw [if_neg (by simpa using he)] at h
      refine Ev.step (f := fun k => spec_Changes.l1 k frm acc all seq ((i + 1 : Nat) : Int) m rs s q) (fun k => ?_) (ih (i + 1) _ (by omega) (by omega) h)
      rw [spec_Changes.j2, if_pos rfl, if_pos (by omega), if_pos (by omega), hr, if_neg he, hw]
theorem chg_outer (all : List Cel) (ha : all.length ≤ 400) (hq : 0 ≤ s ∧ s ≤ 400) : ∀ (d n : Nat), (n : Int) + d = s → Ev (fun k => spec_Changes.l0 k frm (chgS frm all n) all ((n : Int) + 1) m rs s q) (chgS frm all s.toNat) := by
  intro d
  induction d with
  | zero =>
    intro n hn
    refine Ev.step (f := fun _ => some (chgS frm all s.toNat)) (fun k => ?_) (Ev.now _)
    rw [spec_Changes.l0, if_neg (by omega), show s.toNat = n by omega]
  | succ d ih =>
    intro n hn
    have hI := ih (n + 1) (by omega)
    have hw : wrap64 ((n : Int) + 1 + 1) = ((n + 1 : Nat) : Int) + 1 := by rw [w64 (by omega) (by omega)]; omega
    refine Ev.step (f := fun k => spec_Changes.l1 k frm (chgS frm all n) all ((n : Int) + 1) 0 m rs s q) (fun k => ?_) ?_
    · rw [spec_Changes.l0, if_pos (by omega)]
    rw [chgS] at hI
    by_cases hf : frm < (n : Int) + 1
    · rw [if_pos hf] at hI
      have hl := chgS_len frm all n
      have hl2 : n * all.length ≤ 400 * 400 := Nat.mul_le_mul (by omega) ha
      exact chg_inner frm m rs s q all (by omega) ((n : Int) + 1) hf all.length 0 _ (by omega) (by omega) (by rw [List.drop_zero, hw]; exact hI)
    · rw [if_neg hf, List.append_nil] at hI
      refine Ev.step (f := fun k => spec_Changes.j2 k frm (chgS frm all n) all ((n : Int) + 1) 0 false m rs s q) (fun k => ?_) ?_
      · rw [spec_Changes.l1]
        split
        · rw [show decide ((n : Int) + 1 > frm) = false from decide_eq_false hf]
        · rfl
      refine Ev.step (f := fun k => spec_Changes.l0 k frm (chgS frm all n) all (wrap64 ((n : Int) + 1 + 1)) m rs s q) (fun k => ?_) (by rw [hw]; exact hI)
      rw [spec_Changes.j2, if_neg (by simp)]
end
theorem ev_changes (x : Tre) (sm : sm_Tree x) (frm : Int) : Ev (fun k => spec_Changes.f k x.f0 x.f1 x.f2 x.f3 frm) (chgR x frm) := by
  unfold spec_Changes.f chgR
  simp only [Option.bind_some]
  refine Ev.bind (spec_tree x.f0 x.f1 x.f2 x.f3 sm.1.1 (fun y hy => (sm.2.1.2 y hy).1)) ?_
  show Ev _ (if treeB x.f0 x.f1 x.f2 x.f3 = true then _ else _)
  by_cases h : treeB x.f0 x.f1 x.f2 x.f3 = true
  · rw [if_pos h]
    refine Ev.iteT h ?_
    have hf := tree_facts h
    have ha := all_facts (x := x) h
    refine Ev.bind (all_ev x.f0 x.f1 x.f2 x.f3 sm.1.1 (fun y hy => (sm.2.1.2 y hy).1) hf.runs) ?_
    exact chg_outer frm x.f0 x.f1 x.f2 x.f3 (x.f0 ++ x.f1.flatten) ha.1 hf.seq x.f2.toNat 0 (by have := hf.seq; omega)
  · rw [if_neg h]
    exact Ev.iteF h (Ev.now _)
theorem changes_spec (A B : Option Addr) (c d : Nat) (x : Tre) (frm : Int) (w : World) (h : TreeC w x A c B d) (sm : sm_Tree x) :
    Calls Try.prog 30 #[.agg #[.slice A x.f0.length c, .slice B x.f1.length d, .int .i64 x.f2, .int .i64 x.f3], .int .i64 frm] w fun e w' => ∃ v0 : Value, e = .returned v0 ∧ KC.R TC w' w.heap.size (fun _ => True) v0 (chgR x frm) ∧ Below w.heap.size w w' := by
  obtain ⟨k, hk⟩ := Ev.rounds (ev_changes x sm frm)
  exact spec_Changes.calls k A c _ B d _ _ _ _ _ w h.1.2 h.1.1 h.2.2 h.2.1 hk
end Go.Proofs.Ythffllegmkolgaa.TreeK
