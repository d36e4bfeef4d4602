/- A right tree that is changed stays right; a tree made again from a list of changes, told plainly. -/
import Derived.Test.YthffllegmkolgaaT11ChPure
import Derived.Test.YthffllegmkolgaaT11FlOwn
namespace Go.Proofs.Ythffllegmkolgaa.TreeK
open Go.RowKit Go.Proofs.Ythffllegmkolgaa.QTree Go.Proofs.Ythffllegmkolgaa.GTree
set_option linter.unusedSimpArgs false
set_option linter.unusedVariables false
theorem cells_of (least : Int) : ∀ (x : List Cel) (h : List Int) (b : Int) (p : Option Cel), (∀ c ∈ x, cellB c = true ∧ c.f2 ∉ h ∧ c.f2 < least) → x.Pairwise (fun a b => a.f2 ≠ b.f2) → x.Pairwise (fun a b => aheadB a b = true) → (∀ q ∈ p, ∀ c ∈ x, aheadB q c = true) →
    ∃ h' b', cellsB least h b p x = some (h', b') ∧ (∀ i, i ∈ h' ↔ i ∈ h ∨ ∃ c ∈ x, c.f2 = i) ∧ (∀ y, y < b → (∀ c ∈ x, y < c.f2) → y < b') := by
  intro x
  induction x with
  | nil =>
    intro h b p _ _ _ _
    exact ⟨h, b, rfl, fun i => by simp, fun y hy _ => hy⟩
  | cons c cs ih =>
    intro h b p h1 h2 h3 h4
    obtain ⟨a1, a2, a3⟩ := h1 c List.mem_cons_self
    rw [List.pairwise_cons] at h2 h3
    obtain ⟨h', b', e, i1, i2⟩ := ih (c.f2 :: h) (if c.f2 < b then c.f2 else b) (some c)
      (fun y hy => ⟨(h1 y (List.mem_cons_of_mem _ hy)).1, fun hm => by
        rcases List.mem_cons.1 hm with he | hm
        · exact h2.1 y hy he.symm
        · exact (h1 y (List.mem_cons_of_mem _ hy)).2.1 hm, (h1 y (List.mem_cons_of_mem _ hy)).2.2⟩) h2.2 h3.2
      (fun q hq y hy => by obtain rfl : c = q := by simpa using hq
                           exact h3.1 y hy)
    refine ⟨h', b', ?_, fun i => ?_, fun y hy hc => i2 y ?_ (fun z hz => hc z (List.mem_cons_of_mem _ hz))⟩
    · rw [cellsB, if_pos ⟨a1, a2, a3, fun q hq => h4 q hq c List.mem_cons_self⟩]; exact e
    · rw [i1 i]
      simp only [List.mem_cons]
      constructor
      · rintro ((h0 | h0) | ⟨y, hy, h0⟩)
        · exact .inr ⟨c, .inl rfl, h0.symm⟩
        · exact .inl h0
        · exact .inr ⟨y, .inr hy, h0⟩
      · rintro (h0 | ⟨y, hy | hy, h0⟩)
        · exact .inl (.inr h0)
        · subst hy; exact .inl (.inl h0.symm)
        · exact .inr ⟨y, hy, h0⟩
    · have := hc c List.mem_cons_self
      by_cases hlt : c.f2 < b
      · rw [if_pos hlt]; exact this
      · rw [if_neg hlt]; exact hy
theorem cells_least (least : Int) : ∀ (x : List Cel) (h : List Int) (b : Int) (p : Option Cel) (h' : List Int) (b' : Int), cellsB least h b p x = some (h', b') → b' ≤ b ∧ ∀ c ∈ x, b' ≤ c.f2 := by
  intro x
  induction x with
  | nil =>
    intro h b p h' b' e
    simp only [cellsB, Option.some.injEq, Prod.mk.injEq] at e
    obtain ⟨rfl, rfl⟩ := e
    exact ⟨Int.le_refl _, fun c hc => by cases hc⟩
  | cons c cs ih =>
    intro h b p h' b' e
    rw [cellsB] at e
    by_cases hc : cellB c = true ∧ c.f2 ∉ h ∧ c.f2 < least ∧ (∀ q ∈ p, aheadB q c = true)
    case neg => rw [if_neg hc] at e; cases e
    rw [if_pos hc] at e
    obtain ⟨i1, i2⟩ := ih _ _ _ _ _ e
    have hm : (if c.f2 < b then c.f2 else b) ≤ b ∧ (if c.f2 < b then c.f2 else b) ≤ c.f2 := by
      by_cases hlt : c.f2 < b
      · rw [if_pos hlt]; omega
      · rw [if_neg hlt]; omega
    refine ⟨by omega, fun y hy => ?_⟩
    rcases List.mem_cons.1 hy with rfl | hy
    · omega
    · exact i2 y hy
def fallB (a b : List Cel) : Prop := ∀ x ∈ a, ∀ y ∈ b, y.f2 < x.f2
theorem lists_of : ∀ (xs : List (List Cel)) (h : List Int) (l : Int) (f : Bool), (∀ r ∈ xs, ∀ c ∈ r, cellB c = true ∧ c.f2 ∉ h ∧ c.f2 < l) → xs.Pairwise fallB → (∀ r ∈ xs, r.Pairwise (fun a b => aheadB a b = true) ∧ r.Pairwise (fun a b => a.f2 ≠ b.f2)) → (f = true ∨ ∀ r ∈ xs, r ≠ []) → (∀ r ∈ xs.tail, r ≠ []) → listsB h l f xs = true := by
  intro xs
  induction xs with
  | nil => intro h l f _ _ _ _ _; rfl
  | cons x xs ih =>
    intro h l f h1 h2 h3 h4 h5
    rw [List.pairwise_cons] at h2
    rw [listsB, if_neg (by
      rintro ⟨e1, e2⟩
      rcases h4 with h4 | h4
      · rw [e1] at h4; cases h4
      · exact h4 x List.mem_cons_self e2)]
    obtain ⟨h', b', e, i1, i2⟩ := cells_of l x h l none (h1 x List.mem_cons_self) (h3 x List.mem_cons_self).2 (h3 x List.mem_cons_self).1 (fun q hq => by cases hq)
    rw [e]
    refine ih h' b' false (fun r hr c hc => ⟨(h1 r (List.mem_cons_of_mem _ hr) c hc).1, fun hm => ?_, i2 _ (h1 r (List.mem_cons_of_mem _ hr) c hc).2.2 (fun y hy => h2.1 r hr y hy c hc)⟩) h2.2 (fun r hr => h3 r (List.mem_cons_of_mem _ hr)) (.inr h5) (fun r hr => h5 r (List.mem_of_mem_tail hr))
    rcases (i1 _).1 hm with hm | ⟨y, hy, he⟩
    · exact (h1 r (List.mem_cons_of_mem _ hr) c hc).2.1 hm
    · have := h2.1 r hr y hy c hc; omega
theorem lists_rows : ∀ (xs : List (List Cel)) (h : List Int) (l : Int) (f : Bool), listsB h l f xs = true → xs.Pairwise fallB ∧ (f = false → ∀ r ∈ xs, r ≠ []) ∧ ∀ r ∈ xs.tail, r ≠ [] := by
  intro xs
  induction xs with
  | nil => intro h l f _; exact ⟨List.Pairwise.nil, fun _ r hr => (by cases hr), fun r hr => (by cases hr)⟩
  | cons x xs ih =>
    intro h l f e
    rw [listsB] at e
    by_cases h0 : f = false ∧ x = []
    · rw [if_pos h0] at e; cases e
    rw [if_neg h0] at e
    cases hx : cellsB l h l none x with
    | none => rw [hx] at e; cases e
    | some q =>
      obtain ⟨h', b'⟩ := q
      rw [hx] at e
      obtain ⟨i1, i2, i3⟩ := ih _ _ _ e
      have c2 := (cells_least l x h l none h' b' hx).2
      have c3 := lists_low _ _ _ _ e
      refine ⟨List.pairwise_cons.2 ⟨fun r hr a ha b hb => ?_, i1⟩, fun hf r hr => ?_, i2 rfl⟩
      · have := c2 a ha; have := c3 r hr b hb; omega
      · rcases List.mem_cons.1 hr with rfl | hr
        · exact fun hn => h0 ⟨hf, hn⟩
        · exact i2 rfl r hr
theorem tree_of {m : List Cel} {rs : List (List Cel)} {s q : Int} (h1 : 1 ≤ q ∧ q ≤ 50) (h2 : 0 ≤ s ∧ s ≤ 400) (h3 : (m.length : Int) ≤ q) (h4 : rs.length ≤ 6) (h5 : ∀ r ∈ m :: rs, ∀ c ∈ r, cellB c = true ∧ c.f2 ≤ s) (h6 : (m :: rs).Pairwise fallB) (h7 : ∀ r ∈ m :: rs, r.Pairwise (fun a b => aheadB a b = true) ∧ r.Pairwise (fun a b => a.f2 ≠ b.f2)) (h8 : ∀ r ∈ rs, r ≠ []) : treeB m rs s q = true := by
  unfold treeB
  simp only [Bool.and_eq_true, decide_eq_true_eq, Bool.not_eq_true', decide_eq_false_iff_not]
  refine ⟨⟨⟨⟨h1, h2⟩, by omega⟩, by omega⟩, lists_of _ _ _ _ (fun r hr c hc => ⟨(h5 r hr c hc).1, by simp, by have := (h5 r hr c hc).2; omega⟩) h6 h7 (.inl rfl) h8⟩
theorem tree_rows {m : List Cel} {rs : List (List Cel)} {s q : Int} (h : treeB m rs s q = true) : (m :: rs).Pairwise fallB ∧ (∀ r ∈ rs, r ≠ []) ∧ (∀ r ∈ m :: rs, ∀ c ∈ r, c.f2 ≤ s) ∧ ∀ r ∈ m :: rs, r.Pairwise (fun a b => a.f2 ≠ b.f2) := by
  unfold treeB at h
  simp only [Bool.and_eq_true] at h
  obtain ⟨_, h⟩ := h
  obtain ⟨a1, _, a3⟩ := lists_rows _ _ _ _ h
  have a4 := lists_low _ _ _ _ h
  have a5 := (lists_facts _ _ _ _ h).2.1
  refine ⟨a1, a3, fun r hr c hc => by have := a4 r hr c hc; omega, fun r hr => ?_⟩
  exact a5.sublist (List.sublist_flatten_of_mem hr)
theorem srt_ne {l : List Cel} (h : l.Pairwise (fun a b => a.f2 ≠ b.f2)) : (srt l).Pairwise (fun a b => aheadB a b = true) ∧ (srt l).Pairwise (fun a b => a.f2 ≠ b.f2) :=
  ⟨srt_sorted (decide_eq_true (h.imp (fun {a b} hab => (apart_iff a b).2 (fun hh => hab hh.2)))), ((srt_perm l).pairwise_iff (fun {a b} hab he => hab he.symm)).2 h⟩
theorem two_ne {a b : List Cel} (ha : a.Pairwise (fun a b => a.f2 ≠ b.f2)) (hb : b.Pairwise (fun a b => a.f2 ≠ b.f2)) (h : fallB a b) : (a ++ b).Pairwise (fun a b => a.f2 ≠ b.f2) :=
  List.pairwise_append.2 ⟨ha, hb, fun x hx y hy he => by have := h x hx y hy; omega⟩
theorem join_right {ls : List (List Cel)} (h1 : ls.Pairwise fallB) (h2 : ∀ r ∈ ls, r ≠ []) (h3 : ∀ r ∈ ls, r.Pairwise (fun a b => aheadB a b = true) ∧ r.Pairwise (fun a b => a.f2 ≠ b.f2)) (h4 : ls.length ≤ 7) :
    (joinL ls).Pairwise fallB ∧ (∀ r ∈ joinL ls, r ≠ []) ∧ (∀ r ∈ joinL ls, r.Pairwise (fun a b => aheadB a b = true) ∧ r.Pairwise (fun a b => a.f2 ≠ b.f2)) ∧ (joinL ls).length ≤ 6 := by
  unfold joinL
  by_cases h6 : ls.length > 6
  case neg => rw [if_neg h6]; exact ⟨h1, h2, h3, by omega⟩
  rw [if_pos h6]
  obtain ⟨a, ha⟩ : ∃ a, a = ls.getD (ls.length - 2) [] := ⟨_, rfl⟩
  obtain ⟨b, hb⟩ : ∃ b, b = ls.getD (ls.length - 1) [] := ⟨_, rfl⟩
  have e : ls = ls.take (ls.length - 2) ++ [a, b] := by
    have e1 : ls.drop (ls.length - 2) = [a, b] := by
      rw [List.drop_eq_getElem_cons (by omega), show ls.length - 2 + 1 = ls.length - 1 by omega, List.drop_eq_getElem_cons (by omega), show ls.length - 1 + 1 = ls.length by omega, List.drop_length, ha, hb, List.getD_eq_getElem?_getD, List.getD_eq_getElem?_getD, List.getElem?_eq_getElem (by omega), List.getElem?_eq_getElem (by omega)]; rfl
    rw [← e1, List.take_append_drop]
  rw [← ha, ← hb]
  have hl : (ls.take (ls.length - 2)).length ≤ 5 := by rw [List.length_take]; omega
  generalize ls.take (ls.length - 2) = p at e hl
  clear ha hb h4 h6
  subst e
  rw [List.pairwise_append] at h1
  obtain ⟨p1, p2, p3⟩ := h1
  have hab : fallB a b := (List.pairwise_cons.1 p2).1 b (by simp)
  have ma : a ∈ p ++ [a, b] := by simp
  have mb : b ∈ p ++ [a, b] := by simp
  have hs := srt_ne (two_ne (h3 a ma).2 (h3 b mb).2 hab)
  refine ⟨List.pairwise_append.2 ⟨p1, List.pairwise_singleton _ _, fun r hr t ht x hx y hy => ?_⟩, fun r hr => ?_, fun r hr => ?_, by rw [List.length_append, List.length_singleton]; omega⟩
  · obtain rfl := List.mem_singleton.1 ht
    rcases List.mem_append.1 (srt_mem hy) with hy | hy
    · exact p3 r hr a (by simp) x hx y hy
    · exact p3 r hr b (by simp) x hx y hy
  · rcases List.mem_append.1 hr with hr | hr
    · exact h2 r (List.mem_append_left _ hr)
    · obtain rfl := List.mem_singleton.1 hr
      intro hn
      have := srt_len (a ++ b)
      rw [hn, List.length_append] at this
      have := List.length_pos_iff.2 (h2 a ma)
      simp only [List.length_nil] at *
      omega
  · rcases List.mem_append.1 hr with hr | hr
    · exact h3 r (List.mem_append_left _ hr)
    · obtain rfl := List.mem_singleton.1 hr
      exact hs
theorem ch_right {m : List Cel} {rs : List (List Cel)} {s q : Int} {c : Cel} (h : treeB m rs s q = true) (hc : chB s c = true) (hv : (!c.f3 || c.f1.toList == ([] : List UInt8)) = true) : treeB (chM m s q c) (chR m rs q) (s + 1) q = true := by
  have T := tree_facts h
  obtain ⟨t1, t2, t3, t4⟩ := tree_rows h
  have hs : s < 400 := by
    unfold chB at hc
    simp only [Bool.and_eq_true, Bool.not_eq_true', beq_eq_false_iff_ne] at hc
    have := T.seq; omega
  have hcell : cellB (chC s c) = true := by
    unfold chB at hc
    simp only [Bool.and_eq_true, decide_eq_true_eq] at hc
    obtain ⟨⟨_, c1⟩, c2⟩ := hc
    unfold cellB
    simp only [Bool.and_eq_true, decide_eq_true_eq]
    have := T.seq
    exact ⟨⟨⟨by show c.f0.size ≤ 100; omega, by show c.f1.size ≤ 100; omega⟩, hv⟩, ⟨by show 1 ≤ s + 1; omega, by show s + 1 ≤ 400; omega⟩⟩
  have hn : (chC s c).f2 = s + 1 := rfl
  by_cases hq : (m.length : Int) = q
  · have eA : chA m q = [] := by rw [chA, if_pos hq]
    have hm : m ≠ [] := by rintro rfl; have := T.most; rw [List.length_nil] at hq; omega
    have eR : chR m rs q = joinL (m :: rs) := by rw [chR, if_pos hq, flR, if_neg hm]
    have eM : chM m s q c = [chC s c] := by rw [chM, eA]; rfl
    obtain ⟨j1, j2, j3, j4⟩ := join_right t1 (fun r hr => (List.mem_cons.1 hr).elim (fun e => e ▸ hm) (t2 r)) (fun r hr => ⟨T.ord r hr, t4 r hr⟩) (by have := T.runs; simp only [List.length_cons]; omega)
    rw [eR, eM]
    have hj : ∀ r ∈ joinL (m :: rs), ∀ y ∈ r, cellB y = true ∧ y.f2 ≤ s := fun r hr y hy => by
      obtain ⟨z, hz, hy⟩ := (joinL_row hr).2 y hy
      exact ⟨T.cell z hz y hy, t3 z hz y hy⟩
    refine tree_of T.most (by have := T.seq; omega) (by have := T.most; simp only [List.length_singleton]; omega) j4 (fun r hr y hy => ?_) (List.pairwise_cons.2 ⟨fun r hr x hx y hy => ?_, j1⟩) (fun r hr => ?_) j2
    · rcases List.mem_cons.1 hr with rfl | hr
      · obtain rfl := List.mem_singleton.1 hy
        exact ⟨hcell, by omega⟩
      · exact ⟨(hj r hr y hy).1, by have := (hj r hr y hy).2; omega⟩
    · obtain rfl := List.mem_singleton.1 hx
      have := (hj r hr y hy).2; omega
    · rcases List.mem_cons.1 hr with rfl | hr
      · exact ⟨List.pairwise_singleton _ _, List.pairwise_singleton _ _⟩
      · exact j3 r hr
  · have eA : chA m q = m := by rw [chA, if_neg hq]
    have eR : chR m rs q = rs := by rw [chR, if_neg hq]
    have eM : chM m s q c = srt (m ++ [chC s c]) := by rw [chM, eA]
    rw [eR, eM]
    have hM : ∀ y ∈ srt (m ++ [chC s c]), y ∈ m ∨ y = chC s c := fun y hy => by simpa using srt_mem hy
    have t0 := List.pairwise_cons.1 t1
    have hS := srt_ne (l := m ++ [chC s c]) (List.pairwise_append.2 ⟨t4 m List.mem_cons_self, List.pairwise_singleton _ _, fun x hx y hy he => by
      obtain rfl := List.mem_singleton.1 hy
      have := t3 m List.mem_cons_self x hx; omega⟩)
    refine tree_of T.most (by have := T.seq; omega) ?_ T.runs (fun r hr y hy => ?_) (List.pairwise_cons.2 ⟨fun r hr x hx y hy => ?_, t0.2⟩) (fun r hr => ?_) t2
    · rw [srt_len, List.length_append, List.length_singleton]; have := T.len; omega
    · rcases List.mem_cons.1 hr with rfl | hr
      · rcases hM y hy with hy | rfl
        · exact ⟨T.cell m List.mem_cons_self y hy, by have := t3 m List.mem_cons_self y hy; omega⟩
        · exact ⟨hcell, by omega⟩
      · exact ⟨T.cell r (List.mem_cons_of_mem _ hr) y hy, by have := t3 r (List.mem_cons_of_mem _ hr) y hy; omega⟩
    · rcases hM x hx with hx | rfl
      · exact t0.1 r hr x hx y hy
      · have := t3 r (List.mem_cons_of_mem _ hr) y hy; omega
    · rcases List.mem_cons.1 hr with rfl | hr
      · exact hS
      · exact ⟨T.ord r (List.mem_cons_of_mem _ hr), t4 r (List.mem_cons_of_mem _ hr)⟩
def resF : List Cel → Int → Tre → Tre × Bool
  | [], _, x => (x, true)
  | c :: cs, i, x => if cellB c = true ∧ c.f2 = i + 1 then resF cs (i + 1) (chT x c).1 else (⟨[], [], 0, 0⟩, false)
def resT (q : Int) (l : List Cel) : Tre × Bool := if 1 ≤ q ∧ q ≤ 50 then resF l 0 ⟨[], [], 0, q⟩ else (⟨[], [], 0, 0⟩, false)
theorem cell_ch {c : Cel} {i : Int} (h : cellB c = true) (hi : c.f2 = i + 1) : chB i c = true ∧ (!c.f3 || c.f1.toList == ([] : List UInt8)) = true := by
  unfold cellB at h
  simp only [Bool.and_eq_true, decide_eq_true_eq] at h
  obtain ⟨⟨⟨h1, h2⟩, h3⟩, h4⟩ := h
  refine ⟨?_, h3⟩
  unfold chB
  simp only [Bool.and_eq_true, decide_eq_true_eq, Bool.not_eq_true', beq_eq_false_iff_ne]
  exact ⟨⟨by omega, by omega⟩, by omega⟩
theorem res_step {x : Tre} {c : Cel} {i : Int} (hx : trB x = true) (hi : x.f2 = i) (h : cellB c = true) (hc : c.f2 = i + 1) :
    chT x c = (⟨chM x.f0 x.f2 x.f3 c, chR x.f0 x.f1 x.f3, x.f2 + 1, x.f3⟩, true) ∧ trB (chT x c).1 = true ∧ (chT x c).1.f2 = i + 1 ∧ chB x.f2 c = true := by
  obtain ⟨h1, h2⟩ := cell_ch h hc
  rw [← hi] at h1
  have e : chT x c = (⟨chM x.f0 x.f2 x.f3 c, chR x.f0 x.f1 x.f3, x.f2 + 1, x.f3⟩, true) := by rw [chT, if_pos ⟨hx, h1⟩]
  rw [e]
  exact ⟨rfl, ch_right hx h1 h2, by show x.f2 + 1 = i + 1; omega, h1⟩
theorem res_none {q : Int} (h : 1 ≤ q ∧ q ≤ 50) : trB ⟨[], [], 0, q⟩ = true := tree_of h (by show (0 : Int) ≤ 0 ∧ (0 : Int) ≤ 400; omega) (by simp; omega) (by simp) (fun r hr c hc => by obtain rfl := List.mem_singleton.1 hr; cases hc) (List.pairwise_singleton _ _) (fun r hr => by obtain rfl := List.mem_singleton.1 hr; exact ⟨List.Pairwise.nil, List.Pairwise.nil⟩) (fun r hr => by cases hr)
end Go.Proofs.Ythffllegmkolgaa.TreeK
