/- What the reference's TreeOk tells is 'treeB'. Plain Lean; no machine in sight. -/
import Derived.Test.YthffllegmkolgaaT10TreeSpec
namespace Go.Proofs.Ythffllegmkolgaa.TreeK
open Go.RowKit Go.Proofs.YthffllegmkolgaaW.PrintWords Go.Proofs.YthffllegmkolgaaW.PrintLast Go.Proofs.YthffllegmkolgaaW.PrintMore Go.Proofs.Ythffllegmkolgaa.QTree Go.Proofs.Ythffllegmkolgaa.EvKit
def okHead (p : Option Cel) (c : Cel) : Bool := match p with | none => true | some q => aheadB q c
theorem okHead_iff (p : Option Cel) (c : Cel) : (∀ q ∈ p, aheadB q c = true) ↔ okHead p c = true := by cases p <;> simp [okHead]
theorem sortP_nil (p : Option Cel) : sortP p [] = true := by cases p <;> rfl
theorem cellsB_eq (least : Int) (x : List Cel) : ∀ (h : List Int) (b : Int) (p : Option Cel),
    cellsB least h b p x = if (sortP p x && x.all (fun c => decide (c.f2 < least)) && nodB h x) = true then some ((x.map (·.f2)).reverse ++ h, loF b x) else none := by
  induction x with
  | nil => intro h b p; rw [cellsB, sortP_nil]; simp [nodB, loF]
  | cons c cs ih =>
    intro h b p
    have e1 : sortP p (c :: cs) = (cellB c && okHead p c && sortP (some c) cs) := sortP_cons p c cs
    have e2 : loF b (c :: cs) = loF (min b c.f2) cs := rfl
    have e3 : (if c.f2 < b then c.f2 else b) = min b c.f2 := by split <;> omega
    rw [cellsB, e1, e2, e3, List.all_cons, nodB]
    by_cases hc : cellB c = true ∧ c.f2 ∉ h ∧ c.f2 < least ∧ (∀ q ∈ p, aheadB q c = true)
    · obtain ⟨h1, h2, h3, h4⟩ := hc
      have h5 := (okHead_iff p c).1 h4
      rw [if_pos ⟨h1, h2, h3, h4⟩, ih, h1, h5]
      simp [h2, h3]
    · rw [if_neg hc, okHead_iff] at *
      rw [if_neg]
      intro h'
      simp only [Bool.and_eq_true, Bool.not_eq_true', decide_eq_false_iff_not, decide_eq_true_eq] at h'
      exact hc ⟨h'.1.1.1.1, h'.2.1, h'.1.2.1, h'.1.1.1.2⟩
theorem nodB_append (x y : List Cel) : ∀ h : List Int, nodB h (x ++ y) = (nodB h x && nodB ((x.map (·.f2)).reverse ++ h) y) := by
  induction x with
  | nil => intro h; simp [nodB]
  | cons c cs ih => intro h; rw [List.cons_append, nodB, ih, nodB, Bool.and_assoc]; simp
def runsI : Int → List (List Cel) → Bool
  | _, [] => true
  | l, x :: xs => !decide (x = []) && sortP none x && x.all (fun c => decide (c.f2 < l)) && runsI (loF l x) xs
theorem lists_eq (xs : List (List Cel)) : ∀ (h : List Int) (l : Int), listsB h l false xs = (runsI l xs && nodB h xs.flatten) := by
  induction xs with
  | nil => intro h l; simp [listsB, runsI, nodB]
  | cons x xs ih =>
    intro h l
    rw [listsB, runsI, List.flatten_cons, nodB_append]
    by_cases hx : x = []
    · rw [if_pos ⟨rfl, hx⟩]; simp [hx]
    · rw [if_neg (fun h' => hx h'.2), cellsB_eq]
      generalize x.all (fun c => decide (c.f2 < l)) = a
      cases h1 : sortP none x <;> cases a <;> cases h2 : nodB h x <;> simp [hx, ih]
theorem lists_first (m : List Cel) (rs : List (List Cel)) (h : List Int) (l : Int) : listsB h l true (m :: rs) = (sortP none m && m.all (fun c => decide (c.f2 < l)) && runsI (loF l m) rs && nodB h (m ++ rs.flatten)) := by
  rw [listsB, nodB_append, if_neg (by simp), cellsB_eq]
  generalize m.all (fun c => decide (c.f2 < l)) = a
  cases h1 : sortP none m <;> cases a <;> cases h2 : nodB h m <;> simp [lists_eq]
def runsB : Int → List (List Cel) → Bool
  | _, [] => true
  | l, x :: xs => !decide (x = []) && sortP none x && !decide (l ≤ hiF 0 x) && runsB (loF 401 x) xs
theorem hiF_lt (l : Int) (x : List Cel) : ∀ b : Int, hiF b x < l ↔ b < l ∧ ∀ c ∈ x, c.f2 < l := by
  induction x with
  | nil => intro b; simp [hiF]
  | cons c cs ih =>
    intro b
    show hiF (max b c.f2) cs < l ↔ _
    rw [ih]
    simp only [List.mem_cons, forall_eq_or_imp]
    constructor
    · rintro ⟨h1, h2⟩; exact ⟨by omega, by omega, h2⟩
    · rintro ⟨h1, h2, h3⟩; exact ⟨by omega, h3⟩
theorem cellB_in {c : Cel} (h : cellB c = true) : 1 ≤ c.f2 ∧ c.f2 ≤ 400 := by
  unfold cellB at h
  simp only [Bool.and_eq_true, decide_eq_true_eq] at h
  exact h.2
theorem sortP_in (x : List Cel) : ∀ p, sortP p x = true → ∀ c ∈ x, 1 ≤ c.f2 ∧ c.f2 ≤ 400 := by
  induction x with
  | nil => intro p _ c hc; cases hc
  | cons a cs ih =>
    intro p h c hc
    rw [sortP_cons] at h
    simp only [Bool.and_eq_true] at h
    rcases List.mem_cons.1 hc with rfl | hc
    · exact cellB_in h.1.1
    · exact ih _ h.2 c hc
theorem all_hi (l : Int) (x : List Cel) (hl : 0 < l ∨ (x ≠ [] ∧ ∀ c ∈ x, 1 ≤ c.f2)) : x.all (fun c => decide (c.f2 < l)) = !decide (l ≤ hiF 0 x) := by
  rw [Bool.eq_iff_iff]
  simp only [List.all_eq_true, decide_eq_true_eq, Bool.not_eq_true', decide_eq_false_iff_not, Int.not_le]
  rw [hiF_lt]
  constructor
  · intro h
    refine ⟨?_, h⟩
    rcases hl with hl | ⟨h1, h2⟩
    · exact hl
    · obtain ⟨c, cs, rfl⟩ := List.exists_cons_of_ne_nil h1
      have := h c List.mem_cons_self
      have := h2 c List.mem_cons_self
      omega
  · exact fun h => h.2
theorem lo_same (l : Int) (x : List Cel) (hx : x ≠ []) (h : ∀ c ∈ x, c.f2 < l) (h4 : ∀ c ∈ x, c.f2 ≤ 400) : loF l x = loF 401 x := by
  obtain ⟨c, cs, rfl⟩ := List.exists_cons_of_ne_nil hx
  have h1 := h c List.mem_cons_self
  have h2 := h4 c List.mem_cons_self
  show loF (min l c.f2) cs = loF (min 401 c.f2) cs
  rw [show min l c.f2 = min 401 c.f2 by omega]
theorem runs_eq (xs : List (List Cel)) : ∀ l : Int, runsI l xs = runsB l xs := by
  induction xs with
  | nil => intro l; rfl
  | cons x xs ih =>
    intro l
    rw [runsI, runsB]
    by_cases hx : x = []
    · simp [hx]
    cases hs : sortP none x with
    | false => simp
    | true =>
      have hin := sortP_in x none hs
      rw [all_hi l x (.inr ⟨hx, fun c hc => (hin c hc).1⟩)]
      by_cases hl : l ≤ hiF 0 x
      · simp [hl]
      · have hall := ((hiF_lt l x 0).1 (by omega)).2
        rw [lo_same l x hx hall (fun c hc => (hin c hc).2), ih]
def treeS (m : List Cel) (rs : List (List Cel)) (seq most : Int) : Bool := decide (1 ≤ most ∧ most ≤ 50) && decide (0 ≤ seq ∧ seq ≤ 400) && !decide (most < m.length) && !decide (6 < (rs.length : Int)) && (sortP none m && !decide (seq < hiF 0 m) && runsB (if m = [] then seq + 1 else loF 401 m) rs && nodB [] (m ++ rs.flatten))
theorem tree_same (m : List Cel) (rs : List (List Cel)) (seq most : Int) : treeS m rs seq most = treeB m rs seq most := by
  unfold treeS treeB
  by_cases hq : 0 ≤ seq ∧ seq ≤ 400
  · congr 1
    rw [lists_first, all_hi (seq + 1) m (.inl (by omega)), runs_eq]
    have e1 : decide (seq < hiF 0 m) = decide (seq + 1 ≤ hiF 0 m) := by rw [decide_eq_decide]; omega
    rw [e1]
    cases hs : sortP none m with
    | false => simp
    | true =>
      by_cases hl : seq + 1 ≤ hiF 0 m
      · simp [hl]
      · by_cases hm : m = []
        · subst hm; simp [loF]
        · rw [if_neg hm, lo_same (seq + 1) m hm ((hiF_lt (seq + 1) m 0).1 (by omega)).2 (fun c hc => (sortP_in m none hs c hc).2)]
  · rw [decide_eq_false hq]; simp
theorem l0_ev (m : List Cel) (rs : List (List Cel)) (seq most : Int) (hm : m.length ≤ 1048576) (hr : ∀ x ∈ rs, x.length ≤ 1048576) (hl : rs.length ≤ 6) (hmi : ∀ c ∈ m, 1 ≤ c.f2 ∧ c.f2 ≤ 400) :
    ∀ (d j : Nat) (low : Int), j + d = rs.length → (∀ x ∈ rs.take j, ∀ c ∈ x, 1 ≤ c.f2 ∧ c.f2 ≤ 400) → Ev (fun k => spec_TreeOk.l0 k low (j : Int) m rs seq most) (runsB low (rs.drop j) && nodB [] (m ++ rs.flatten)) := by
  intro d
  induction d with
  | zero =>
    intro j low hj hin
    obtain rfl : j = rs.length := by omega
    rw [List.take_length] at hin
    rw [List.drop_length, runsB, Bool.true_and]
    have hlen : (m ++ rs.flatten).length ≤ 9223372036854775807 := by
      have := flat_len rs hr
      rw [List.length_append]; omega
    refine Ev.step (f := fun k => (spec_l17All.f k m rs seq most).bind fun t => spec_TreeOk.l1 k t (List.replicate 401 false) 0) (fun k => ?_) ?_
    · rw [spec_TreeOk.l0, if_neg (by omega)]
      congr 1
    · refine Ev.bind (all_ev m rs seq most hm hr hl) (seen_ev _ hlen (fun c hc => ?_))
      rcases List.mem_append.1 hc with hc | hc
      · exact hmi c hc
      · obtain ⟨x, hx, hcx⟩ := List.mem_flatten.1 hc
        exact hin x hx c hcx
  | succ d ih =>
    intro j low hj hin
    have hlt : j < rs.length := by omega
    have hd : rs.drop j = rs[j] :: rs.drop (j + 1) := List.drop_eq_getElem_cons hlt
    have hrj := hr _ (List.getElem_mem hlt)
    have hjw : wrap64 ((j : Int) + 1) = ((j + 1 : Nat) : Int) := w64_succ hlt (by omega)
    rw [hd, runsB]
    by_cases hx : rs[j] = []
    · refine Ev.step (f := fun k => spec_TreeOk.j3 k low (j : Int) true m rs seq most) (fun k => ?_) ?_
      · rw [spec_TreeOk.l0, if_pos (by omega), if_pos (by omega), rdL rs j hlt, hx]; simp
      · refine Ev.step (f := fun _ => some false) (fun k => by rw [spec_TreeOk.j3]; simp) ?_
        simp [hx]; exact Ev.now _
    · have hx0 : ¬ ((rs[j].length : Int) = 0) := by
        have : rs[j].length ≠ 0 := fun h => hx (List.eq_nil_of_length_eq_zero h)
        omega
      refine Ev.step (f := fun k => (spec_l17Sorted.f k rs[j]).bind fun t => spec_TreeOk.j3 k low (j : Int) (!t) m rs seq most) (fun k => ?_) (Ev.bind (sorted_ev rs[j] (by omega)) ?_)
      · rw [spec_TreeOk.l0, if_pos (by omega), if_pos (by omega), rdL rs j hlt, if_neg hx0]
      · cases hs : sortP none rs[j] with
        | false =>
          refine Ev.step (f := fun _ => some false) (fun k => by rw [spec_TreeOk.j3]; simp) ?_
          simp; exact Ev.now _
        | true =>
          refine Ev.step (f := fun k => (spec_l17Span.f k rs[j]).bind fun b => if b.2 ≥ low then some false else spec_TreeOk.l0 k b.1 ((j + 1 : Nat) : Int) m rs seq most) (fun k => ?_) (Ev.bind (span_ev rs[j] (by omega)) ?_)
          · rw [spec_TreeOk.j3]
            simp only [Bool.not_true, Bool.false_eq_true, if_false]
            rw [if_pos (by omega), if_pos (by omega), rdL rs j hlt, hjw]
          · by_cases hlo : low ≤ hiF 0 rs[j]
            · simp only [show ((loF 401 rs[j], hiF 0 rs[j]) : Int × Int).2 ≥ low from hlo, if_true]
              simp; exact Ev.now _
            · simp only [show ¬ (((loF 401 rs[j], hiF 0 rs[j]) : Int × Int).2 ≥ low) from hlo, if_false]
              have h3 := ih (j + 1) (loF 401 rs[j]) (by omega) (by
                intro x hx1 c hc
                rw [List.take_succ_eq_append_getElem hlt] at hx1
                rcases List.mem_append.1 hx1 with h | h
                · exact hin x h c hc
                · rw [List.mem_singleton.1 h] at hc
                  exact sortP_in _ none hs c hc)
              simpa [hx] using h3
theorem spec_tree (m : List Cel) (rs : List (List Cel)) (seq most : Int) (hm : m.length ≤ 1048576) (hr : ∀ x ∈ rs, x.length ≤ 1048576) : Ev (fun k => spec_TreeOk.f k m rs seq most) (treeB m rs seq most) := by
  rw [← tree_same]
  have hbad : Ev (fun k => spec_TreeOk.j0 k true m rs seq most) false := Ev.step (f := fun _ => some false) (fun k => by rw [spec_TreeOk.j0]; simp) (Ev.now _)
  unfold spec_TreeOk.f treeS
  simp only [l1In_f, Option.bind_some, decide_eq_true_eq]
  by_cases h1 : 1 ≤ most ∧ most ≤ 50
  · by_cases h2 : 0 ≤ seq ∧ seq ≤ 400
    · simp only [if_pos h1, if_pos h2, decide_eq_true h1, decide_eq_true h2]
      by_cases h3 : (m.length : Int) > most
      · simp only [if_pos h3, show decide (most < (m.length : Int)) = true from decide_eq_true h3]; simpa using hbad
      · simp only [if_neg h3, show decide (most < (m.length : Int)) = false from decide_eq_false h3]
        by_cases h4 : (rs.length : Int) > 6
        · simp only [if_pos h4, show decide (6 < (rs.length : Int)) = true from decide_eq_true h4]; simpa using hbad
        · simp only [if_neg h4, show decide (6 < (rs.length : Int)) = false from decide_eq_false h4, Bool.not_false, Bool.and_true, Bool.true_and]
          refine Ev.bind (sorted_ev m (by omega)) ?_
          cases hs : sortP none m with
          | false => simpa using hbad
          | true =>
            refine Ev.step (f := fun k => (spec_l17Span.f k m).bind fun b => if b.2 > seq then some false else (if (m.length : Int) = 0 then spec_TreeOk.j1 k (wrap64 (seq + 1)) m rs seq most else spec_TreeOk.j1 k b.1 m rs seq most)) (fun k => by rw [spec_TreeOk.j0]; simp) (Ev.bind (span_ev m (by omega)) ?_)
            by_cases h5 : seq < hiF 0 m
            · simp only [show ((loF 401 m, hiF 0 m) : Int × Int).2 > seq from h5, if_true]
              simp; exact Ev.now _
            · simp only [show ¬ (((loF 401 m, hiF 0 m) : Int × Int).2 > seq) from h5, if_false]
              have hin := sortP_in m none hs
              have hl0 := fun low => l0_ev m rs seq most hm hr (by omega) hin rs.length 0 low (by omega) (by intro x hx; simp at hx)
              by_cases h6 : m = []
              · have e : (m.length : Int) = 0 := by rw [h6]; rfl
                simp only [if_pos e, show wrap64 (seq + 1) = seq + 1 from by unfold wrap64; omega]
                refine Ev.step (f := fun k => spec_TreeOk.l0 k (seq + 1) 0 m rs seq most) (fun k => by rw [spec_TreeOk.j1]) ?_
                simpa [h6] using hl0 (seq + 1)
              · have e : ¬ ((m.length : Int) = 0) := fun h => h6 (List.eq_nil_of_length_eq_zero (by omega))
                simp only [if_neg e]
                refine Ev.step (f := fun k => spec_TreeOk.l0 k (loF 401 m) 0 m rs seq most) (fun k => by rw [spec_TreeOk.j1]) ?_
                simpa [h6] using hl0 (loF 401 m)
    · simp only [if_pos h1, if_neg h2, decide_eq_false h2]; simpa using hbad
  · simp only [if_neg h1, decide_eq_false h1]; simpa using hbad
end Go.Proofs.Ythffllegmkolgaa.TreeK
