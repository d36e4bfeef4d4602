/- A merge of a tree's runs, told plainly. -/
import Derived.Test.YthffllegmkolgaaT9ResPure
namespace Go.Proofs.Ythffllegmkolgaa.TreeK
open Go.RowKit Go.Proofs.Ythffllegmkolgaa.QTree Go.Proofs.Ythffllegmkolgaa.GTree
set_option linter.unusedSimpArgs false
set_option linter.unusedVariables false
def mk0 (l : List Cel) (j : Nat) : Cel := l.getD j ⟨⟨#[]⟩, ⟨#[]⟩, 0, false⟩
theorem mk0_at {l : List Cel} {j : Nat} {c : Cel} (hj : j < l.length) (e : l[j] = c) : mk0 l j = c := by
  unfold mk0
  rw [List.getD_eq_getElem?_getD, List.getElem?_eq_getElem hj, e]; rfl
def outB (keep : Int) (l : List Cel) (j : Nat) : Bool := decide ((mk0 l j).f2 ≤ keep) && ((mk0 l j).f3 || (decide (0 < j) && decide ((mk0 l (j - 1)).f0.toList = (mk0 l j).f0.toList) && decide ((mk0 l (j - 1)).f2 ≤ keep)))
def mrgI (keep : Int) (l : List Cel) : Nat → List Cel
  | 0 => []
  | j + 1 => if outB keep l j = true then mrgI keep l j else mrgI keep l j ++ [mk0 l j]
def firstB (keep : Int) (l : List Cel) (j : Nat) : Nat → Bool
  | 0 => true
  | k + 1 => firstB keep l j k && (!decide ((mk0 l k).f0.toList = (mk0 l j).f0.toList) || decide (keep < (mk0 l k).f2))
def inB (keep : Int) (l : List Cel) (j : Nat) : Bool := decide (keep < (mk0 l j).f2) || (firstB keep l j j && !(mk0 l j).f3)
def mrgS (keep : Int) (l : List Cel) : Nat → List Cel
  | 0 => []
  | j + 1 => if inB keep l j = true then mrgS keep l j ++ [mk0 l j] else mrgS keep l j
theorem firstB_iff (keep : Int) (l : List Cel) (j : Nat) : ∀ n, firstB keep l j n = true ↔ ∀ k, k < n → (mk0 l k).f0.toList = (mk0 l j).f0.toList → keep < (mk0 l k).f2 := by
  intro n
  induction n with
  | zero => simp [firstB]
  | succ n ih =>
    rw [firstB, Bool.and_eq_true, ih]
    constructor
    · rintro ⟨h1, h2⟩ k hk he
      rcases Nat.lt_succ_iff_lt_or_eq.1 hk with hk | rfl
      · exact h1 k hk he
      · simpa [he] using h2
    · intro h
      refine ⟨fun k hk => h k (by omega), ?_⟩
      by_cases he : (mk0 l n).f0.toList = (mk0 l j).f0.toList
      · simp [he, h n (by omega) he]
      · simp [he]
theorem same_between {a b c : Cel} (h1 : aheadB a b = true) (h2 : aheadB b c = true) (he : a.f0.toList = c.f0.toList) : b.f0.toList = c.f0.toList ∧ b.f2 < a.f2 := by
  rw [aheadB_iff] at h1 h2
  rcases h1 with h1 | ⟨e1, h1⟩ <;> rcases h2 with h2 | ⟨e2, h2⟩
  · have := bl_trans h1 h2; rw [he] at this; exact absurd this (by rw [bl_irrefl]; simp)
  · rw [e2, ← he] at h1; exact absurd h1 (by rw [bl_irrefl]; simp)
  · rw [← e1, he] at h2; exact absurd h2 (by rw [bl_irrefl]; simp)
  · exact ⟨e2, h1⟩
theorem in_out {keep : Int} {l : List Cel} (h : l.Pairwise (fun a b => aheadB a b = true)) {j : Nat} (hj : j < l.length) : inB keep l j = !outB keep l j := by
  have hp : ∀ a b, a < b → b < l.length → aheadB (mk0 l a) (mk0 l b) = true := fun a b hab hb => by
    rw [mk0_at (Nat.lt_trans hab hb) rfl, mk0_at hb rfl]
    exact List.pairwise_iff_getElem.1 h a b (Nat.lt_trans hab hb) hb hab
  unfold inB outB
  by_cases ha : keep < (mk0 l j).f2
  · have : ¬ (mk0 l j).f2 ≤ keep := by omega
    simp [ha, this]
  have ha' : (mk0 l j).f2 ≤ keep := by omega
  have hf : firstB keep l j j = !(decide (0 < j) && decide ((mk0 l (j - 1)).f0.toList = (mk0 l j).f0.toList) && decide ((mk0 l (j - 1)).f2 ≤ keep)) := by
    rw [Bool.eq_iff_iff, firstB_iff]
    constructor
    · intro hk
      simp only [Bool.not_eq_true', Bool.and_eq_false_iff, decide_eq_false_iff_not]
      by_cases h0 : 0 < j
      · by_cases he : (mk0 l (j - 1)).f0.toList = (mk0 l j).f0.toList
        · have := hk (j - 1) (by omega) he
          exact .inr (by omega)
        · exact .inl (.inr he)
      · exact .inl (.inl h0)
    · intro hn k hk he
      simp only [Bool.not_eq_true', Bool.and_eq_false_iff, decide_eq_false_iff_not] at hn
      have h0 : 0 < j := by omega
      by_cases hl : k = j - 1
      · subst hl
        rcases hn with (hn | hn) | hn
        · exact absurd h0 hn
        · exact absurd he hn
        · omega
      · obtain ⟨s1, s2⟩ := same_between (hp k (j - 1) (by omega) (by omega)) (hp (j - 1) j (by omega) hj) he
        rcases hn with (hn | hn) | hn
        · exact absurd h0 hn
        · exact absurd s1 hn
        · omega
  rw [hf]
  generalize (decide (0 < j) && decide ((mk0 l (j - 1)).f0.toList = (mk0 l j).f0.toList) && decide ((mk0 l (j - 1)).f2 ≤ keep)) = P
  generalize (mk0 l j).f3 = G
  rw [decide_eq_false ha, decide_eq_true ha']
  cases P <;> cases G <;> rfl
theorem mrg_eq {keep : Int} {l : List Cel} (h : l.Pairwise (fun a b => aheadB a b = true)) : ∀ j, j ≤ l.length → mrgS keep l j = mrgI keep l j := by
  intro j
  induction j with
  | zero => intro _; rfl
  | succ j ih =>
    intro hj
    rw [mrgS, mrgI, ih (by omega), in_out h (by omega)]
    cases outB keep l j <;> simp
theorem mrg_sub (keep : Int) (l : List Cel) : ∀ j, j ≤ l.length → (mrgI keep l j).length ≤ j ∧ ∀ c ∈ mrgI keep l j, c ∈ l := by
  intro j
  induction j with
  | zero => intro _; exact ⟨Nat.le_refl _, fun c hc => by cases hc⟩
  | succ j ih =>
    intro hj
    obtain ⟨i1, i2⟩ := ih (by omega)
    rw [mrgI]
    by_cases ho : outB keep l j = true
    · rw [if_pos ho]; exact ⟨by omega, i2⟩
    · rw [if_neg ho]
      refine ⟨by rw [List.length_append, List.length_singleton]; omega, fun c hc => ?_⟩
      rcases List.mem_append.1 hc with hc | hc
      · exact i2 c hc
      · rw [List.mem_singleton.1 hc, mk0_at (by omega) rfl]
        exact List.getElem_mem _
def mrgR (keep : Int) (rs : List (List Cel)) : List Cel := mrgI keep (srt rs.flatten) (srt rs.flatten).length
def mrgX (keep : Int) (rs : List (List Cel)) : List (List Cel) := if mrgR keep rs = [] then [] else [mrgR keep rs]
def mrgT (x : Tre) (keep : Int) : Tre := if trB x = true ∧ 0 ≤ keep then ⟨x.f0, mrgX keep x.f1, x.f2, x.f3⟩ else ⟨[], [], 0, 0⟩
theorem runs_tie {x : Tre} (h : trB x = true) : noTie x.f1.flatten = true :=
  noTie_sub (by rw [List.flatten_cons]; exact List.sublist_append_right _ _) (tree_facts h).tie
theorem runs_len {x : Tre} (h : trB x = true) : x.f1.flatten.length ≤ 400 := by
  have h1 := few_cells h
  rw [List.flatten_cons, List.length_append] at h1
  omega
end Go.Proofs.Ythffllegmkolgaa.TreeK
