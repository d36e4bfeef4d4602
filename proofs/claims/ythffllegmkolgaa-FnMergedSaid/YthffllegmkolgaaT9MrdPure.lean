/- A merged tree is right, no greater, and says from the number that is kept on what it said, in plain Lean. -/
import Derived.Test.YthffllegmkolgaaT9MrgPure
import Derived.Test.YthffllegmkolgaaT9DelKit
import Derived.Test.YthffllegmkolgaaT9RemPure
import Derived.Test.YthffllegmkolgaaT9RemWalk
namespace Go.Proofs.Ythffllegmkolgaa.TreeK
open Go.RowKit Go.Proofs.Ythffllegmkolgaa.QTree Go.Proofs.Ythffllegmkolgaa.GTree
set_option linter.unusedSimpArgs false
set_option linter.unusedVariables false
theorem mrg_mem (keep : Int) (l : List Cel) (c : Cel) : ∀ n, c ∈ mrgI keep l n ↔ ∃ j, j < n ∧ outB keep l j = false ∧ c = mk0 l j := by
  intro n
  induction n with
  | zero => simp [mrgI]
  | succ n ih =>
    rw [mrgI]
    by_cases ho : outB keep l n = true
    · rw [if_pos ho, ih]
      constructor
      · rintro ⟨j, h1, h2, h3⟩; exact ⟨j, by omega, h2, h3⟩
      · rintro ⟨j, h1, h2, h3⟩
        by_cases hj : j = n
        · subst hj; rw [ho] at h2; cases h2
        · exact ⟨j, by omega, h2, h3⟩
    · rw [if_neg ho, List.mem_append, ih, List.mem_singleton]
      constructor
      · rintro (⟨j, h1, h2, h3⟩ | h)
        · exact ⟨j, by omega, h2, h3⟩
        · exact ⟨n, by omega, by simpa using ho, h⟩
      · rintro ⟨j, h1, h2, h3⟩
        by_cases hj : j = n
        · subst hj; exact .inr h3
        · exact .inl ⟨j, by omega, h2, h3⟩
theorem mrg_subl (keep : Int) (l : List Cel) : ∀ n, n ≤ l.length → (mrgI keep l n).Sublist (l.take n) := by
  intro n
  induction n with
  | zero => intro _; exact List.nil_sublist _
  | succ n ih =>
    intro hn
    rw [mrgI, List.take_succ_eq_append_getElem (by omega)]
    by_cases ho : outB keep l n = true
    · rw [if_pos ho]; exact (ih (by omega)).trans (List.sublist_append_left _ _)
    · rw [if_neg ho, mk0_at (by omega) rfl]; exact (ih (by omega)).append (List.Sublist.refl _)
theorem mrgR_sub (keep : Int) (rs : List (List Cel)) : (mrgR keep rs).Sublist (srt rs.flatten) := by
  have h := mrg_subl keep (srt rs.flatten) _ (Nat.le_refl _)
  rwa [List.take_length] at h
theorem mrgX_one (keep : Int) (rs : List (List Cel)) : (mrgX keep rs).length ≤ 1 := by
  unfold mrgX; split <;> simp
theorem mrg_right {x : Tre} (h : trB x = true) {keep : Int} (hk : 0 ≤ keep) : trB (mrgT x keep) = true := by
  have T := tree_facts h
  obtain ⟨t1, t2, t3, t4⟩ := tree_rows h
  rw [mrgT, if_pos ⟨h, hk⟩]
  show treeB x.f0 (mrgX keep x.f1) x.f2 x.f3 = true
  have hsub := mrgR_sub keep x.f1
  have hm : ∀ c ∈ mrgR keep x.f1, ∃ r ∈ x.f1, c ∈ r := fun c hc => by
    have := srt_mem (hsub.subset hc)
    obtain ⟨r, h1, h2⟩ := List.mem_flatten.1 this
    exact ⟨r, h1, h2⟩
  have hall : ∀ r ∈ mrgX keep x.f1, r = mrgR keep x.f1 ∧ r ≠ [] := fun r hr => by
    unfold mrgX at hr
    split at hr
    · cases hr
    · rename_i hne
      obtain rfl := List.mem_singleton.1 hr
      exact ⟨rfl, hne⟩
  have hfl : x.f1.flatten.Pairwise (fun a b => a.f2 ≠ b.f2) := by
    have ha := (all_facts h).2.1
    exact (List.pairwise_append.1 ha).2.1
  have hs := srt_ne hfl
  refine tree_of T.most T.seq T.len (Nat.le_trans (mrgX_one _ _) (by omega)) (fun r hr c hc => ?_) ?_ (fun r hr => ?_) (fun r hr => (hall r hr).2)
  · rcases List.mem_cons.1 hr with rfl | hr
    · exact ⟨T.cell _ List.mem_cons_self c hc, t3 _ List.mem_cons_self c hc⟩
    · rw [(hall r hr).1] at hc
      obtain ⟨r', h1, h2⟩ := hm c hc
      exact ⟨T.cell r' (List.mem_cons_of_mem _ h1) c h2, t3 r' (List.mem_cons_of_mem _ h1) c h2⟩
  · refine List.pairwise_cons.2 ⟨fun r hr a ha b hb => ?_, ?_⟩
    · rw [(hall r hr).1] at hb
      obtain ⟨r', h1, h2⟩ := hm b hb
      exact (List.pairwise_cons.1 t1).1 r' h1 a ha b h2
    · unfold mrgX; split
      · exact List.Pairwise.nil
      · exact List.pairwise_singleton _ _
  · rcases List.mem_cons.1 hr with rfl | hr
    · exact ⟨T.ord _ List.mem_cons_self, t4 _ List.mem_cons_self⟩
    · rw [(hall r hr).1]
      exact ⟨hs.1.sublist hsub, hs.2.sublist hsub⟩
theorem strict_sub : ∀ (l2 l1 : List Cel), l2.Pairwise (fun a b => a.f2 < b.f2) → l1.Pairwise (fun a b => a.f2 < b.f2) → (∀ c ∈ l1, c ∈ l2) → l1.Sublist l2 := by
  intro l2
  induction l2 with
  | nil =>
    intro l1 _ _ hm
    cases l1 with
    | nil => exact List.Sublist.refl _
    | cons a t => exact absurd (hm a List.mem_cons_self) (by simp)
  | cons b u ih =>
    intro l1 h2 h1 hm
    cases l1 with
    | nil => exact List.nil_sublist _
    | cons a t =>
      obtain ⟨h2b, h2u⟩ := List.pairwise_cons.1 h2
      obtain ⟨h1a, h1t⟩ := List.pairwise_cons.1 h1
      by_cases hab : a = b
      · subst hab
        refine List.Sublist.cons_cons a (ih t h2u h1t (fun c hc => ?_))
        rcases List.mem_cons.1 (hm c (List.mem_cons_of_mem _ hc)) with h | h
        · subst h; have := h1a c hc; omega
        · exact h
      · refine (ih (a :: t) h2u h1 (fun c hc => ?_)).cons b
        have hau : a ∈ u := (List.mem_cons.1 (hm a List.mem_cons_self)).elim (fun h => absurd h hab) id
        have hba := h2b a hau
        rcases List.mem_cons.1 (hm c hc) with h | h
        · subst h
          rcases List.mem_cons.1 hc with h3 | h3
          · exact absurd h3.symm hab
          · have := h1a c h3; omega
        · exact h
theorem mrg_cells {x : Tre} (h : trB x = true) {keep : Int} (hk : 0 ≤ keep) (c : Cel) : c ∈ celT (mrgT x keep) ↔ c ∈ x.f0 ∨ c ∈ mrgR keep x.f1 := by
  rw [mrgT, if_pos ⟨h, hk⟩]
  show c ∈ x.f0 ++ (mrgX keep x.f1).flatten ↔ _
  rw [List.mem_append]
  unfold mrgX
  split
  · rename_i he; rw [he]; simp
  · simp
theorem mrg_subset {x : Tre} (h : trB x = true) {keep : Int} (hk : 0 ≤ keep) (c : Cel) (hc : c ∈ celT (mrgT x keep)) : c ∈ celT x := by
  rcases (mrg_cells h hk c).1 hc with hc | hc
  · exact List.mem_append_left _ hc
  · exact List.mem_append_right _ (srt_mem ((mrgR_sub keep x.f1).subset hc))
theorem mrg_chg {x : Tre} (h : trB x = true) {keep : Int} (hk : 0 ≤ keep) (frm : Int) : (chgR (mrgT x keep) frm).length ≤ (chgR x frm).length := by
  have hr := mrg_right h hk
  have e : (mrgT x keep).f2 = x.f2 := by rw [mrgT, if_pos ⟨h, hk⟩]
  rw [chgR, if_pos hr, chgR, if_pos h, e]
  refine (strict_sub _ _ (chgS_sorted (all_facts h).2.1 _) (chgS_sorted (all_facts hr).2.1 _) (fun c hc => ?_)).length_le
  rw [chgS_mem] at hc ⊢
  exact ⟨mrg_subset h hk c hc.1, hc.2⟩
theorem mrg_look {x : Tre} (h : trB x = true) {keep : Int} (hk : 0 ≤ keep) (hgone : ∀ c ∈ celT x, c.f3 = true → c.f1 = ⟨#[]⟩) (key : ByteArray) (s : Int) (hs : keep ≤ s) : lookX (mrgT x keep) key s = lookX x key s := by
  rw [lookX, if_pos (mrg_right h hk), lookX, if_pos h]
  have tr := (tree_rows h).1
  have hord := List.pairwise_cons.1 tr
  have hmem : ∀ a ∈ x.f0, ∀ b ∈ x.f1.flatten, b.f2 < a.f2 := fun a ha b hb => by
    obtain ⟨r, h1, h2⟩ := List.mem_flatten.1 hb
    exact hord.1 r h1 a ha b h2
  have hdist := (all_facts h).2.1
  have hsrt := srt_sorted (runs_tie h)
  obtain ⟨L, hL⟩ : ∃ L, L = srt x.f1.flatten := ⟨_, rfl⟩
  have hLm : ∀ c, c ∈ L ↔ c ∈ x.f1.flatten := fun c => by rw [hL]; exact srt_mem_iff
  have hin : ∀ c, c ∈ mrgR keep x.f1 ↔ ∃ j, j < L.length ∧ outB keep L j = false ∧ c = mk0 L j := fun c => by rw [mrgR, ← hL]; exact mrg_mem keep L c L.length
  rw [← hL] at hsrt
  have hp : ∀ a b, a < b → b < L.length → aheadB (mk0 L a) (mk0 L b) = true := fun a b hab hb => by
    rw [mk0_at (Nat.lt_trans hab hb) rfl, mk0_at hb rfl]
    exact List.pairwise_iff_getElem.1 hsrt a b (Nat.lt_trans hab hb) hb hab
  obtain ⟨n1, s1⟩ := seen_max s key.toList (celT (mrgT x keep))
  obtain ⟨n2, s2⟩ := seen_max s key.toList (celT x)
  show lookR (celT (mrgT x keep)) key s = lookR (celT x) key s
  unfold lookR
  cases ho : seenC s (celT x) key.toList with
  | none =>
    cases hm : seenC s (celT (mrgT x keep)) key.toList with
    | none => rfl
    | some d =>
      obtain ⟨g1, g2, g3, _⟩ := s1 d hm
      exact absurd g3 (n2 ho d (mrg_subset h hk d g1) g2)
  | some c =>
    obtain ⟨c1, c2, c3, c4⟩ := s2 c ho
    by_cases hc : c ∈ celT (mrgT x keep)
    · cases hm : seenC s (celT (mrgT x keep)) key.toList with
      | none => exact absurd c3 (n1 hm c hc c2)
      | some d =>
        obtain ⟨g1, g2, g3, g4⟩ := s1 d hm
        have h1 := g4 c hc c2 c3
        have h2 := c4 d (mrg_subset h hk d g1) g2 g3
        have hdc : d = c := by
          have hp2 := List.pairwise_iff_getElem.1 hdist
          obtain ⟨i, hi, ei⟩ := List.mem_iff_getElem.1 (show d ∈ allC x from mrg_subset h hk d g1)
          obtain ⟨j, hj, ej⟩ := List.mem_iff_getElem.1 (show c ∈ allC x from c1)
          rcases Nat.lt_trichotomy i j with hij | hij | hij
          · have := hp2 i j hi hj hij; rw [ei, ej] at this; omega
          · subst hij; rw [← ei, ej]
          · have := hp2 j i hj hi hij; rw [ei, ej] at this; omega
        rw [hdc]
    · -- c was left out
      have hcr : c ∈ x.f1.flatten := by
        rcases List.mem_append.1 c1 with h0 | h0
        · exact absurd ((mrg_cells h hk c).2 (.inl h0)) hc
        · exact h0
      obtain ⟨j, hj, ej⟩ := List.mem_iff_getElem.1 ((hLm c).2 hcr)
      have ecj : mk0 L j = c := mk0_at hj ej
      have hout : outB keep L j = true := by
        cases hb : outB keep L j with
        | true => rfl
        | false => exact absurd ((mrg_cells h hk c).2 (.inr ((hin c).2 ⟨j, hj, hb, ecj.symm⟩))) hc
      unfold outB at hout
      rw [ecj] at hout
      simp only [Bool.and_eq_true, decide_eq_true_eq, Bool.or_eq_true] at hout
      obtain ⟨o1, o2⟩ := hout
      have hg : c.f3 = true := by
        rcases o2 with o2 | ⟨⟨q1, q2⟩, q3⟩
        · exact o2
        · have ha := hp (j - 1) j (by omega) hj
          rw [ecj] at ha
          have hm1 : mk0 L (j - 1) ∈ celT x := List.mem_append_right _ ((hLm _).1 (by rw [mk0_at (show j - 1 < L.length by omega) rfl]; exact List.getElem_mem _))
          have h2 := c4 _ hm1 (q2.trans c2) (by omega)
          rcases (aheadB_iff _ _).1 ha with hb | ⟨_, hb⟩
          · rw [q2, bl_irrefl] at hb; cases hb
          · omega
      have e1 := hgone c c1 hg
      cases hm : seenC s (celT (mrgT x keep)) key.toList with
      | none => simp [e1, hg]
      | some d =>
        exfalso
        obtain ⟨g1, g2, g3, g4⟩ := s1 d hm
        have hdx := mrg_subset h hk d g1
        have hle := c4 d hdx g2 g3
        rcases (mrg_cells h hk d).1 g1 with h0 | h0
        · have := hmem d h0 c hcr; omega
        · obtain ⟨i, hi, hob, edi⟩ := (hin d).1 h0
          have hij : j < i := by
            rcases Nat.lt_trichotomy i j with hij | hij | hij
            · have ha := hp i j hij hj
              rw [← edi, ecj] at ha
              rcases (aheadB_iff _ _).1 ha with hb | ⟨_, hb⟩
              · rw [g2, c2, bl_irrefl] at hb; cases hb
              · omega
            · subst hij; rw [ecj] at edi; rw [edi] at h0; exact absurd ((mrg_cells h hk c).2 (.inr h0)) hc
            · exact hij
          have hpr : (mk0 L (i - 1)).f0.toList = key.toList ∧ (mk0 L (i - 1)).f2 ≤ keep := by
            by_cases hji : j = i - 1
            · rw [← hji, ecj]; exact ⟨c2, o1⟩
            · have a1 := hp j (i - 1) (by omega) (by omega)
              have a2 := hp (i - 1) i (by omega) hi
              rw [ecj] at a1
              rw [← edi] at a2
              obtain ⟨b1, b2⟩ := same_between a1 a2 (c2.trans g2.symm)
              exact ⟨b1.trans g2, by omega⟩
          unfold outB at hob
          rw [← edi] at hob
          have hd : d.f2 ≤ keep := by omega
          simp [hd, hpr.1, hpr.2, g2, show 0 < i by omega] at hob
end Go.Proofs.Ythffllegmkolgaa.TreeK
