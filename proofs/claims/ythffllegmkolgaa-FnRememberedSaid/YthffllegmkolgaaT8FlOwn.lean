/- A tree of the call's own in memory: where its rows lie; marks on it; a flushed tree is small. -/
import Derived.Test.YthffllegmkolgaaT8FlushP
import Derived.Test.YthffllegmkolgaaT8QTreex15
namespace Go.Proofs.Ythffllegmkolgaa.TreeK
open Go.RowKit Go.Proofs.YthffllegmkolgaaW.PrintWords Go.Proofs.YthffllegmkolgaaW.PrintLast Go.Proofs.YthffllegmkolgaaW.PrintMore Go.Proofs.Ythffllegmkolgaa.QTree Go.Proofs.Ythffllegmkolgaa.EvKit Go.Proofs.Ythffllegmkolgaa.GTree
set_option linter.unusedSimpArgs false
set_option linter.unusedVariables false
theorem pigeon : ∀ (n : Nat) (l : List Int), l.Pairwise (fun a b => a ≠ b) → (∀ i ∈ l, 1 ≤ i ∧ i ≤ n) → l.length ≤ n := by
  intro n
  induction n with
  | zero =>
    intro l _ h
    match l, h with
    | [], _ => exact Nat.le_refl _
    | i :: _, h => have := h i List.mem_cons_self; omega
  | succ n ih =>
    intro l hp h
    have hd : ∀ (l : List Int), l.Pairwise (fun a b => a ≠ b) → (∀ i ∈ l, 1 ≤ i ∧ i ≤ (n + 1 : Nat)) → l.length ≤ (l.filter (fun i => decide (i ≠ ((n + 1 : Nat) : Int)))).length + 1 ∧ (((n + 1 : Nat) : Int) ∉ l → l.length = (l.filter (fun i => decide (i ≠ ((n + 1 : Nat) : Int)))).length) := by
      intro l
      induction l with
      | nil => intro _ _; simp
      | cons i l il =>
        intro hp h
        obtain ⟨hi, hp'⟩ := List.pairwise_cons.1 hp
        obtain ⟨a1, a2⟩ := il hp' (fun j hj => h j (List.mem_cons_of_mem _ hj))
        by_cases he : i = ((n + 1 : Nat) : Int)
        · have hn : ((n + 1 : Nat) : Int) ∉ l := fun hm => hi _ hm he
          have := a2 hn
          rw [List.filter_cons_of_neg (by simp [he])]
          exact ⟨by simp only [List.length_cons]; omega, fun h0 => absurd (by rw [he]; exact List.mem_cons_self) h0⟩
        · rw [List.filter_cons_of_pos (by simpa using he)]
          exact ⟨by simp only [List.length_cons]; omega, fun h0 => by have := a2 (fun hm => h0 (List.mem_cons_of_mem _ hm)); simp only [List.length_cons]; omega⟩
    have h1 := (hd l hp h).1
    have h2 := ih (l.filter (fun i => decide (i ≠ ((n + 1 : Nat) : Int)))) (hp.sublist List.filter_sublist) (fun i hi => by
      obtain ⟨hm, hn⟩ := List.mem_filter.1 hi
      have := h i hm
      have hn' : i ≠ ((n + 1 : Nat) : Int) := by simpa using hn
      omega)
    omega
theorem few_cells {m : List Cel} {rs : List (List Cel)} {s q : Int} (h : treeB m rs s q = true) : (m :: rs).flatten.length ≤ 400 := by
  have h0 := h
  unfold treeB at h
  simp only [Bool.and_eq_true] at h
  obtain ⟨_, i2, _⟩ := lists_facts _ _ _ _ h.2
  have := pigeon 400 ((m :: rs).flatten.map (·.f2)) (List.pairwise_map.2 i2) (fun i hi => by
    obtain ⟨c, hc, rfl⟩ := List.mem_map.1 hi
    obtain ⟨r, hr, hc⟩ := List.mem_flatten.1 hc
    exact (tree_facts h0).at_ r hr c hc)
  rw [List.length_map] at this
  exact this
theorem srt_mem {l : List Cel} {c : Cel} (h : c ∈ srt l) : c ∈ l := by
  have := (srtOn_perm l []).mem_iff.1 h
  simpa using this
theorem srt_len (l : List Cel) : (srt l).length = l.length := by
  have := (srtOn_perm l []).length_eq
  simpa [srt] using this
theorem row_len {r : List Cel} {ls : List (List Cel)} (h : r ∈ ls) : r.length ≤ ls.flatten.length := by
  induction ls with
  | nil => cases h
  | cons x xs ih =>
    rw [List.flatten_cons, List.length_append]
    rcases List.mem_cons.1 h with rfl | h
    · omega
    · have := ih h; omega
theorem joinL_row {ls : List (List Cel)} {r : List Cel} (h : r ∈ joinL ls) : r.length ≤ 2 * ls.flatten.length ∧ ∀ c ∈ r, ∃ y ∈ ls, c ∈ y := by
  unfold joinL at h
  by_cases h6 : ls.length > 6
  · rw [if_pos h6] at h
    rcases List.mem_append.1 h with h | h
    · have hm := List.mem_of_mem_take h
      have := row_len hm
      exact ⟨by omega, fun c hc => ⟨r, hm, hc⟩⟩
    · rw [List.mem_singleton] at h
      subst h
      have g1 : ls.getD (ls.length - 2) [] ∈ ls := by
        rw [List.getD_eq_getElem?_getD, List.getElem?_eq_getElem (by omega)]
        exact List.getElem_mem _
      have g2 : ls.getD (ls.length - 1) [] ∈ ls := by
        rw [List.getD_eq_getElem?_getD, List.getElem?_eq_getElem (by omega)]
        exact List.getElem_mem _
      have l1 := row_len g1
      have l2 := row_len g2
      refine ⟨by rw [srt_len, List.length_append]; omega, fun c hc => ?_⟩
      rcases List.mem_append.1 (srt_mem hc) with h | h
      · exact ⟨_, g1, h⟩
      · exact ⟨_, g2, h⟩
  · rw [if_neg h6] at h
    have := row_len h
    exact ⟨by omega, fun c hc => ⟨r, h, hc⟩⟩
def Own (base : Nat) (w : World) (lo hi : Nat) (x : Tre) (v0 v1 : Value) : Prop :=
  KC.R TC w base (fun k => some k = v0.ownBlock ∧ lo ≤ k ∧ k < hi) v0 x.f0 ∧ Kd.S KL TL w base (fun k => some k ≠ v0.ownBlock ∧ lo ≤ k ∧ k < hi) v1 x.f1
theorem Own.kept {base : Nat} {w w' : World} {lo hi : Nat} {x : Tre} {v0 v1 : Value} {S : Nat → Prop} (h : Own base w lo hi x v0 v1) (hk : Kept w w' S) (hn : ∀ k, lo ≤ k → k < hi → ¬ S k) : Own base w' lo hi x v0 v1 :=
  ⟨Kd.R_kept h.1 hk (fun k hk => hn k hk.2.1 hk.2.2), Kd.S_kept h.2 hk (fun k hk => hn k hk.2.1 hk.2.2)⟩
theorem Own.below {base : Nat} {w w' : World} {lo hi : Nat} {x : Tre} {v0 v1 : Value} (h : Own base w lo hi x v0 v1) (hb : Below w.heap.size w w') : Own base w' lo hi x v0 v1 := ⟨Kd.R_below h.1 hb, Kd.S_below h.2 hb⟩
theorem Own.form {base : Nat} {w : World} {lo hi : Nat} {x : Tre} {v0 v1 : Value} (h : Own base w lo hi x v0 v1) : ∃ A c B d, v0 = .slice A x.f0.length c ∧ v1 = .slice B x.f1.length d := by
  obtain ⟨A, c, e, _, _⟩ := Kd.R_reads h.1
  obtain ⟨B, d, e', _, _⟩ := Kd.S_reads h.2
  exact ⟨A, c, B, d, e, e'⟩
end Go.Proofs.Ythffllegmkolgaa.TreeK
