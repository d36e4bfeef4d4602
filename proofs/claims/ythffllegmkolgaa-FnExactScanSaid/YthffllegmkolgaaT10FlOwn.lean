/- A tree of the call's own in memory: where its rows lie; marks on it; a flushed tree is small. -/
import Derived.Test.YthffllegmkolgaaT10FlPure
import Derived.Test.YthffllegmkolgaaT10QTreex15
namespace Go.Proofs.Ythffllegmkolgaa.TreeK
open Go.RowKit Go.Proofs.YthffllegmkolgaaW.PrintWords Go.Proofs.YthffllegmkolgaaW.PrintLast Go.Proofs.YthffllegmkolgaaW.PrintMore Go.Proofs.Ythffllegmkolgaa.QTree Go.Proofs.Ythffllegmkolgaa.EvKit Go.Proofs.Ythffllegmkolgaa.GTree
set_option linter.unusedSimpArgs false
set_option linter.unusedVariables false
theorem pigeon : ∀ (n : Nat) (l : List Int), l.Pairwise (fun a b => a ≠ b) → (∀ i ∈ l, 1 ≤ i ∧ i ≤ n) → l.length ≤ n := by
  intro n
  induction n with
  | zero =>
    intro l _ h
    match l, h with
    | [], _ => exact Nat.le_refl _
    | i :: _, h => have := h i List.mem_cons_self; omega
  | succ n ih =>
    intro l hp h
    have hd : ∀ (l : List Int), l.Pairwise (fun a b => a ≠ b) → (∀ i ∈ l, 1 ≤ i ∧ i ≤ (n + 1 : Nat)) → l.length ≤ (l.filter (fun i => decide (i ≠ ((n + 1 : Nat) : Int)))).length + 1 ∧ (((n + 1 : Nat) : Int) ∉ l → l.length = (l.filter (fun i => decide (i ≠ ((n + 1 : Nat) : Int)))).length) := by
      intro l
      induction l with
      | nil => intro _ _; simp
      | cons i l il =>
        intro hp h
        obtain ⟨hi, hp'⟩ := List.pairwise_cons.1 hp
        obtain ⟨a1, a2⟩ := il hp' (fun j hj => h j (List.mem_cons_of_mem _ hj))
        by_cases he : i = ((n + 1 : Nat) : Int)
        · have hn : ((n + 1 : Nat) : Int) ∉ l := fun hm => hi _ hm he
          have := a2 hn
          rw [List.filter_cons_of_neg (by simp [he])]
          exact ⟨by simp only [List.length_cons]; omega, fun h0 => absurd (by rw [he]; exact List.mem_cons_self) h0⟩
        · rw [List.filter_cons_of_pos (by simpa using he)]
          exact ⟨by simp only [List.length_cons]; omega, fun h0 => by have := a2 (fun hm => h0 (List.mem_cons_of_mem _ hm)); simp only [List.length_cons]; omega⟩
    have h1 := (hd l hp h).1
    have h2 := ih (l.filter (fun i => decide (i ≠ ((n + 1 : Nat) : Int)))) (hp.sublist List.filter_sublist) (fun i hi => by
      obtain ⟨hm, hn⟩ := List.mem_filter.1 hi
      have := h i hm
      have hn' : i ≠ ((n + 1 : Nat) : Int) := by simpa using hn
      omega)
    omega
theorem few_cells {m : List Cel} {rs : List (List Cel)} {s q : Int} (h : treeB m rs s q = true) : (m :: rs).flatten.length ≤ 400 := by
  have h0 := h
  unfold treeB at h
  simp only [Bool.and_eq_true] at h
  obtain ⟨_, i2, _⟩ := lists_facts _ _ _ _ h.2
  have := pigeon 400 ((m :: rs).flatten.map (·.f2)) (List.pairwise_map.2 i2) (fun i hi => by
    obtain ⟨c, hc, rfl⟩ := List.mem_map.1 hi
    obtain ⟨r, hr, hc⟩ := List.mem_flatten.1 hc
    exact (tree_facts h0).at_ r hr c hc)
  rw [List.length_map] at this
  exact this
theorem sumL_le_mul (ns : List Nat) (M : Nat) (h : ∀ n ∈ ns, n ≤ M) : sumL ns ≤ ns.length * M := by
  induction ns with
  | nil => exact Nat.zero_le _
  | cons n ns ih =>
    have h1 := ih (fun k hk => h k (List.mem_cons_of_mem _ hk))
    have h2 := h n List.mem_cons_self
    show n + sumL ns ≤ (ns.length + 1) * M
    rw [Nat.add_mul]; omega
def cnt (x : Tre) : Int := 4 * x.f0.length + 4 * sumL (x.f1.map List.length)
theorem cnt_le (x : Tre) (s : sm_Tree x) : 0 ≤ cnt x ∧ cnt x ≤ 10000000000000 := by
  have h := sumL_le_mul (x.f1.map List.length) 1048576 (fun n hn => by
    obtain ⟨r, hr, rfl⟩ := List.mem_map.1 hn
    exact (s.2.1.2 r hr).1)
  rw [List.length_map] at h
  have h2 : x.f1.length * 1048576 ≤ 1048576 * 1048576 := Nat.mul_le_mul_right _ s.2.1.1
  have h3 := s.1.1
  unfold cnt
  omega
noncomputable def markT (x : Tre) (k : Int) : Tre := ⟨markL k x.f0.length, markR (k + 4 * x.f0.length) (x.f1.map List.length), x.f2, x.f3⟩
def Own (base : Nat) (w : World) (lo hi : Nat) (x : Tre) (v0 v1 : Value) : Prop :=
  KC.R TC w base (fun k => some k = v0.ownBlock ∧ lo ≤ k ∧ k < hi) v0 x.f0 ∧ Kd.S KL TL w base (fun k => some k ≠ v0.ownBlock ∧ lo ≤ k ∧ k < hi) v1 x.f1
theorem Own.mk_ {base : Nat} {w W : World} {x : Tre} {v0 v1 : Value} (hb : base ≤ W.heap.size) (h0 : KC.R TC w W.heap.size (fun _ => True) v0 x.f0) (h1 : Kd.S KL TL w W.heap.size (fun k => some k ≠ v0.ownBlock) v1 x.f1) : Own base w W.heap.size w.heap.size x v0 v1 :=
  ⟨Kd.R_lower (Kd.R_mono (Kd.R_bound (Kd.R_tight rfl h0)) (fun k h => ⟨h.1, h.2.1, h.2.2.1⟩)) hb, Kd.S_lower (Kd.S_mono (Kd.S_bound h1) (fun k h => ⟨h.1, h.2.1, h.2.2.1⟩)) hb⟩
theorem Own.kept {base : Nat} {w w' : World} {lo hi : Nat} {x : Tre} {v0 v1 : Value} {S : Nat → Prop} (h : Own base w lo hi x v0 v1) (hk : Kept w w' S) (hn : ∀ k, lo ≤ k → k < hi → ¬ S k) : Own base w' lo hi x v0 v1 :=
  ⟨Kd.R_kept h.1 hk (fun k hk => hn k hk.2.1 hk.2.2), Kd.S_kept h.2 hk (fun k hk => hn k hk.2.1 hk.2.2)⟩
theorem Own.below {base : Nat} {w w' : World} {lo hi : Nat} {x : Tre} {v0 v1 : Value} (h : Own base w lo hi x v0 v1) (hb : Below w.heap.size w w') : Own base w' lo hi x v0 v1 := ⟨Kd.R_below h.1 hb, Kd.S_below h.2 hb⟩
theorem Own.form {base : Nat} {w : World} {lo hi : Nat} {x : Tre} {v0 v1 : Value} (h : Own base w lo hi x v0 v1) : ∃ A c B d, v0 = .slice A x.f0.length c ∧ v1 = .slice B x.f1.length d := by
  obtain ⟨A, c, e, _, _⟩ := Kd.R_reads h.1
  obtain ⟨B, d, e', _, _⟩ := Kd.S_reads h.2
  exact ⟨A, c, B, d, e, e'⟩
theorem Own.tree {base : Nat} {w : World} {lo hi : Nat} {x : Tre} {A B : Option Addr} {n c m d : Nat} (h : Own base w lo hi x (.slice A n c) (.slice B m d)) : TreeC w x A c B d := by
  obtain ⟨e1, e2, e3⟩ := Kd.R_reads' h.1
  obtain ⟨f1, f2, f3⟩ := Kd.S_reads' h.2
  exact ⟨⟨by omega, e3⟩, by omega, f3⟩
theorem to_own (base : Nat) (A B : Option Addr) (c d : Nat) (x : LTre) (W : World) (hb : base ≤ W.heap.size) (h : LTreeC W x A c B d) (s : sm_Tree (to_Tree x)) :
    Calls Try.prog 17 #[.agg #[.slice A x.f0.length c, .slice B x.f1.length d, .int .i64 x.f2, .int .i64 x.f3]] W fun e w' => ∃ A' c' B' d', e = .returned (.agg #[.slice A' (to_Tree x).f0.length c', .slice B' (to_Tree x).f1.length d', .int .i64 (to_Tree x).f2, .int .i64 (to_Tree x).f3]) ∧ Own base w' W.heap.size w'.heap.size (to_Tree x) (.slice A' (to_Tree x).f0.length c') (.slice B' (to_Tree x).f1.length d') ∧ Below W.heap.size W w' := by
  obtain ⟨k, hk⟩ := Ev.rounds (ev_toTree x s)
  refine (laws_toTree.calls k A c _ B d _ _ _ _ _ _ _ W h.1.2 h.1.1 h.2.2 h.2.1 hk).mono ?_
  rintro e w' ⟨v0, v1, rfl, h0, h1, hb'⟩
  have ho := Own.mk_ (x := to_Tree x) hb h0 h1
  obtain ⟨A', c', B', d', rfl, rfl⟩ := ho.form
  exact ⟨A', c', B', d', rfl, ho, hb'⟩
theorem mark_own (w w0 : World) (lo hi : Nat) (x : Tre) (A B : Option Addr) (n c m d : Nat) (s q k : Int) (hB : Below w0.heap.size w0 w) (h : Own w0.heap.size w lo hi x (.slice A n c) (.slice B m d)) (hk : 0 ≤ k) (hl : k + cnt x ≤ 100000000000000) :
    Calls Try.prog 32 #[.agg #[.slice A n c, .slice B m d, .int .i64 s, .int .i64 q], .int .i64 k] w fun e w' => e = .returned (.int .i64 (k + cnt x)) ∧ TreeC w' (markT x k) A c B d ∧ Below w0.heap.size w0 w' ∧ Kept w w' (fun j => lo ≤ j ∧ j < hi) := by
  refine (mark_tree _ _ x.f0 x.f1 s q k _ _ w0 w hB h.1 h.2 (fun j h h' => h'.1 h.1) hk (by unfold cnt at hl; omega)).mono ?_
  rintro e w' ⟨rfl, h0, h1, hb, hkp⟩
  have e1 := Kd.R_reads' h0
  have f1 := Kd.S_reads' h1
  refine ⟨by unfold cnt; congr 2; omega, ⟨⟨?_, e1.2.2⟩, ?_, f1.2.2⟩, hb, hkp.mono (fun j hj => hj.elim (fun h => h.2) (fun h => h.2))⟩
  · show (markL k x.f0.length).length ≤ c
    have := e1.1; omega
  · show (markR (k + 4 * x.f0.length) (x.f1.map List.length)).length ≤ d
    have := f1.1; omega
end Go.Proofs.Ythffllegmkolgaa.TreeK
