/- Joined: FlushP, FlOwn. -/
import Derived.Test.YthffllegmkolgaaT11ChPure
import Derived.Test.YthffllegmkolgaaT11QTreex15
namespace Go.Proofs.Ythffllegmkolgaa.TreeK
open Go.RowKit Go.Proofs.YthffllegmkolgaaW.PrintWords Go.Proofs.YthffllegmkolgaaW.PrintLast Go.Proofs.YthffllegmkolgaaW.PrintMore Go.Proofs.Ythffllegmkolgaa.QTree Go.Proofs.Ythffllegmkolgaa.EvKit Go.Proofs.Ythffllegmkolgaa.GTree
set_option linter.unusedSimpArgs false
set_option linter.unusedVariables false
set_option maxHeartbeats 600000 in
set_option maxRecDepth 100000 in
theorem flush_none (w0 w : World) (g : Nat) (A B : Option Addr) (c d : Nat) (rs : List (List Cel)) (s q : Int) (hB : Below w0.heap.size w0 w) (bk : blkT w g (.slice A 0 c) (.slice B rs.length d) s q) (hr : rs.length ≤ 6) :
    Calls Try.prog 71 #[.pointer (some ⟨g, 0, none⟩)] w fun e w' => e = .returned (.tuple #[]) ∧ w'.heap = w.heap ∧ Below w0.heap.size w0 w' ∧ Kept w w' (fun k => k = g) := by
  have HB := zA hB
  obtain ⟨BK0, BK1, BK2, BK3⟩ := keep4 bk
  have h6 : ¬ (6 : Int) < (rs.length : Int) := by omega
  clear hB bk
  go_enter Try.func71, Try.ntmps71
  go_wp2
  go_returns
  exact ⟨rfl, rfl, by first | exact HB.out | exact pw_below_drewN HB.out _, by first | exact Kept.refl _ _ | exact (Kept.refl _ _).drewN _⟩
theorem flush_calls (base : Nat) (w0 w : World) (g : Nat) (v0 v1 : Value) (m : List Cel) (rs : List (List Cel)) (s q : Int) (P : Nat → Prop) (hB : Below w0.heap.size w0 w) (hg : w0.heap.size ≤ g) (hbs : w0.heap.size ≤ base) (hbw : base ≤ w.heap.size)
    (bk : blkT w g v0 v1 s q) (h0 : KC.R TC w base P v0 m) (h1 : Kd.S KL TL w base (fun k => some k ≠ v0.ownBlock ∧ P k) v1 rs) (hf : Fit m rs) (ht : TreeR m rs s q) :
    Calls Try.prog 71 #[.pointer (some ⟨g, 0, none⟩)] w fun e w' => e = .returned (.tuple #[]) ∧ ∃ v0' v1', blkT w' g v0' v1' s q ∧ KC.R TC w' base P v0' [] ∧ Kd.S KL TL w' base (fun k => some k ≠ v0'.ownBlock ∧ (P k ∨ w.heap.size ≤ k)) v1' (flR m rs) ∧ Below w0.heap.size w0 w' ∧ Kept w w' (fun k => k = g) := by
  obtain ⟨A, c, rfl⟩ := Kd.R_slice h0
  obtain ⟨B, d, rfl⟩ := Kd.S_slice h1
  by_cases hm : m = []
  · subst hm
    refine (flush_none w0 w g A B c d rs s q hB bk ht.runs).mono ?_
    rintro e w' ⟨rfl, hh, hb, hk⟩
    refine ⟨rfl, _, _, by unfold blkT; rw [hh]; exact bk, Kd.R_step h0 (fun k _ _ => by rw [hh]), ?_, hb, hk⟩
    rw [flR, if_pos rfl]
    exact Kd.S_mono (Kd.S_step h1 (fun k _ _ => by rw [hh])) (fun k h => ⟨h.1, .inl h.2⟩)
  · refine (flush_one base w0 w g A B c d m rs s q hB hg hbs hbw bk P h0 h1 hf ht.runs ht.at_ ht.tie hm).mono ?_
    rintro e w' ⟨rfl, v1', hbk, hS, hb, hk⟩
    refine ⟨rfl, _, v1', hbk, Kd.R_nil _ _ _ _ _, ?_, hb, hk⟩
    rw [flR, if_neg hm]
    exact Kd.S_mono hS (fun k h => ⟨by simp [Value.ownBlock], h⟩)
theorem fit_of (x : Tre) (s : sm_Tree x) : Fit x.f0 x.f1 := ⟨s.1.1, s.2.1.1, fun r hr => (s.2.1.2 r hr).1⟩
def put4 (w : World) (g : Nat) (a b : Value) (x y : Int) : World := (((w.setCell ⟨g, 0, none⟩ a).setCell ⟨g, 1, none⟩ b).setCell ⟨g, 2, none⟩ (.int .i64 x)).setCell ⟨g, 3, none⟩ (.int .i64 y)
theorem put4_blk {w : World} {g : Nat} {a b v0 v1 : Value} {x y s q : Int} (h : blkT w g v0 v1 s q) : blkT (put4 w g a b x y) g a b x y := blk_put (blk_put (blk_put (blk_put h 0 a rfl) 1 b rfl) 2 (.int .i64 x) rfl) 3 (.int .i64 y) rfl
theorem put4_far {w : World} {g g' : Nat} {a b v0 v1 : Value} {x y s q : Int} (h : blkT w g' v0 v1 s q) (hne : g' ≠ g) : blkT (put4 w g a b x y) g' v0 v1 s q := blk_far (blk_far (blk_far (blk_far h hne a) hne b) hne (.int .i64 x)) hne (.int .i64 y)
theorem put4_R {w : World} {g base : Nat} {a b v0 v1 u : Value} {x y s q : Int} {ok : Nat → Prop} {l : List Cel} (h : blkT w g v0 v1 s q) (hR : KC.R TC w base ok u l) : KC.R TC (put4 w g a b x y) base ok u l := by
  have hR' := Kd.R_types hR h (by decide)
  exact Kd.R_mono (Kd.R_far (p := ⟨g, 3, none⟩) (Kd.R_far (p := ⟨g, 2, none⟩) (Kd.R_far (p := ⟨g, 1, none⟩) (Kd.R_far (p := ⟨g, 0, none⟩) hR' (fun _ hk => hk.2) a) (fun _ hk => hk.2) b) (fun _ hk => hk.2) (.int .i64 x)) (fun _ hk => hk.2) (.int .i64 y)) (fun _ hk => hk.1)
theorem put4_S {w : World} {g base : Nat} {a b v0 v1 u : Value} {x y s q : Int} {ok : Nat → Prop} {l : List (List Cel)} (h : blkT w g v0 v1 s q) (hR : Kd.S KL TL w base ok u l) : Kd.S KL TL (put4 w g a b x y) base ok u l := by
  have hR' := Kd.S_types hR h (by decide)
  exact Kd.S_mono (Kd.S_far (p := ⟨g, 3, none⟩) (Kd.S_far (p := ⟨g, 2, none⟩) (Kd.S_far (p := ⟨g, 1, none⟩) (Kd.S_far (p := ⟨g, 0, none⟩) hR' (fun _ hk => hk.2) a) (fun _ hk => hk.2) b) (fun _ hk => hk.2) (.int .i64 x)) (fun _ hk => hk.2) (.int .i64 y)) (fun _ hk => hk.1)
theorem put4_below {w0 w : World} {g : Nat} {a b : Value} {x y : Int} (h : Below w0.heap.size w0 w) (hg : w0.heap.size ≤ g) : Below w0.heap.size w0 (put4 w g a b x y) := below_set (below_set (below_set (below_set h hg) hg) hg) hg
theorem put4_size (w : World) (g : Nat) (a b : Value) (x y : Int) : (put4 w g a b x y).heap.size = w.heap.size := by simp [put4, World.setCell]
end Go.Proofs.Ythffllegmkolgaa.TreeK

namespace Go.Proofs.Ythffllegmkolgaa.TreeK
open Go.RowKit Go.Proofs.YthffllegmkolgaaW.PrintWords Go.Proofs.YthffllegmkolgaaW.PrintLast Go.Proofs.YthffllegmkolgaaW.PrintMore Go.Proofs.Ythffllegmkolgaa.QTree Go.Proofs.Ythffllegmkolgaa.EvKit Go.Proofs.Ythffllegmkolgaa.GTree
set_option linter.unusedSimpArgs false
set_option linter.unusedVariables false
theorem pigeon : ∀ (n : Nat) (l : List Int), l.Pairwise (fun a b => a ≠ b) → (∀ i ∈ l, 1 ≤ i ∧ i ≤ n) → l.length ≤ n := by
  intro n
  induction n with
  | zero =>
    intro l _ h
    match l, h with
    | [], _ => exact Nat.le_refl _
    | i :: _, h => have := h i List.mem_cons_self; omega
  | succ n ih =>
    intro l hp h
    have hd : ∀ (l : List Int), l.Pairwise (fun a b => a ≠ b) → (∀ i ∈ l, 1 ≤ i ∧ i ≤ (n + 1 : Nat)) → l.length ≤ (l.filter (fun i => decide (i ≠ ((n + 1 : Nat) : Int)))).length + 1 ∧ (((n + 1 : Nat) : Int) ∉ l → l.length = (l.filter (fun i => decide (i ≠ ((n + 1 : Nat) : Int)))).length) := by
      intro l
      induction l with
      | nil => intro _ _; simp
      | cons i l il =>
        intro hp h
        obtain ⟨hi, hp'⟩ := List.pairwise_cons.1 hp
        obtain ⟨a1, a2⟩ := il hp' (fun j hj => h j (List.mem_cons_of_mem _ hj))
        by_cases he : i = ((n + 1 : Nat) : Int)
        · have hn : ((n + 1 : Nat) : Int) ∉ l := fun hm => hi _ hm he
          have := a2 hn
          rw [List.filter_cons_of_neg (by simp [he])]
          exact ⟨by simp only [List.length_cons]; omega, fun h0 => absurd (by rw [he]; exact List.mem_cons_self) h0⟩
        · rw [List.filter_cons_of_pos (by simpa using he)]
          exact ⟨by simp only [List.length_cons]; omega, fun h0 => by have := a2 (fun hm => h0 (List.mem_cons_of_mem _ hm)); simp only [List.length_cons]; omega⟩
    have h1 := (hd l hp h).1
    have h2 := ih (l.filter (fun i => decide (i ≠ ((n + 1 : Nat) : Int)))) (hp.sublist List.filter_sublist) (fun i hi => by
      obtain ⟨hm, hn⟩ := List.mem_filter.1 hi
      have := h i hm
      have hn' : i ≠ ((n + 1 : Nat) : Int) := by simpa using hn
      omega)
    omega
theorem few_cells {m : List Cel} {rs : List (List Cel)} {s q : Int} (h : treeB m rs s q = true) : (m :: rs).flatten.length ≤ 400 := by
  have h0 := h
  unfold treeB at h
  simp only [Bool.and_eq_true] at h
  obtain ⟨_, i2, _⟩ := lists_facts _ _ _ _ h.2
  have := pigeon 400 ((m :: rs).flatten.map (·.f2)) (List.pairwise_map.2 i2) (fun i hi => by
    obtain ⟨c, hc, rfl⟩ := List.mem_map.1 hi
    obtain ⟨r, hr, hc⟩ := List.mem_flatten.1 hc
    exact (tree_facts h0).at_ r hr c hc)
  rw [List.length_map] at this
  exact this
theorem srt_mem {l : List Cel} {c : Cel} (h : c ∈ srt l) : c ∈ l := by
  have := (srtOn_perm l []).mem_iff.1 h
  simpa using this
theorem srt_len (l : List Cel) : (srt l).length = l.length := by
  have := (srtOn_perm l []).length_eq
  simpa [srt] using this
theorem row_len {r : List Cel} {ls : List (List Cel)} (h : r ∈ ls) : r.length ≤ ls.flatten.length := by
  induction ls with
  | nil => cases h
  | cons x xs ih =>
    rw [List.flatten_cons, List.length_append]
    rcases List.mem_cons.1 h with rfl | h
    · omega
    · have := ih h; omega
theorem joinL_row {ls : List (List Cel)} {r : List Cel} (h : r ∈ joinL ls) : r.length ≤ 2 * ls.flatten.length ∧ ∀ c ∈ r, ∃ y ∈ ls, c ∈ y := by
  unfold joinL at h
  by_cases h6 : ls.length > 6
  · rw [if_pos h6] at h
    rcases List.mem_append.1 h with h | h
    · have hm := List.mem_of_mem_take h
      have := row_len hm
      exact ⟨by omega, fun c hc => ⟨r, hm, hc⟩⟩
    · rw [List.mem_singleton] at h
      subst h
      have g1 : ls.getD (ls.length - 2) [] ∈ ls := by
        rw [List.getD_eq_getElem?_getD, List.getElem?_eq_getElem (by omega)]
        exact List.getElem_mem _
      have g2 : ls.getD (ls.length - 1) [] ∈ ls := by
        rw [List.getD_eq_getElem?_getD, List.getElem?_eq_getElem (by omega)]
        exact List.getElem_mem _
      have l1 := row_len g1
      have l2 := row_len g2
      refine ⟨by rw [srt_len, List.length_append]; omega, fun c hc => ?_⟩
      rcases List.mem_append.1 (srt_mem hc) with h | h
      · exact ⟨_, g1, h⟩
      · exact ⟨_, g2, h⟩
  · rw [if_neg h6] at h
    have := row_len h
    exact ⟨by omega, fun c hc => ⟨r, h, hc⟩⟩
def cnt (x : Tre) : Int := 4 * x.f0.length + 4 * sumL (x.f1.map List.length)
def Own (base : Nat) (w : World) (lo hi : Nat) (x : Tre) (v0 v1 : Value) : Prop :=
  KC.R TC w base (fun k => some k = v0.ownBlock ∧ lo ≤ k ∧ k < hi) v0 x.f0 ∧ Kd.S KL TL w base (fun k => some k ≠ v0.ownBlock ∧ lo ≤ k ∧ k < hi) v1 x.f1
theorem Own.kept {base : Nat} {w w' : World} {lo hi : Nat} {x : Tre} {v0 v1 : Value} {S : Nat → Prop} (h : Own base w lo hi x v0 v1) (hk : Kept w w' S) (hn : ∀ k, lo ≤ k → k < hi → ¬ S k) : Own base w' lo hi x v0 v1 :=
  ⟨Kd.R_kept h.1 hk (fun k hk => hn k hk.2.1 hk.2.2), Kd.S_kept h.2 hk (fun k hk => hn k hk.2.1 hk.2.2)⟩
theorem Own.below {base : Nat} {w w' : World} {lo hi : Nat} {x : Tre} {v0 v1 : Value} (h : Own base w lo hi x v0 v1) (hb : Below w.heap.size w w') : Own base w' lo hi x v0 v1 := ⟨Kd.R_below h.1 hb, Kd.S_below h.2 hb⟩
theorem Own.form {base : Nat} {w : World} {lo hi : Nat} {x : Tre} {v0 v1 : Value} (h : Own base w lo hi x v0 v1) : ∃ A c B d, v0 = .slice A x.f0.length c ∧ v1 = .slice B x.f1.length d := by
  obtain ⟨A, c, e, _, _⟩ := Kd.R_reads h.1
  obtain ⟨B, d, e', _, _⟩ := Kd.S_reads h.2
  exact ⟨A, c, B, d, e, e'⟩
end Go.Proofs.Ythffllegmkolgaa.TreeK
