/- Joined: FlPure, FlushP. -/
import Derived.Test.YthffllegmkolgaaT5FlushI
namespace Go.Proofs.Ythffllegmkolgaa.TreeK
set_option linter.unusedSimpArgs false
set_option linter.unusedVariables false
theorem cells_facts (least : Int) : ∀ (x : List Cel) (h : List Int) (b : Int) (p : Option Cel) (h' : List Int) (b' : Int), cellsB least h b p x = some (h', b') →
    (∀ c ∈ x, cellB c = true ∧ c.f2 ∉ h) ∧ x.Pairwise (fun a b => a.f2 ≠ b.f2) ∧ (∀ i, i ∈ h' ↔ i ∈ h ∨ ∃ c ∈ x, c.f2 = i) ∧ x.Pairwise (fun a b => aheadB a b = true) ∧ (∀ q ∈ p, ∀ c ∈ x, aheadB q c = true) := by
  intro x
  induction x with
  | nil =>
    intro h b p h' b' e
    simp only [cellsB, Option.some.injEq, Prod.mk.injEq] at e
    obtain ⟨rfl, rfl⟩ := e
    simp
  | cons c cs ih =>
    intro h b p h' b' e
    rw [cellsB] at e
    by_cases hc : cellB c = true ∧ c.f2 ∉ h ∧ c.f2 < least ∧ (∀ q ∈ p, aheadB q c = true)
    case neg => rw [if_neg hc] at e; cases e
    rw [if_pos hc] at e
    obtain ⟨i1, i2, i3, i4, i5⟩ := ih _ _ _ _ _ e
    obtain ⟨c1, c2, _, c4⟩ := hc
    have i5' : ∀ y ∈ cs, aheadB c y = true := i5 c rfl
    refine ⟨fun y hy => ?_, List.pairwise_cons.2 ⟨fun y hy he => ?_, i2⟩, fun i => ?_, List.pairwise_cons.2 ⟨i5', i4⟩, fun q hq y hy => ?_⟩
    · rcases List.mem_cons.1 hy with rfl | hy
      · exact ⟨c1, c2⟩
      · exact ⟨(i1 y hy).1, fun h0 => (i1 y hy).2 (List.mem_cons_of_mem _ h0)⟩
    · exact (i1 y hy).2 (by rw [← he]; exact List.mem_cons_self)
    · rw [i3 i]
      simp only [List.mem_cons]
      constructor
      · rintro ((h0 | h0) | ⟨y, hy, h0⟩)
        · exact .inr ⟨c, .inl rfl, h0.symm⟩
        · exact .inl h0
        · exact .inr ⟨y, .inr hy, h0⟩
      · rintro (h0 | ⟨y, hy | hy, h0⟩)
        · exact .inl (.inr h0)
        · subst hy; exact .inl (.inl h0.symm)
        · exact .inr ⟨y, hy, h0⟩
    · rcases List.mem_cons.1 hy with rfl | hy
      · exact c4 q hq
      · exact ahead_trans (c4 q hq) (i5' y hy)
theorem lists_facts : ∀ (xs : List (List Cel)) (h : List Int) (l : Int) (f : Bool), listsB h l f xs = true →
    (∀ r ∈ xs, ∀ c ∈ r, cellB c = true ∧ c.f2 ∉ h) ∧ xs.flatten.Pairwise (fun a b => a.f2 ≠ b.f2) ∧ ∀ r ∈ xs, r.Pairwise (fun a b => aheadB a b = true) := by
  intro xs
  induction xs with
  | nil => intro h l f _; simp
  | cons x xs ih =>
    intro h l f e
    rw [listsB] at e
    by_cases h0 : f = false ∧ x = []
    · rw [if_pos h0] at e; cases e
    rw [if_neg h0] at e
    cases hx : cellsB l h l none x with
    | none => rw [hx] at e; cases e
    | some q =>
      obtain ⟨h', b'⟩ := q
      rw [hx] at e
      obtain ⟨i1, i2, i3⟩ := ih _ _ _ e
      obtain ⟨c1, c2, c3, c4, _⟩ := cells_facts l x h l none h' b' hx
      refine ⟨fun r hr c hc => ?_, ?_, fun r hr => ?_⟩
      · rcases List.mem_cons.1 hr with rfl | hr
        · exact c1 c hc
        · exact ⟨(i1 r hr c hc).1, fun h2 => (i1 r hr c hc).2 ((c3 _).2 (.inl h2))⟩
      · rw [List.flatten_cons, List.pairwise_append]
        refine ⟨c2, i2, fun a ha b hb he => ?_⟩
        obtain ⟨r, hr, hb⟩ := List.mem_flatten.1 hb
        exact (i1 r hr b hb).2 ((c3 _).2 (.inr ⟨a, ha, he⟩))
      · rcases List.mem_cons.1 hr with rfl | hr
        · exact c4
        · exact i3 r hr
structure TreeR (m : List Cel) (rs : List (List Cel)) (s q : Int) : Prop where
  most : 1 ≤ q ∧ q ≤ 50
  seq : 0 ≤ s ∧ s ≤ 400
  len : (m.length : Int) ≤ q
  runs : rs.length ≤ 6
  cell : ∀ r ∈ m :: rs, ∀ c ∈ r, cellB c = true
  at_ : ∀ r ∈ m :: rs, ∀ c ∈ r, 1 ≤ c.f2 ∧ c.f2 ≤ 400
  tie : noTie (m :: rs).flatten = true
  ord : ∀ r ∈ m :: rs, r.Pairwise (fun a b => aheadB a b = true)
theorem tree_facts {m : List Cel} {rs : List (List Cel)} {s q : Int} (h : treeB m rs s q = true) : TreeR m rs s q := by
  unfold treeB at h
  simp only [Bool.and_eq_true, decide_eq_true_eq, Bool.not_eq_true', decide_eq_false_iff_not] at h
  obtain ⟨⟨⟨⟨h1, h2⟩, h3⟩, h4⟩, h5⟩ := h
  obtain ⟨i1, i2, i3⟩ := lists_facts _ _ _ _ h5
  refine ⟨h1, h2, by omega, by omega, fun r hr c hc => (i1 r hr c hc).1, fun r hr c hc => ?_, ?_, i3⟩
  · have := (i1 r hr c hc).1
    unfold cellB at this
    simp only [Bool.and_eq_true, decide_eq_true_eq] at this
    exact this.2
  · unfold noTie
    exact decide_eq_true (i2.imp (fun {a b} hab => (apart_iff a b).2 (fun hh => hab hh.2)))
theorem srtOn_eq {a b : List Cel} (ha : a.Pairwise (fun a b => aheadB a b = true)) (hn : noTie (a ++ b) = true) : srtOn a b = srt (a ++ b) := by
  refine sorted_one (srtOn_sorted b a ha hn) (srtOn_sorted (a ++ b) [] List.Pairwise.nil (by simpa using hn)) ?_
  have h1 := srtOn_perm b a
  have h2 := srtOn_perm (a ++ b) []
  rw [List.nil_append] at h2
  exact h1.trans h2.symm
def flT (x : Tre) : Tre := if trB x = true then ⟨[], flR x.f0 x.f1, x.f2, x.f3⟩ else ⟨[], [], 0, 0⟩
end Go.Proofs.Ythffllegmkolgaa.TreeK

namespace Go.Proofs.Ythffllegmkolgaa.TreeK
open Go.RowKit Go.Proofs.YthffllegmkolgaaW.PrintWords Go.Proofs.YthffllegmkolgaaW.PrintLast Go.Proofs.YthffllegmkolgaaW.PrintMore Go.Proofs.Ythffllegmkolgaa.QTree Go.Proofs.Ythffllegmkolgaa.EvKit Go.Proofs.Ythffllegmkolgaa.GTree
set_option linter.unusedSimpArgs false
set_option linter.unusedVariables false
set_option maxHeartbeats 600000 in
set_option maxRecDepth 100000 in
theorem flush_none (w0 w : World) (g : Nat) (A B : Option Addr) (c d : Nat) (rs : List (List Cel)) (s q : Int) (hB : Below w0.heap.size w0 w) (bk : blkT w g (.slice A 0 c) (.slice B rs.length d) s q) (hr : rs.length ≤ 6) :
    Calls Try.prog 71 #[.pointer (some ⟨g, 0, none⟩)] w fun e w' => e = .returned (.tuple #[]) ∧ w'.heap = w.heap ∧ Below w0.heap.size w0 w' ∧ Kept w w' (fun k => k = g) := by
  have HB := zA hB
  obtain ⟨BK0, BK1, BK2, BK3⟩ := keep4 bk
  have h6 : ¬ (6 : Int) < (rs.length : Int) := by omega
  clear hB bk
  go_enter Try.func71, Try.ntmps71
  go_wp2
  go_returns
  exact ⟨rfl, rfl, by first | exact HB.out | exact pw_below_drewN HB.out _, by first | exact Kept.refl _ _ | exact (Kept.refl _ _).drewN _⟩
theorem flush_calls (base : Nat) (w0 w : World) (g : Nat) (v0 v1 : Value) (m : List Cel) (rs : List (List Cel)) (s q : Int) (P : Nat → Prop) (hB : Below w0.heap.size w0 w) (hg : w0.heap.size ≤ g) (hbs : w0.heap.size ≤ base) (hbw : base ≤ w.heap.size)
    (bk : blkT w g v0 v1 s q) (h0 : KC.R TC w base P v0 m) (h1 : Kd.S KL TL w base (fun k => some k ≠ v0.ownBlock ∧ P k) v1 rs) (hf : Fit m rs) (ht : TreeR m rs s q) :
    Calls Try.prog 71 #[.pointer (some ⟨g, 0, none⟩)] w fun e w' => e = .returned (.tuple #[]) ∧ ∃ v0' v1', blkT w' g v0' v1' s q ∧ KC.R TC w' base P v0' [] ∧ Kd.S KL TL w' base (fun k => some k ≠ v0'.ownBlock ∧ (P k ∨ w.heap.size ≤ k)) v1' (flR m rs) ∧ Below w0.heap.size w0 w' ∧ Kept w w' (fun k => k = g) := by
  obtain ⟨A, c, rfl⟩ := Kd.R_slice h0
  obtain ⟨B, d, rfl⟩ := Kd.S_slice h1
  by_cases hm : m = []
  · subst hm
    refine (flush_none w0 w g A B c d rs s q hB bk ht.runs).mono ?_
    rintro e w' ⟨rfl, hh, hb, hk⟩
    refine ⟨rfl, _, _, by unfold blkT; rw [hh]; exact bk, Kd.R_step h0 (fun k _ _ => by rw [hh]), ?_, hb, hk⟩
    rw [flR, if_pos rfl]
    exact Kd.S_mono (Kd.S_step h1 (fun k _ _ => by rw [hh])) (fun k h => ⟨h.1, .inl h.2⟩)
  · refine (flush_one base w0 w g A B c d m rs s q hB hg hbs hbw bk P h0 h1 hf ht.runs ht.at_ ht.tie hm).mono ?_
    rintro e w' ⟨rfl, v1', hbk, hS, hb, hk⟩
    refine ⟨rfl, _, v1', hbk, Kd.R_nil _ _ _ _ _, ?_, hb, hk⟩
    rw [flR, if_neg hm]
    exact Kd.S_mono hS (fun k h => ⟨by simp [Value.ownBlock], h⟩)
theorem fit_of (x : Tre) (s : sm_Tree x) : Fit x.f0 x.f1 := ⟨s.1.1, s.2.1.1, fun r hr => (s.2.1.2 r hr).1⟩
def put4 (w : World) (g : Nat) (a b : Value) (x y : Int) : World := (((w.setCell ⟨g, 0, none⟩ a).setCell ⟨g, 1, none⟩ b).setCell ⟨g, 2, none⟩ (.int .i64 x)).setCell ⟨g, 3, none⟩ (.int .i64 y)
theorem put4_blk {w : World} {g : Nat} {a b v0 v1 : Value} {x y s q : Int} (h : blkT w g v0 v1 s q) : blkT (put4 w g a b x y) g a b x y := blk_put (blk_put (blk_put (blk_put h 0 a rfl) 1 b rfl) 2 (.int .i64 x) rfl) 3 (.int .i64 y) rfl
theorem put4_far {w : World} {g g' : Nat} {a b v0 v1 : Value} {x y s q : Int} (h : blkT w g' v0 v1 s q) (hne : g' ≠ g) : blkT (put4 w g a b x y) g' v0 v1 s q := blk_far (blk_far (blk_far (blk_far h hne a) hne b) hne (.int .i64 x)) hne (.int .i64 y)
theorem put4_R {w : World} {g base : Nat} {a b v0 v1 u : Value} {x y s q : Int} {ok : Nat → Prop} {l : List Cel} (h : blkT w g v0 v1 s q) (hR : KC.R TC w base ok u l) : KC.R TC (put4 w g a b x y) base ok u l := by
  have hR' := Kd.R_types hR h (by decide)
  exact Kd.R_mono (Kd.R_far (p := ⟨g, 3, none⟩) (Kd.R_far (p := ⟨g, 2, none⟩) (Kd.R_far (p := ⟨g, 1, none⟩) (Kd.R_far (p := ⟨g, 0, none⟩) hR' (fun _ hk => hk.2) a) (fun _ hk => hk.2) b) (fun _ hk => hk.2) (.int .i64 x)) (fun _ hk => hk.2) (.int .i64 y)) (fun _ hk => hk.1)
theorem put4_S {w : World} {g base : Nat} {a b v0 v1 u : Value} {x y s q : Int} {ok : Nat → Prop} {l : List (List Cel)} (h : blkT w g v0 v1 s q) (hR : Kd.S KL TL w base ok u l) : Kd.S KL TL (put4 w g a b x y) base ok u l := by
  have hR' := Kd.S_types hR h (by decide)
  exact Kd.S_mono (Kd.S_far (p := ⟨g, 3, none⟩) (Kd.S_far (p := ⟨g, 2, none⟩) (Kd.S_far (p := ⟨g, 1, none⟩) (Kd.S_far (p := ⟨g, 0, none⟩) hR' (fun _ hk => hk.2) a) (fun _ hk => hk.2) b) (fun _ hk => hk.2) (.int .i64 x)) (fun _ hk => hk.2) (.int .i64 y)) (fun _ hk => hk.1)
theorem put4_below {w0 w : World} {g : Nat} {a b : Value} {x y : Int} (h : Below w0.heap.size w0 w) (hg : w0.heap.size ≤ g) : Below w0.heap.size w0 (put4 w g a b x y) := below_set (below_set (below_set (below_set h hg) hg) hg) hg
theorem put4_size (w : World) (g : Nat) (a b : Value) (x y : Int) : (put4 w g a b x y).heap.size = w.heap.size := by simp [put4, World.setCell]
end Go.Proofs.Ythffllegmkolgaa.TreeK
