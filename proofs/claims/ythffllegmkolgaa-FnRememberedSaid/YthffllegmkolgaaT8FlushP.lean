/- The program's Flush, called. -/
import Derived.Test.YthffllegmkolgaaT8ChPure
namespace Go.Proofs.Ythffllegmkolgaa.TreeK
open Go.RowKit Go.Proofs.YthffllegmkolgaaW.PrintWords Go.Proofs.YthffllegmkolgaaW.PrintLast Go.Proofs.YthffllegmkolgaaW.PrintMore Go.Proofs.Ythffllegmkolgaa.QTree Go.Proofs.Ythffllegmkolgaa.EvKit Go.Proofs.Ythffllegmkolgaa.GTree
set_option linter.unusedSimpArgs false
set_option linter.unusedVariables false
set_option maxHeartbeats 600000 in
set_option maxRecDepth 100000 in
theorem flush_none (w0 w : World) (g : Nat) (A B : Option Addr) (c d : Nat) (rs : List (List Cel)) (s q : Int) (hB : Below w0.heap.size w0 w) (bk : blkT w g (.slice A 0 c) (.slice B rs.length d) s q) (hr : rs.length ≤ 6) :
    Calls Try.prog 71 #[.pointer (some ⟨g, 0, none⟩)] w fun e w' => e = .returned (.tuple #[]) ∧ w'.heap = w.heap ∧ Below w0.heap.size w0 w' ∧ Kept w w' (fun k => k = g) := by
  have HB := zA hB
  obtain ⟨BK0, BK1, BK2, BK3⟩ := keep4 bk
  have h6 : ¬ (6 : Int) < (rs.length : Int) := by omega
  clear hB bk
  go_enter Try.func71, Try.ntmps71
  go_wp2
  go_returns
  exact ⟨rfl, rfl, by first | exact HB.out | exact pw_below_drewN HB.out _, by first | exact Kept.refl _ _ | exact (Kept.refl _ _).drewN _⟩
theorem flush_calls (base : Nat) (w0 w : World) (g : Nat) (v0 v1 : Value) (m : List Cel) (rs : List (List Cel)) (s q : Int) (P : Nat → Prop) (hB : Below w0.heap.size w0 w) (hg : w0.heap.size ≤ g) (hbs : w0.heap.size ≤ base) (hbw : base ≤ w.heap.size)
    (bk : blkT w g v0 v1 s q) (h0 : KC.R TC w base P v0 m) (h1 : Kd.S KL TL w base (fun k => some k ≠ v0.ownBlock ∧ P k) v1 rs) (hf : Fit m rs) (ht : TreeR m rs s q) :
    Calls Try.prog 71 #[.pointer (some ⟨g, 0, none⟩)] w fun e w' => e = .returned (.tuple #[]) ∧ ∃ v0' v1', blkT w' g v0' v1' s q ∧ KC.R TC w' base P v0' [] ∧ Kd.S KL TL w' base (fun k => some k ≠ v0'.ownBlock ∧ (P k ∨ w.heap.size ≤ k)) v1' (flR m rs) ∧ Below w0.heap.size w0 w' ∧ Kept w w' (fun k => k = g) := by
  obtain ⟨A, c, rfl⟩ := Kd.R_slice h0
  obtain ⟨B, d, rfl⟩ := Kd.S_slice h1
  by_cases hm : m = []
  · subst hm
    refine (flush_none w0 w g A B c d rs s q hB bk ht.runs).mono ?_
    rintro e w' ⟨rfl, hh, hb, hk⟩
    refine ⟨rfl, _, _, by unfold blkT; rw [hh]; exact bk, Kd.R_step h0 (fun k _ _ => by rw [hh]), ?_, hb, hk⟩
    rw [flR, if_pos rfl]
    exact Kd.S_mono (Kd.S_step h1 (fun k _ _ => by rw [hh])) (fun k h => ⟨h.1, .inl h.2⟩)
  · refine (flush_one base w0 w g A B c d m rs s q hB hg hbs hbw bk P h0 h1 hf ht.runs ht.at_ ht.tie hm).mono ?_
    rintro e w' ⟨rfl, v1', hbk, hS, hb, hk⟩
    refine ⟨rfl, _, v1', hbk, Kd.R_nil _ _ _ _ _, ?_, hb, hk⟩
    rw [flR, if_neg hm]
    exact Kd.S_mono hS (fun k h => ⟨by simp [Value.ownBlock], h⟩)
theorem fit_of (x : Tre) (s : sm_Tree x) : Fit x.f0 x.f1 := ⟨s.1.1, s.2.1.1, fun r hr => (s.2.1.2 r hr).1⟩
def put4 (w : World) (g : Nat) (a b : Value) (x y : Int) : World := (((w.setCell ⟨g, 0, none⟩ a).setCell ⟨g, 1, none⟩ b).setCell ⟨g, 2, none⟩ (.int .i64 x)).setCell ⟨g, 3, none⟩ (.int .i64 y)
theorem put4_blk {w : World} {g : Nat} {a b v0 v1 : Value} {x y s q : Int} (h : blkT w g v0 v1 s q) : blkT (put4 w g a b x y) g a b x y := blk_put (blk_put (blk_put (blk_put h 0 a rfl) 1 b rfl) 2 (.int .i64 x) rfl) 3 (.int .i64 y) rfl
theorem put4_far {w : World} {g g' : Nat} {a b v0 v1 : Value} {x y s q : Int} (h : blkT w g' v0 v1 s q) (hne : g' ≠ g) : blkT (put4 w g a b x y) g' v0 v1 s q := blk_far (blk_far (blk_far (blk_far h hne a) hne b) hne (.int .i64 x)) hne (.int .i64 y)
theorem put4_R {w : World} {g base : Nat} {a b v0 v1 u : Value} {x y s q : Int} {ok : Nat → Prop} {l : List Cel} (h : blkT w g v0 v1 s q) (hR : KC.R TC w base ok u l) : KC.R TC (put4 w g a b x y) base ok u l := by
  have hR' := Kd.R_types hR h (by decide)
  exact Kd.R_mono (Kd.R_far (p := ⟨g, 3, none⟩) (Kd.R_far (p := ⟨g, 2, none⟩) (Kd.R_far (p := ⟨g, 1, none⟩) (Kd.R_far (p := ⟨g, 0, none⟩) hR' (fun _ hk => hk.2) a) (fun _ hk => hk.2) b) (fun _ hk => hk.2) (.int .i64 x)) (fun _ hk => hk.2) (.int .i64 y)) (fun _ hk => hk.1)
theorem put4_S {w : World} {g base : Nat} {a b v0 v1 u : Value} {x y s q : Int} {ok : Nat → Prop} {l : List (List Cel)} (h : blkT w g v0 v1 s q) (hR : Kd.S KL TL w base ok u l) : Kd.S KL TL (put4 w g a b x y) base ok u l := by
  have hR' := Kd.S_types hR h (by decide)
  exact Kd.S_mono (Kd.S_far (p := ⟨g, 3, none⟩) (Kd.S_far (p := ⟨g, 2, none⟩) (Kd.S_far (p := ⟨g, 1, none⟩) (Kd.S_far (p := ⟨g, 0, none⟩) hR' (fun _ hk => hk.2) a) (fun _ hk => hk.2) b) (fun _ hk => hk.2) (.int .i64 x)) (fun _ hk => hk.2) (.int .i64 y)) (fun _ hk => hk.1)
theorem put4_below {w0 w : World} {g : Nat} {a b : Value} {x y : Int} (h : Below w0.heap.size w0 w) (hg : w0.heap.size ≤ g) : Below w0.heap.size w0 (put4 w g a b x y) := below_set (below_set (below_set (below_set h hg) hg) hg) hg
theorem put4_size (w : World) (g : Nat) (a b : Value) (x y : Int) : (put4 w g a b x y).heap.size = w.heap.size := by simp [put4, World.setCell]
set_option maxHeartbeats 1600000 in
set_option maxRecDepth 100000 in
theorem flush_impl (A B : Option Addr) (c d : Nat) (x : Tre) (w : World) (h : TreeC w x A c B d) (sm : sm_Tree x) :
    Calls Try.prog 25 #[.agg #[.slice A x.f0.length c, .slice B x.f1.length d, .int .i64 x.f2, .int .i64 x.f3]] w fun e w' => ∃ v0 v1 : Value, e = .returned (.agg #[v0, v1, .int .i64 (flT x).f2, .int .i64 (flT x).f3]) ∧ KC.R TC w' w.heap.size (fun _ => True) v0 (flT x).f0 ∧ Kd.S KL TL w' w.heap.size (fun k => some k ≠ v0.ownBlock) v1 (flT x).f1 ∧ Below w.heap.size w w' := by
  have HM := zA h
  have SM := zA sm
  clear h sm
  have hu31 := Try.underlying31
  have hb1 := bel_alloc w (.cells #[.slice A x.f0.length c, .slice B x.f1.length d, .int .i64 x.f2, .int .i64 x.f3] 31)
  have B1 := zA (blk_new w (.cells #[.slice A x.f0.length c, .slice B x.f1.length d, .int .i64 x.f2, .int .i64 x.f3] 31))
  go_enter Try.func25, Try.ntmps25
  go_upto_region 1 with (fail)
  obtain ⟨W, hW⟩ : ∃ W, W = (w.alloc (.cells #[.slice A x.f0.length c, .slice B x.f1.length d, .int .i64 x.f2, .int .i64 x.f3] 31)).alloc (.cells #[.slice none 0 0, .slice none 0 0, .int .i64 0, .int .i64 0] 31) := ⟨_, rfl⟩
  obtain ⟨g1, hg1⟩ : ∃ g1, g1 = w.heap.size := ⟨_, rfl⟩
  obtain ⟨g2, hg2⟩ : ∃ g2, g2 = w.heap.size + 1 := ⟨_, rfl⟩
  have B2 : Aside0 (blkT W g2 (.slice none 0 0) (.slice none 0 0) 0 0) := ⟨by
    have h := blk_new (w.alloc (.cells #[.slice A x.f0.length c, .slice B x.f1.length d, .int .i64 x.f2, .int .i64 x.f3] 31)) (.cells #[.slice none 0 0, .slice none 0 0, .int .i64 0, .int .i64 0] 31)
    rw [show (w.alloc (.cells #[.slice A x.f0.length c, .slice B x.f1.length d, .int .i64 x.f2, .int .i64 x.f3] 31)).heap.size = g2 from by rw [hg2]; exact Array.size_push _, ← hW] at h
    exact h⟩
  replace B1 : Aside0 (blkT W g1 (.slice A x.f0.length c) (.slice B x.f1.length d) x.f2 x.f3) := ⟨by rw [hW, hg1]; exact blk_alloc B1.out _⟩
  have HB : Aside0 (Below w.heap.size w W) := ⟨by rw [hW]; exact bel hb1 (bel_alloc _ _)⟩
  have HG : Aside0 (w.heap.size ≤ g1 ∧ w.heap.size ≤ g2 ∧ g2 ≠ g1) := ⟨by omega⟩
  rw [← hW, ← hg2, ← hg1]
  clear hW hg1 hg2 hb1
  obtain ⟨b10, b11, b12, b13⟩ := keep4 B1.out
  have HC := zA (call_tree_impl A B c d x W (HM.out.below HB.out) SM.out)
  have HT : Aside0 (TreeC W x A c B d) := ⟨HM.out.below HB.out⟩
  cases ht : trB x
  · have HF := zA ht
    rw [ht] at HC
    clear ht
    go_wp2_with (go_at_call 18; refine HC.out.mono ?_; rintro e w' ⟨rfl, hb⟩; replace B2 := zA (blk_below B2.out hb); replace HB := zA (bel HB.out hb); clear hb b10 b11 b12 b13; obtain ⟨c10, c11, c12, c13⟩ := keep4 B2.out; have cf0 := blk_frozen B2.out 0; have cf1 := blk_frozen B2.out 1; have cf2 := blk_frozen B2.out 2; have cf3 := blk_frozen B2.out 3)
    refine bodyPost_ret (results_cell_row rfl _ _ g2 31 #[.slice none 0 0, .slice none 0 0, .int .i64 0, .int .i64 0] (0, 0) _ rfl (put4_blk B2.out) Try.underlying31 rfl (by kernel_rfl)) rfl ?_
    have hT : flT x = ⟨[], [], 0, 0⟩ := by rw [flT, HF.out]; rfl
    rw [hT]
    exact ⟨_, _, rfl, Kd.R_nil _ _ _ _ _, Kd.S_nil _ _ _ _ _, put4_below HB.out HG.out.2.1⟩
  · have HF := zA ht
    rw [ht] at HC
    clear ht
    have HR := zA (tree_facts HF.out)
    go_wp2_with (first
      | (go_at_call 18; refine HC.out.mono ?_; rintro e w' ⟨rfl, hb⟩; replace B2 := zA (blk_below B2.out hb); replace B1 := zA (blk_below B1.out hb); replace HB := zA (bel HB.out hb); replace HT := zA (HT.out.below hb); clear hb b10 b11 b12 b13; obtain ⟨b10, b11, b12, b13⟩ := keep4 B1.out)
      | (go_at_call 70; refine (call_copy_impl A B c d x _ HT.out (fit_of x SM.out)).mono ?_; rintro e w5 ⟨v0, v1, rfl, hR0, hS0, hb⟩; have HL2 := zA (blk_lt B2.out); replace B2 := zA (blk_below B2.out hb); replace B1 := zA (blk_below B1.out hb); have HBS := zA (And.intro HB.out.size hb.size); replace HB := zA (bel HB.out hb); clear hb b10 b11 b12 b13; obtain ⟨A5, c5, rfl⟩ := Kd.R_slice hR0; obtain ⟨B5, d5, rfl⟩ := Kd.S_slice hS0; have R0 := zA hR0; have S0 := zA hS0; clear hR0 hS0; obtain ⟨b10, b11, b12, b13⟩ := keep4 B1.out; have cf0 := blk_frozen B1.out 0; have cf1 := blk_frozen B1.out 1; have cf2 := blk_frozen B1.out 2; have cf3 := blk_frozen B1.out 3))
    refine (flush_calls w'.heap.size w (put4 w5 g1 (.slice A5 x.f0.length c5) (.slice B5 x.f1.length d5) x.f2 x.f3) g1 (.slice A5 x.f0.length c5) (.slice B5 x.f1.length d5) x.f0 x.f1 x.f2 x.f3 (fun _ => True) (put4_below HB.out HG.out.1) HG.out.1 HBS.out.1 (by rw [put4_size]; exact HBS.out.2) (put4_blk B1.out) (put4_R B1.out R0.out) (Kd.S_mono (put4_S B1.out S0.out) (fun k h => ⟨h, trivial⟩)) (fit_of x SM.out) HR.out).mono ?_
    rintro e w7 ⟨rfl, u0, u1, hbk, hR, hS, hb, hk⟩
    replace B2 := zA (blk_kept (put4_far (g := g1) (a := .slice A5 x.f0.length c5) (b := .slice B5 x.f1.length d5) (x := x.f2) (y := x.f3) B2.out HG.out.2.2) hk HG.out.2.2)
    replace B1 := zA hbk
    replace HB := zA hb
    replace R0 := zA (Kd.R_lower hR HBS.out.1)
    replace S0 := zA (Kd.S_lower (Kd.S_mono hS (fun k h => h.1)) HBS.out.1)
    clear hb hk hbk hR hS b10 b11 b12 b13 cf0 cf1 cf2 cf3 HT
    obtain ⟨A7, c7, rfl⟩ := Kd.R_slice R0.out
    obtain ⟨B7, d7, rfl⟩ := Kd.S_slice S0.out
    obtain ⟨b10, b11, b12, b13⟩ := keep4 B1.out
    obtain ⟨b20, b21, b22, b23⟩ := keep4 B2.out
    have cf0 := blk_frozen B2.out 0
    have cf1 := blk_frozen B2.out 1
    have cf2 := blk_frozen B2.out 2
    have cf3 := blk_frozen B2.out 3
    go_wp2
    refine bodyPost_ret (results_cell_row rfl _ _ g2 31 #[.slice A7 0 c7, .slice B7 (flR x.f0 x.f1).length d7, .int .i64 x.f2, .int .i64 x.f3] (0, 0) _ rfl (put4_blk B2.out) Try.underlying31 rfl (by kernel_rfl)) rfl ?_
    have hT : flT x = ⟨[], flR x.f0 x.f1, x.f2, x.f3⟩ := by rw [flT, if_pos HF.out]
    rw [hT]
    exact ⟨_, _, rfl, put4_R B2.out R0.out, put4_S B2.out S0.out, put4_below HB.out HG.out.2.1⟩
end Go.Proofs.Ythffllegmkolgaa.TreeK
