/- The program's changed, Put and Drop, called. -/
import Derived.Test.YthffllegmkolgaaT11ChangeI
namespace Go.Proofs.Ythffllegmkolgaa.TreeK
open Go.RowKit Go.Proofs.YthffllegmkolgaaW.PrintWords Go.Proofs.YthffllegmkolgaaW.PrintLast Go.Proofs.YthffllegmkolgaaW.PrintMore Go.Proofs.Ythffllegmkolgaa.QTree Go.Proofs.Ythffllegmkolgaa.EvKit Go.Proofs.Ythffllegmkolgaa.GTree
set_option linter.unusedSimpArgs false
set_option linter.unusedVariables false
set_option linter.unnecessarySimpa false
set_option maxHeartbeats 1600000 in
set_option maxRecDepth 100000 in
theorem changed_impl (A B : Option Addr) (c d : Nat) (x : Tre) (c0 c1 : ByteArray) (c2 : Int) (c3 : Bool) (w : World) (h : TreeC w x A c B d) (sm : sm_Tree x) :
    Calls Try.prog 90 #[.agg #[.slice A x.f0.length c, .slice B x.f1.length d, .int .i64 x.f2, .int .i64 x.f3], .agg #[.string c0, .string c1, .int .i64 c2, .bool c3]] w fun e w' => ∃ v0 v1 : Value, e = .returned (.tuple #[.agg #[v0, v1, .int .i64 (chT x ⟨c0, c1, c2, c3⟩).1.f2, .int .i64 (chT x ⟨c0, c1, c2, c3⟩).1.f3], .bool (chT x ⟨c0, c1, c2, c3⟩).2]) ∧ KC.R TC w' w.heap.size (fun _ => True) v0 (chT x ⟨c0, c1, c2, c3⟩).1.f0 ∧ Kd.S KL TL w' w.heap.size (fun k => some k ≠ v0.ownBlock) v1 (chT x ⟨c0, c1, c2, c3⟩).1.f1 ∧ Below w.heap.size w w' := by
  have HM := zA h
  have SM := zA sm
  clear h sm
  have hu31 := Try.underlying31
  have hb1 := bel_alloc w (.cells #[.slice A x.f0.length c, .slice B x.f1.length d, .int .i64 x.f2, .int .i64 x.f3] 31)
  have B1 := zA (blk_new w (.cells #[.slice A x.f0.length c, .slice B x.f1.length d, .int .i64 x.f2, .int .i64 x.f3] 31))
  go_enter Try.func90, Try.ntmps90
  go_upto_region 1 with (fail)
  obtain ⟨W, hW⟩ : ∃ W, W = ((w.alloc (.cells #[.slice A x.f0.length c, .slice B x.f1.length d, .int .i64 x.f2, .int .i64 x.f3] 31)).alloc (.cells #[.string c0, .string c1, .int .i64 c2, .bool c3] 48)).alloc (.cells #[.slice none 0 0, .slice none 0 0, .int .i64 0, .int .i64 0] 31) := ⟨_, rfl⟩
  obtain ⟨g1, hg1⟩ : ∃ g1, g1 = w.heap.size := ⟨_, rfl⟩
  obtain ⟨gc, hgc⟩ : ∃ gc, gc = w.heap.size + 1 := ⟨_, rfl⟩
  obtain ⟨g2, hg2⟩ : ∃ g2, g2 = w.heap.size + 1 + 1 := ⟨_, rfl⟩
  have z1 : (w.alloc (.cells #[.slice A x.f0.length c, .slice B x.f1.length d, .int .i64 x.f2, .int .i64 x.f3] 31)).heap.size = w.heap.size + 1 := Array.size_push _
  have z2 : ((w.alloc (.cells #[.slice A x.f0.length c, .slice B x.f1.length d, .int .i64 x.f2, .int .i64 x.f3] 31)).alloc (.cells #[.string c0, .string c1, .int .i64 c2, .bool c3] 48)).heap.size = w.heap.size + 1 + 1 := by rw [← z1]; exact Array.size_push _
  have B2 : Aside0 (blkT W g2 (.slice none 0 0) (.slice none 0 0) 0 0) := ⟨by
    have h := blk_new ((w.alloc (.cells #[.slice A x.f0.length c, .slice B x.f1.length d, .int .i64 x.f2, .int .i64 x.f3] 31)).alloc (.cells #[.string c0, .string c1, .int .i64 c2, .bool c3] 48)) (.cells #[.slice none 0 0, .slice none 0 0, .int .i64 0, .int .i64 0] 31)
    rw [z2, ← hg2, ← hW] at h
    exact h⟩
  have BC : Aside0 (W.heap[gc]? = some (.cells #[.string c0, .string c1, .int .i64 c2, .bool c3] 48 (0, 0))) := ⟨by
    have h := blk_new (w.alloc (.cells #[.slice A x.f0.length c, .slice B x.f1.length d, .int .i64 x.f2, .int .i64 x.f3] 31)) (.cells #[.string c0, .string c1, .int .i64 c2, .bool c3] 48)
    rw [z1, ← hgc] at h
    rw [hW]
    exact blk_alloc h _⟩
  replace B1 : Aside0 (blkT W g1 (.slice A x.f0.length c) (.slice B x.f1.length d) x.f2 x.f3) := ⟨by rw [hW, hg1]; exact blk_alloc (blk_alloc B1.out _) _⟩
  have HB : Aside0 (Below w.heap.size w W) := ⟨by rw [hW]; exact bel (bel hb1 (bel_alloc _ _)) (bel_alloc _ _)⟩
  have HG : Aside0 (w.heap.size ≤ g1 ∧ w.heap.size ≤ g2 ∧ g2 ≠ g1 ∧ gc ≠ g1) := ⟨by omega⟩
  rw [← hW, ← hg2, ← hgc, ← hg1]
  clear hW hg1 hg2 hgc hb1 z1 z2
  obtain ⟨b10, b11, b12, b13⟩ := keep4 B1.out
  have HC := zA (call_tree_impl A B c d x W (HM.out.below HB.out) SM.out)
  have HT : Aside0 (TreeC W x A c B d) := ⟨HM.out.below HB.out⟩
  cases ht : trB x
  · have hT : Aside0 (chT x ⟨c0, c1, c2, c3⟩ = (⟨[], [], 0, 0⟩, false)) := ⟨by rw [chT, ht]; simp⟩
    rw [ht] at HC
    clear ht
    go_wp2_with (go_at_call 18; refine HC.out.mono ?_; rintro e w' ⟨rfl, hb⟩; replace B2 := zA (blk_below B2.out hb); replace HB := zA (bel HB.out hb); clear hb b10 b11 b12 b13; obtain ⟨b20, b21, b22, b23⟩ := keep4 B2.out; have cf0 := blk_frozen B2.out 0; have cf1 := blk_frozen B2.out 1; have cf2 := blk_frozen B2.out 2; have cf3 := blk_frozen B2.out 3)
    refine bodyPost_ret (results_ct rfl _ _ g2 31 #[.slice none 0 0, .slice none 0 0, .int .i64 0, .int .i64 0] (0, 0) _ rfl (put4_blk B2.out) Try.underlying31 rfl (by kernel_rfl)) rfl ?_
    rw [hT.out]
    exact ⟨_, _, rfl, Kd.R_nil _ _ _ _ _, Kd.S_nil _ _ _ _ _, put4_below HB.out HG.out.2.1⟩
  · have HF := zA ht
    rw [ht] at HC
    clear ht
    have HR := zA (tree_facts HF.out)
    go_upto_region 4 with (first
      | (go_at_call 18; refine HC.out.mono ?_; rintro e w' ⟨rfl, hb⟩; replace B2 := zA (blk_below B2.out hb); replace BC := zA (blk_below BC.out hb); replace B1 := zA (blk_below B1.out hb); replace HB := zA (bel HB.out hb); replace HT := zA (HT.out.below hb); clear hb b10 b11 b12 b13; obtain ⟨b10, b11, b12, b13⟩ := keep4 B1.out)
      | (go_at_call 70; refine (call_copy_impl A B c d x _ HT.out (fit_of x SM.out)).mono ?_; rintro e w5 ⟨v0, v1, rfl, hR0, hS0, hb⟩; have HL2 := zA (And.intro (blk_lt B2.out) (blk_lt BC.out)); replace B2 := zA (blk_below B2.out hb); replace BC := zA (blk_below BC.out hb); replace B1 := zA (blk_below B1.out hb); have HBS := zA (And.intro HB.out.size hb.size); replace HB := zA (bel HB.out hb); clear hb b10 b11 b12 b13; obtain ⟨A5, c5, rfl⟩ := Kd.R_slice hR0; obtain ⟨B5, d5, rfl⟩ := Kd.S_slice hS0; have R0 := zA hR0; have S0 := zA hS0; clear hR0 hS0; obtain ⟨b10, b11, b12, b13⟩ := keep4 B1.out; have cf0 := blk_frozen B1.out 0; have cf1 := blk_frozen B1.out 1; have cf2 := blk_frozen B1.out 2; have cf3 := blk_frozen B1.out 3))
    have N1 := zA (put4_blk (a := .slice A5 x.f0.length c5) (b := .slice B5 x.f1.length d5) (x := x.f2) (y := x.f3) B1.out)
    have N2 := zA (put4_far (g := g1) (a := .slice A5 x.f0.length c5) (b := .slice B5 x.f1.length d5) (x := x.f2) (y := x.f3) B2.out HG.out.2.2.1)
    have NC := zA (blk_far (p := ⟨g1, 3, none⟩) (blk_far (p := ⟨g1, 2, none⟩) (blk_far (p := ⟨g1, 1, none⟩) (blk_far (p := ⟨g1, 0, none⟩) BC.out HG.out.2.2.2 (.slice A5 x.f0.length c5)) HG.out.2.2.2 (.slice B5 x.f1.length d5)) HG.out.2.2.2 (.int .i64 x.f2)) HG.out.2.2.2 (.int .i64 x.f3))
    have NB := zA (put4_below (a := .slice A5 x.f0.length c5) (b := .slice B5 x.f1.length d5) (x := x.f2) (y := x.f3) HB.out HG.out.1)
    have NR := zA (put4_R (a := .slice A5 x.f0.length c5) (b := .slice B5 x.f1.length d5) (x := x.f2) (y := x.f3) B1.out R0.out)
    have NS := zA (put4_S (a := .slice A5 x.f0.length c5) (b := .slice B5 x.f1.length d5) (x := x.f2) (y := x.f3) B1.out S0.out)
    have hsz := put4_size w5 g1 (.slice A5 x.f0.length c5) (.slice B5 x.f1.length d5) x.f2 x.f3
    have NZ : Aside0 (w.heap.size ≤ w'.heap.size ∧ w'.heap.size ≤ (put4 w5 g1 (.slice A5 x.f0.length c5) (.slice B5 x.f1.length d5) x.f2 x.f3).heap.size) := ⟨HBS.out.1, by rw [hsz]; exact HBS.out.2⟩
    have HL1 : Aside0 (g1 < (put4 w5 g1 (.slice A5 x.f0.length c5) (.slice B5 x.f1.length d5) x.f2 x.f3).heap.size) := ⟨blk_lt N1.out⟩
    clear B1 B2 BC HB R0 S0 HBS b10 b11 b12 b13 cf0 cf1 cf2 cf3 hsz HT HC HM
    have e4 : put4 w5 g1 (.slice A5 x.f0.length c5) (.slice B5 x.f1.length d5) x.f2 x.f3 = ((((w5.setCell ⟨g1, 0, none⟩ (.slice A5 x.f0.length c5)).setCell ⟨g1, 1, none⟩ (.slice B5 x.f1.length d5)).setCell ⟨g1, 2, none⟩ (.int .i64 x.f2)).setCell ⟨g1, 3, none⟩ (.int .i64 x.f3)) := rfl
    rw [← e4] at NC
    rw [← e4]
    clear e4
    generalize put4 w5 g1 (.slice A5 x.f0.length c5) (.slice B5 x.f1.length d5) x.f2 x.f3 = W7 at N1 N2 NC NB NR NS NZ HL1 ⊢
    have B2 := N2
    have HB := NB
    clear N2 NB
    obtain ⟨bc0, bc1, bc2, bc3⟩ := keep4 NC.out
    cases hcb : chB x.f2 ⟨c0, c1, c2, c3⟩
    · have hT : Aside0 (chT x ⟨c0, c1, c2, c3⟩ = (⟨[], [], 0, 0⟩, false)) := ⟨by rw [chT, hcb]; simp⟩
      go_wp2_with (go_at_call 86; refine (change_no w W7 g1 _ _ x.f2 x.f3 c0 c1 c2 c3 (fun _ => False) HB.out N1.out hcb).mono ?_; rintro e w8 ⟨rfl, hb, hk⟩; replace B2 := zA (blk_kept B2.out hk (fun h => h.elim HG.out.2.2.1 id)); replace HB := zA hb; clear hb hk; obtain ⟨b20, b21, b22, b23⟩ := keep4 B2.out; have cf0 := blk_frozen B2.out 0; have cf1 := blk_frozen B2.out 1; have cf2 := blk_frozen B2.out 2; have cf3 := blk_frozen B2.out 3)
      refine bodyPost_ret (results_ct rfl _ _ g2 31 #[.slice none 0 0, .slice none 0 0, .int .i64 0, .int .i64 0] (0, 0) _ rfl (put4_blk B2.out) Try.underlying31 rfl (by kernel_rfl)) rfl ?_
      rw [hT.out]
      exact ⟨_, _, rfl, Kd.R_nil _ _ _ _ _, Kd.S_nil _ _ _ _ _, put4_below HB.out HG.out.2.1⟩
    have hT : Aside0 (chT x ⟨c0, c1, c2, c3⟩ = (⟨chM x.f0 x.f2 x.f3 ⟨c0, c1, c2, c3⟩, chR x.f0 x.f1 x.f3, x.f2 + 1, x.f3⟩, true)) := ⟨by rw [chT, hcb, if_pos ⟨HF.out, rfl⟩]⟩
    go_upto_region 6 with (go_at_call 86; refine (change_yes w W7 g1 (.slice A5 x.f0.length c5) (.slice B5 x.f1.length d5) x.f0 x.f1 x.f2 x.f3 c0 c1 c2 c3 (fun k => w'.heap.size ≤ k ∧ k < W7.heap.size) HB.out HG.out.1 HL1.out N1.out (Kd.R_lower (Kd.R_mono (Kd.R_bound NR.out) (fun k h => ⟨h.2.1, h.2.2.1⟩)) NZ.out.1) (Kd.S_lower (Kd.S_mono (Kd.S_bound NS.out) (fun k h => ⟨h.1, h.2.1, h.2.2.1⟩)) NZ.out.1) (fun k h => h.2) (fit_of x SM.out) HF.out hcb).mono ?_; rintro e w8 ⟨rfl, hb, hk, u0, u1, hbk, hR, hS⟩; replace B2 := zA (blk_kept B2.out hk (fun h => h.elim HG.out.2.2.1 (fun h => by have h1 := HL2.out.1; have h2 := h.1; omega))); replace HB := zA hb; have B1 := zA hbk; have R0 := zA hR; have S0 := zA hS; clear hb hk hbk hR hS NR NS N1 NC bc0 bc1 bc2 bc3; obtain ⟨A7, c7, rfl⟩ := Kd.R_slice R0.out; obtain ⟨B7, d7, rfl⟩ := Kd.S_slice S0.out; obtain ⟨b10, b11, b12, b13⟩ := keep4 B1.out; obtain ⟨b20, b21, b22, b23⟩ := keep4 B2.out; have cf0 := blk_frozen B2.out 0; have cf1 := blk_frozen B2.out 1; have cf2 := blk_frozen B2.out 2; have cf3 := blk_frozen B2.out 3)
    go_wp2
    refine bodyPost_ret (results_ct rfl _ _ g2 31 #[.slice A7 (chM x.f0 x.f2 x.f3 ⟨c0, c1, c2, c3⟩).length c7, .slice B7 (chR x.f0 x.f1 x.f3).length d7, .int .i64 (x.f2 + 1), .int .i64 x.f3] (0, 0) _ rfl (put4_blk B2.out) Try.underlying31 rfl (by kernel_rfl)) rfl ?_
    rw [hT.out]
    exact ⟨_, _, rfl, Kd.R_mono (put4_R B2.out R0.out) (fun _ _ => trivial), Kd.S_mono (put4_S B2.out S0.out) (fun k h => h.1), put4_below HB.out HG.out.2.1⟩
end Go.Proofs.Ythffllegmkolgaa.TreeK
