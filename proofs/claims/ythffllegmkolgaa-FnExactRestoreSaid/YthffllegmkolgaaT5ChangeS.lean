/- The reference's l17Change, called. -/
import Derived.Test.YthffllegmkolgaaT5ChangeI
import Derived.Test.YthffllegmkolgaaT5FlushS
namespace Go.Proofs.Ythffllegmkolgaa.TreeK
open Go.RowKit Go.Proofs.YthffllegmkolgaaW.PrintWords Go.Proofs.YthffllegmkolgaaW.PrintLast Go.Proofs.YthffllegmkolgaaW.PrintMore Go.Proofs.Ythffllegmkolgaa.QTree Go.Proofs.Ythffllegmkolgaa.EvKit Go.Proofs.Ythffllegmkolgaa.GTree
set_option linter.unusedSimpArgs false
set_option linter.unusedVariables false
set_option linter.unnecessarySimpa false
set_option maxHeartbeats 1600000 in
set_option maxRecDepth 100000 in
theorem change_spec (A B : Option Addr) (c d : Nat) (x : Tre) (c0 c1 : ByteArray) (c2 : Int) (c3 : Bool) (w : World) (h : TreeC w x A c B d) (sm : sm_Tree x) :
    Calls Try.prog 84 #[.agg #[.slice A x.f0.length c, .slice B x.f1.length d, .int .i64 x.f2, .int .i64 x.f3], .agg #[.string c0, .string c1, .int .i64 c2, .bool c3]] w fun e w' => ∃ v0 v1 : Value, e = .returned (.tuple #[.agg #[v0, v1, .int .i64 (chT x ⟨c0, c1, c2, c3⟩).1.f2, .int .i64 (chT x ⟨c0, c1, c2, c3⟩).1.f3], .bool (chT x ⟨c0, c1, c2, c3⟩).2]) ∧ KC.R TC w' w.heap.size (fun _ => True) v0 (chT x ⟨c0, c1, c2, c3⟩).1.f0 ∧ Kd.S KL TL w' w.heap.size (fun k => some k ≠ v0.ownBlock) v1 (chT x ⟨c0, c1, c2, c3⟩).1.f1 ∧ Below w.heap.size w w' := by
  have HM := zA h
  have SM := zA sm
  clear h sm
  have hu31 := Try.underlying31
  have hb1 := bel_alloc w (.cells #[.slice A x.f0.length c, .slice B x.f1.length d, .int .i64 x.f2, .int .i64 x.f3] 31)
  have B1 := zA (blk_new w (.cells #[.slice A x.f0.length c, .slice B x.f1.length d, .int .i64 x.f2, .int .i64 x.f3] 31))
  go_enter Try.func84, Try.ntmps84
  go_upto_region 1 with (fail)
  obtain ⟨W, hW⟩ : ∃ W, W = ((w.alloc (.cells #[.slice A x.f0.length c, .slice B x.f1.length d, .int .i64 x.f2, .int .i64 x.f3] 31)).alloc (.cells #[.string c0, .string c1, .int .i64 c2, .bool c3] 48)).alloc (.cells #[.slice none 0 0, .slice none 0 0, .int .i64 0, .int .i64 0] 31) := ⟨_, rfl⟩
  obtain ⟨g1, hg1⟩ : ∃ g1, g1 = w.heap.size := ⟨_, rfl⟩
  obtain ⟨gc, hgc⟩ : ∃ gc, gc = w.heap.size + 1 := ⟨_, rfl⟩
  obtain ⟨g2, hg2⟩ : ∃ g2, g2 = w.heap.size + 1 + 1 := ⟨_, rfl⟩
  have z1 : (w.alloc (.cells #[.slice A x.f0.length c, .slice B x.f1.length d, .int .i64 x.f2, .int .i64 x.f3] 31)).heap.size = w.heap.size + 1 := Array.size_push _
  have z2 : ((w.alloc (.cells #[.slice A x.f0.length c, .slice B x.f1.length d, .int .i64 x.f2, .int .i64 x.f3] 31)).alloc (.cells #[.string c0, .string c1, .int .i64 c2, .bool c3] 48)).heap.size = w.heap.size + 1 + 1 := by rw [← z1]; exact Array.size_push _
  have B2 : Aside0 (blkT W g2 (.slice none 0 0) (.slice none 0 0) 0 0) := ⟨by
    have h := blk_new ((w.alloc (.cells #[.slice A x.f0.length c, .slice B x.f1.length d, .int .i64 x.f2, .int .i64 x.f3] 31)).alloc (.cells #[.string c0, .string c1, .int .i64 c2, .bool c3] 48)) (.cells #[.slice none 0 0, .slice none 0 0, .int .i64 0, .int .i64 0] 31)
    rw [z2, ← hg2, ← hW] at h
    exact h⟩
  have BC : Aside0 (W.heap[gc]? = some (.cells #[.string c0, .string c1, .int .i64 c2, .bool c3] 48 (0, 0))) := ⟨by
    have h := blk_new (w.alloc (.cells #[.slice A x.f0.length c, .slice B x.f1.length d, .int .i64 x.f2, .int .i64 x.f3] 31)) (.cells #[.string c0, .string c1, .int .i64 c2, .bool c3] 48)
    rw [z1, ← hgc] at h
    rw [hW]
    exact blk_alloc h _⟩
  replace B1 : Aside0 (blkT W g1 (.slice A x.f0.length c) (.slice B x.f1.length d) x.f2 x.f3) := ⟨by rw [hW, hg1]; exact blk_alloc (blk_alloc B1.out _) _⟩
  have HB : Aside0 (Below w.heap.size w W) := ⟨by rw [hW]; exact bel (bel hb1 (bel_alloc _ _)) (bel_alloc _ _)⟩
  have HG : Aside0 (w.heap.size ≤ g1 ∧ w.heap.size ≤ g2 ∧ g2 ≠ g1 ∧ g2 ≠ gc ∧ w.heap.size ≤ gc) := ⟨by omega⟩
  rw [← hW, ← hg2, ← hgc, ← hg1]
  clear hW hg1 hg2 hgc hb1 z1 z2
  obtain ⟨b10, b11, b12, b13⟩ := keep4 B1.out
  obtain ⟨bc0, bc1, bc2, bc3⟩ := keep4 BC.out
  have HC := zA (call_tree_spec A B c d x W (HM.out.below HB.out) SM.out)
  have HT : Aside0 (TreeC W x A c B d) := ⟨HM.out.below HB.out⟩
  cases ht : trB x
  · have hT : Aside0 (chT x ⟨c0, c1, c2, c3⟩ = (⟨[], [], 0, 0⟩, false)) := ⟨by rw [chT, ht]; simp⟩
    rw [ht] at HC
    clear ht
    go_wp2_with (go_at_call 16; refine HC.out.mono ?_; rintro e w' ⟨rfl, hb⟩; replace B2 := zA (blk_below B2.out hb); replace BC := zA (blk_below BC.out hb); replace B1 := zA (blk_below B1.out hb); replace HB := zA (bel HB.out hb); replace HT := zA (HT.out.below hb); clear hb b10 b11 b12 b13 bc0 bc1 bc2 bc3; obtain ⟨b10, b11, b12, b13⟩ := keep4 B1.out; obtain ⟨bc0, bc1, bc2, bc3⟩ := keep4 BC.out; obtain ⟨b20, b21, b22, b23⟩ := keep4 B2.out; have cf0 := blk_frozen B2.out 0; have cf1 := blk_frozen B2.out 1; have cf2 := blk_frozen B2.out 2; have cf3 := blk_frozen B2.out 3)
    refine bodyPost_ret (results_ct rfl _ _ g2 31 #[.slice none 0 0, .slice none 0 0, .int .i64 0, .int .i64 0] (0, 0) _ rfl (put4_blk B2.out) Try.underlying31 rfl (by kernel_rfl)) rfl ?_
    rw [hT.out]
    exact ⟨_, _, rfl, Kd.R_nil _ _ _ _ _, Kd.S_nil _ _ _ _ _, put4_below HB.out HG.out.2.1⟩
  · have HF := zA ht
    rw [ht] at HC
    clear ht
    have HR := zA (tree_facts HF.out)
    have hsq := HR.out.seq
    have hlen := HR.out.len
    cases hcb : chB x.f2 ⟨c0, c1, c2, c3⟩
    · have hT : Aside0 (chT x ⟨c0, c1, c2, c3⟩ = (⟨[], [], 0, 0⟩, false)) := ⟨by rw [chT, hcb]; simp⟩
      have hcb' : x.f2 = 400 ∨ ¬ ((c0.size : Int) ≤ 100) ∨ ¬ ((c1.size : Int) ≤ 100) := by
        unfold chB at hcb
        by_cases e1 : x.f2 = 400
        · exact .inl e1
        · by_cases e2 : (c0.size : Int) ≤ 100
          · by_cases e3 : (c1.size : Int) ≤ 100
            · have e4 : (x.f2 == 400) = false := by rw [beq_eq_false_iff_ne]; exact e1
              rw [e4, decide_eq_true e2, decide_eq_true e3] at hcb
              cases hcb
            · exact .inr (.inr e3)
          · exact .inr (.inl e2)
      clear hcb
      obtain ⟨b1, h1⟩ : ∃ b, decide ((400 : Int) ≤ x.f2) = b := ⟨_, rfl⟩
      obtain ⟨b2, h2⟩ : ∃ b, decide ((100 : Int) < (c0.size : Int)) = b := ⟨_, rfl⟩
      obtain ⟨b3, h3⟩ : ∃ b, decide ((100 : Int) < (c1.size : Int)) = b := ⟨_, rfl⟩
      cases b1 <;> cases b2 <;> cases b3
      all_goals
        have h1' := h1
        have h2' := h2
        have h3' := h3
        simp only [decide_eq_true_eq, decide_eq_false_iff_not] at h1' h2' h3'
        first
          | (exfalso; omega)
          | (go_wp2_with (go_at_call 16; refine HC.out.mono ?_; rintro e w' ⟨rfl, hb⟩; replace B2 := zA (blk_below B2.out hb); replace BC := zA (blk_below BC.out hb); replace B1 := zA (blk_below B1.out hb); replace HB := zA (bel HB.out hb); replace HT := zA (HT.out.below hb); clear hb b10 b11 b12 b13 bc0 bc1 bc2 bc3; obtain ⟨b10, b11, b12, b13⟩ := keep4 B1.out; obtain ⟨bc0, bc1, bc2, bc3⟩ := keep4 BC.out; obtain ⟨b20, b21, b22, b23⟩ := keep4 B2.out; have cf0 := blk_frozen B2.out 0; have cf1 := blk_frozen B2.out 1; have cf2 := blk_frozen B2.out 2; have cf3 := blk_frozen B2.out 3)
             refine bodyPost_ret (results_ct rfl _ _ g2 31 #[.slice none 0 0, .slice none 0 0, .int .i64 0, .int .i64 0] (0, 0) _ rfl (put4_blk B2.out) Try.underlying31 rfl (by kernel_rfl)) rfl ?_
             rw [hT.out]
             exact ⟨_, _, rfl, Kd.R_nil _ _ _ _ _, Kd.S_nil _ _ _ _ _, put4_below HB.out HG.out.2.1⟩)
    have hT : Aside0 (chT x ⟨c0, c1, c2, c3⟩ = (⟨chM x.f0 x.f2 x.f3 ⟨c0, c1, c2, c3⟩, chR x.f0 x.f1 x.f3, x.f2 + 1, x.f3⟩, true)) := ⟨by rw [chT, hcb, if_pos ⟨HF.out, rfl⟩]⟩
    unfold chB at hcb
    simp only [Bool.and_eq_true, Bool.not_eq_true', beq_eq_false_iff_ne, decide_eq_true_eq] at hcb
    obtain ⟨⟨h1, h2⟩, h3⟩ := hcb
    have h1' : ¬ ((400 : Int) ≤ x.f2) := by omega
    have h2' : ¬ ((100 : Int) < (c0.size : Int)) := by omega
    have h3' : ¬ ((100 : Int) < (c1.size : Int)) := by omega
    have hw : wrap64 (x.f2 + 1) = x.f2 + 1 := w64 (by omega) (by omega)
    go_upto_region 4 with (first
      | (go_at_call 16; refine HC.out.mono ?_; rintro e w' ⟨rfl, hb⟩; replace B2 := zA (blk_below B2.out hb); replace BC := zA (blk_below BC.out hb); replace B1 := zA (blk_below B1.out hb); replace HB := zA (bel HB.out hb); replace HT := zA (HT.out.below hb); clear hb b10 b11 b12 b13 bc0 bc1 bc2 bc3; obtain ⟨b10, b11, b12, b13⟩ := keep4 B1.out; obtain ⟨bc0, bc1, bc2, bc3⟩ := keep4 BC.out)
      | (go_at_call 88; refine (call_copy_spec A B c d x _ HT.out (fit_of x SM.out)).mono ?_; rintro e w5 ⟨v0, v1, rfl, hR0, hS0, hb⟩; have HL2 := zA (And.intro (blk_lt B2.out) (blk_lt BC.out)); replace B2 := zA (blk_below B2.out hb); replace BC := zA (blk_below BC.out hb); have HBS := zA HB.out.size; have HZ5 := zA hb.size; replace HB := zA (bel HB.out hb); clear hb b10 b11 b12 b13 bc0 bc1 bc2 bc3; obtain ⟨A5, c5, rfl⟩ := Kd.R_slice hR0; obtain ⟨B5, d5, rfl⟩ := Kd.S_slice hS0; have R0 := zA (Kd.R_mono (Kd.R_bound (Kd.R_tight rfl hR0)) (ok' := fun k => some k = (Value.slice A5 x.f0.length c5).ownBlock ∧ w'.heap.size ≤ k) (fun k h => ⟨h.1, h.2.1⟩)); have S0 := zA (Kd.S_mono (Kd.S_bound hS0) (ok' := fun k => w'.heap.size ≤ k ∧ some k ≠ (Value.slice A5 x.f0.length c5).ownBlock) (fun k h => ⟨h.2.1, h.1⟩)); clear hR0 hS0)
      | ((with_reducible refine gate_dst (N := 6) rfl ?_); refine box_event ?hg (N := 6) ?hd (cs := #[.slice none 0 0, .slice none 0 0, .int .i64 0, .int .i64 0]) (t := 31) ?hr ?_; (case hd => rfl); (case hg => rfl); (case hr => first | (go_simp; done) | (go_simp; rfl)); intro g6 hg w6 hbox hb; have B6 : Aside0 (blkT w6 g6 (.slice none 0 0) (.slice none 0 0) 0 0) := ⟨hbox⟩; have HG6 : Aside0 (w.heap.size ≤ g6 ∧ g2 ≠ g6 ∧ gc ≠ g6) := ⟨by have h1 := HB.out.size; have h2 := blk_lt B2.out; have h3 := blk_lt BC.out; rw [hg]; exact ⟨h1, by omega, by omega⟩⟩; replace B2 := zA (blk_below B2.out hb); replace BC := zA (blk_below BC.out hb); replace HB := zA (bel HB.out hb); have HZW : Aside0 (w'.heap.size ≤ w6.heap.size) := ⟨Nat.le_trans HZ5.out hb.size⟩; replace R0 := zA (Kd.R_below R0.out hb); replace S0 := zA (Kd.S_below S0.out hb); have cf0 := blk_frozen B6.out 0; have cf1 := blk_frozen B6.out 1; have cf2 := blk_frozen B6.out 2; have cf3 := blk_frozen B6.out 3; obtain ⟨b60, b61, b62, b63⟩ := keep4 B6.out; clear hg hbox hb))
    have N6 := zA (put4_blk (a := .slice A5 x.f0.length c5) (b := .slice B5 x.f1.length d5) (x := x.f2) (y := x.f3) B6.out)
    have N2 := zA (put4_far (g := g6) (a := .slice A5 x.f0.length c5) (b := .slice B5 x.f1.length d5) (x := x.f2) (y := x.f3) B2.out HG6.out.2.1)
    have NC := zA (blk_far (p := ⟨g6, 3, none⟩) (blk_far (p := ⟨g6, 2, none⟩) (blk_far (p := ⟨g6, 1, none⟩) (blk_far (p := ⟨g6, 0, none⟩) BC.out HG6.out.2.2 (.slice A5 x.f0.length c5)) HG6.out.2.2 (.slice B5 x.f1.length d5)) HG6.out.2.2 (.int .i64 x.f2)) HG6.out.2.2 (.int .i64 x.f3))
    have NB := zA (put4_below (a := .slice A5 x.f0.length c5) (b := .slice B5 x.f1.length d5) (x := x.f2) (y := x.f3) HB.out HG6.out.1)
    have NR := zA (Kd.R_lower (put4_R (a := .slice A5 x.f0.length c5) (b := .slice B5 x.f1.length d5) (x := x.f2) (y := x.f3) B6.out R0.out) HBS.out)
    have NS := zA (Kd.S_lower (put4_S (a := .slice A5 x.f0.length c5) (b := .slice B5 x.f1.length d5) (x := x.f2) (y := x.f3) B6.out S0.out) HBS.out)
    have NZ : Aside0 (w'.heap.size ≤ (put4 w6 g6 (.slice A5 x.f0.length c5) (.slice B5 x.f1.length d5) x.f2 x.f3).heap.size) := ⟨by rw [put4_size]; exact HZW.out⟩
    clear B6 B2 BC HB R0 S0 b60 b61 b62 b63 cf0 cf1 cf2 cf3 HT HC HM B1
    have e4 : put4 w6 g6 (.slice A5 x.f0.length c5) (.slice B5 x.f1.length d5) x.f2 x.f3 = ((((w6.setCell ⟨g6, 0, none⟩ (.slice A5 x.f0.length c5)).setCell ⟨g6, 1, none⟩ (.slice B5 x.f1.length d5)).setCell ⟨g6, 2, none⟩ (.int .i64 x.f2)).setCell ⟨g6, 3, none⟩ (.int .i64 x.f3)) := rfl
    rw [← e4] at NC
    rw [← e4]
    clear e4
    generalize put4 w6 g6 (.slice A5 x.f0.length c5) (.slice B5 x.f1.length d5) x.f2 x.f3 = W7 at N6 N2 NC NB NR NS NZ ⊢
    have B6 := N6
    have B2 := N2
    have BC : Aside0 (W7.heap[gc]? = some (.cells #[.string c0, .string c1, .int .i64 c2, .bool c3] TC (0, 0))) := NC
    have HB := NB
    have R0 := NR
    have S0 := NS
    clear N6 N2 NC NB NR NS
    obtain ⟨m1, hm1⟩ : ∃ m1, m1 = chA x.f0 x.f3 := ⟨_, rfl⟩
    obtain ⟨r1, hr1⟩ : ∃ r1, r1 = chR x.f0 x.f1 x.f3 := ⟨_, rfl⟩
    obtain ⟨mm, hmm⟩ : ∃ mm, mm = chM x.f0 x.f2 x.f3 ⟨c0, c1, c2, c3⟩ := ⟨_, rfl⟩
    rw [← hr1, ← hmm] at hT
    have HIN : Aside0 (insC (chC x.f2 ⟨c0, c1, c2, c3⟩) m1 = mm) := ⟨by rw [hm1, hmm]; exact ch_ins HF.out⟩
    have HM1 : Aside0 (m1.length ≤ 1000000000) := ⟨by rw [hm1]; have h1 := (chA_sub x.f0 x.f3).length_le; have h2 := SM.out.1.1; omega⟩
    clear hmm h1 h2 h3
    obtain ⟨b60, b61, b62, b63⟩ := keep4 B6.out
    by_cases hq : (x.f0.length : Int) = x.f3
    · have hq' : x.f3 ≤ (x.f0.length : Int) := by omega
      have e1 : m1 = [] := by rw [hm1, chA, if_pos hq]
      have e2 : r1 = flR x.f0 x.f1 := by rw [hr1, chR, if_pos hq]
      have E1 := zA e1
      have E2 := zA e2
      have hfl : flT x = ⟨m1, r1, x.f2, x.f3⟩ := by rw [flT, if_pos HF.out, e1, e2]
      clear hm1 hr1 e1 e2
      have CF := flush_spec A5 B5 c5 d5 x W7 ⟨⟨(Kd.R_reads' R0.out).2.1, (Kd.R_reads' R0.out).2.2⟩, (Kd.S_reads' S0.out).2.1, (Kd.S_reads' S0.out).2.2⟩ SM.out
      rw [hfl] at CF
      replace CF := zA CF
      clear hfl
      go_upto_region 6 with (go_at_call 40; refine CF.out.mono ?_; rintro e V0 ⟨v0, v1, rfl, hR, hS, hb⟩; have HQ := zA HB.out.size; have HZ7 := zA (blk_lt B6.out); replace B6 := zA (blk_below B6.out hb); replace B2 := zA (blk_below B2.out hb); replace BC := zA (blk_below BC.out hb); replace HB := zA (bel HB.out hb); clear hb b60 b61 b62 b63 R0 S0 CF; obtain ⟨A1, cc1, rfl⟩ := Kd.R_slice hR; obtain ⟨B1, dd1, rfl⟩ := Kd.S_slice hS; have R0 := zA (Kd.R_lower (Kd.R_mono (Kd.R_bound (Kd.R_tight rfl hR)) (ok' := fun k => some k = (Value.slice A1 m1.length cc1).ownBlock ∧ w'.heap.size ≤ k) (fun k h => ⟨h.1, Nat.le_trans NZ.out h.2.1⟩)) HQ.out); have S0 := zA (Kd.S_lower (Kd.S_mono (Kd.S_bound hS) (ok' := fun k => w'.heap.size ≤ k ∧ some k ≠ (Value.slice A1 m1.length cc1).ownBlock) (fun k h => ⟨Nat.le_trans NZ.out h.2.1, h.1⟩)) HQ.out); clear hR hS; obtain ⟨b60, b61, b62, b63⟩ := keep4 B6.out; have cf0 := blk_frozen B6.out 0; have cf1 := blk_frozen B6.out 1; have cf2 := blk_frozen B6.out 2; have cf3 := blk_frozen B6.out 3)
      replace R0 := zA (put4_R (a := .slice A1 m1.length cc1) (b := .slice B1 r1.length dd1) (x := x.f2) (y := x.f3) B6.out R0.out)
      replace S0 := zA (put4_S (a := .slice A1 m1.length cc1) (b := .slice B1 r1.length dd1) (x := x.f2) (y := x.f3) B6.out S0.out)
      replace B2 := zA (put4_far (g := g6) (a := .slice A1 m1.length cc1) (b := .slice B1 r1.length dd1) (x := x.f2) (y := x.f3) B2.out HG6.out.2.1)
      replace BC := zA (blk_far (p := ⟨g6, 3, none⟩) (blk_far (p := ⟨g6, 2, none⟩) (blk_far (p := ⟨g6, 1, none⟩) (blk_far (p := ⟨g6, 0, none⟩) BC.out HG6.out.2.2 (.slice A1 m1.length cc1)) HG6.out.2.2 (.slice B1 r1.length dd1)) HG6.out.2.2 (.int .i64 x.f2)) HG6.out.2.2 (.int .i64 x.f3))
      replace HB := zA (put4_below (a := .slice A1 m1.length cc1) (b := .slice B1 r1.length dd1) (x := x.f2) (y := x.f3) HB.out HG6.out.1)
      replace B6 := zA (put4_blk (a := .slice A1 m1.length cc1) (b := .slice B1 r1.length dd1) (x := x.f2) (y := x.f3) B6.out)
      have e4 : put4 V0 g6 (.slice A1 m1.length cc1) (.slice B1 r1.length dd1) x.f2 x.f3 = ((((V0.setCell ⟨g6, 0, none⟩ (.slice A1 m1.length cc1)).setCell ⟨g6, 1, none⟩ (.slice B1 r1.length dd1)).setCell ⟨g6, 2, none⟩ (.int .i64 x.f2)).setCell ⟨g6, 3, none⟩ (.int .i64 x.f3)) := rfl
      rw [← e4] at BC
      rw [← e4]
      clear e4 b60 b61 b62 b63 cf0 cf1 cf2 cf3
      generalize put4 V0 g6 (.slice A1 m1.length cc1) (.slice B1 r1.length dd1) x.f2 x.f3 = V5 at R0 S0 B2 BC HB B6 ⊢
      obtain ⟨b60, b61, b62, b63⟩ := keep4 B6.out
      have cf2 := blk_frozen B6.out 2
      go_upto_region 7 with (simp only [hw])
      replace R0 := zA (Kd.R_set R0.out B6.out (by decide) 2 (.int .i64 (x.f2 + 1)))
      replace S0 := zA (Kd.S_set S0.out B6.out (by decide) 2 (.int .i64 (x.f2 + 1)))
      replace BC := zA (blk_far (p := ⟨g6, 2, none⟩) BC.out HG6.out.2.2 (.int .i64 (x.f2 + 1)))
      replace B2 : Aside0 (blkT (V5.setCell ⟨g6, 2, none⟩ (.int .i64 (x.f2 + 1))) g2 (.slice none 0 0) (.slice none 0 0) 0 0) := ⟨blk_far (p := ⟨g6, 2, none⟩) B2.out HG6.out.2.1 (.int .i64 (x.f2 + 1))⟩
      replace HB := zA (below_set HB.out HG6.out.1 (j := 2) (v := .int .i64 (x.f2 + 1)))
      replace B6 := zA (blkT_put2 B6.out (x.f2 + 1))
      clear b60 b61 b62 b63 cf2
      generalize V5.setCell ⟨g6, 2, none⟩ (.int .i64 (x.f2 + 1)) = V1 at R0 S0 BC B2 HB B6 ⊢
      obtain ⟨b60, b61, b62, b63⟩ := keep4 B6.out
      obtain ⟨bc0, bc1, bc2, bc3⟩ := keep4 BC.out
      have cf2 := blk_frozen BC.out 2
      go_upto_region 8 with (fail)
      replace R0 := zA (Kd.R_far (p := ⟨gc, 2, none⟩) R0.out (fun k hk => by have h1 := HL2.out.2; have h2 := hk.2; show k ≠ gc; omega) (.int .i64 (x.f2 + 1)))
      replace S0 := zA (Kd.S_far (p := ⟨gc, 2, none⟩) S0.out (fun k hk => by have h1 := HL2.out.2; have h2 := hk.1; show k ≠ gc; omega) (.int .i64 (x.f2 + 1)))
      replace B2 : Aside0 (blkT (V1.setCell ⟨gc, 2, none⟩ (.int .i64 (x.f2 + 1))) g2 (.slice none 0 0) (.slice none 0 0) 0 0) := ⟨blk_far (p := ⟨gc, 2, none⟩) B2.out HG.out.2.2.2.1 (.int .i64 (x.f2 + 1))⟩
      replace B6 : Aside0 (blkT (V1.setCell ⟨gc, 2, none⟩ (.int .i64 (x.f2 + 1))) g6 (.slice A1 m1.length cc1) (.slice B1 r1.length dd1) (x.f2 + 1) x.f3) := ⟨blk_far (p := ⟨gc, 2, none⟩) B6.out (Ne.symm HG6.out.2.2) (.int .i64 (x.f2 + 1))⟩
      replace BC : Aside0 ((V1.setCell ⟨gc, 2, none⟩ (.int .i64 (x.f2 + 1))).heap[gc]? = some (.cells #[.string c0, .string c1, .int .i64 (x.f2 + 1), .bool c3] TC (0, 0))) := ⟨blk_put BC.out 2 _ rfl⟩
      replace HB := zA (below_set HB.out HG.out.2.2.2.2 (j := 2) (v := .int .i64 (x.f2 + 1)))
      clear b60 b61 b62 b63 bc0 bc1 bc2 bc3 cf2
      generalize V1.setCell ⟨gc, 2, none⟩ (.int .i64 (x.f2 + 1)) = V2 at R0 S0 BC B2 HB B6 ⊢
      obtain ⟨b60, b61, b62, b63⟩ := keep4 B6.out
      obtain ⟨bc0, bc1, bc2, bc3⟩ := keep4 BC.out
      have hng : some g6 ≠ (Value.slice A1 m1.length cc1).ownBlock := Kd.R_ne R0.out B6.out (by decide)
      go_upto_region 9 with (go_at_call 91; refine (call_in (fun k => some k = (Value.slice A1 m1.length cc1).ownBlock ∧ w'.heap.size ≤ k) (.slice A1 m1.length cc1) m1 (chC x.f2 ⟨c0, c1, c2, c3⟩) w V2 HB.out R0.out HM1.out).mono ?_; rintro e V3 ⟨v9, rfl, hR, hb, hkp⟩; have hS := Kd.S_mono (Kd.S_bound S0.out) (ok' := fun k => (w'.heap.size ≤ k ∧ some k ≠ (Value.slice A1 m1.length cc1).ownBlock) ∧ k < V2.heap.size) (fun k h => ⟨h.1, h.2.2.1⟩); replace S0 := zA (Kd.S_mono (Kd.S_kept hS hkp (fun k h h' => h.1.2 h'.1)) (ok' := fun k => some k ≠ v9.ownBlock) (fun k h he => (hR.1 k he.symm).elim (fun h' => h.1.2 h'.1) (fun h' => by have := h.2; omega))); replace B6 := zA (blk_kept B6.out hkp (fun h => hng h.1)); replace B2 := zA (blk_kept B2.out hkp (fun h => by have h1 := HL2.out.1; have h2 := h.2; omega)); replace HB := zA hb; have R9 := zA (Kd.R_mono hR (fun _ _ => trivial) (ok' := fun _ => True)); clear hR hS hb hkp R0 hng BC b60 b61 b62 b63 bc0 bc1 bc2 bc3; obtain ⟨A9, cc9, rfl⟩ := Kd.R_slice R9.out; obtain ⟨b60, b61, b62, b63⟩ := keep4 B6.out; have cf0 := blk_frozen B6.out 0)
      rw [HIN.out] at R9 S0 ⊢
      replace R9 := zA (Kd.R_set R9.out B6.out (by decide) 0 (.slice A9 mm.length cc9))
      replace S0 := zA (Kd.S_set S0.out B6.out (by decide) 0 (.slice A9 mm.length cc9))
      replace B2 : Aside0 (blkT (V3.setCell ⟨g6, 0, none⟩ (.slice A9 mm.length cc9)) g2 (.slice none 0 0) (.slice none 0 0) 0 0) := ⟨blk_far (p := ⟨g6, 0, none⟩) B2.out HG6.out.2.1 _⟩
      replace HB := zA (below_set HB.out HG6.out.1 (j := 0) (v := .slice A9 mm.length cc9))
      replace B6 := zA (blkT_put0 B6.out (.slice A9 mm.length cc9))
      clear b60 b61 b62 b63 cf0
      generalize V3.setCell ⟨g6, 0, none⟩ (.slice A9 mm.length cc9) = V4 at R9 S0 B2 HB B6 ⊢
      obtain ⟨b60, b61, b62, b63⟩ := keep4 B6.out
      obtain ⟨b20, b21, b22, b23⟩ := keep4 B2.out; have cf0 := blk_frozen B2.out 0; have cf1 := blk_frozen B2.out 1; have cf2 := blk_frozen B2.out 2; have cf3 := blk_frozen B2.out 3
      go_wp2
      refine bodyPost_ret (results_ct rfl _ _ g2 31 #[.slice A9 mm.length cc9, .slice B1 r1.length dd1, .int .i64 (x.f2 + 1), .int .i64 x.f3] (0, 0) _ rfl (put4_blk B2.out) Try.underlying31 rfl (by kernel_rfl)) rfl ?_
      rw [hT.out]
      exact ⟨_, _, rfl, put4_R B2.out R9.out, put4_S B2.out S0.out, put4_below HB.out HG.out.2.1⟩
    · have hq' : ¬ x.f3 ≤ (x.f0.length : Int) := by omega
      have e1 : m1 = x.f0 := by rw [hm1, chA, if_neg hq]
      have e2 : r1 = x.f1 := by rw [hr1, chR, if_neg hq]
      clear hm1 hr1
      obtain ⟨A1, hA1⟩ : ∃ A1, A1 = A5 := ⟨_, rfl⟩
      obtain ⟨cc1, hcc1⟩ : ∃ cc1, cc1 = c5 := ⟨_, rfl⟩
      obtain ⟨B1, hB1⟩ : ∃ B1, B1 = B5 := ⟨_, rfl⟩
      obtain ⟨dd1, hdd1⟩ : ∃ dd1, dd1 = d5 := ⟨_, rfl⟩
      go_upto_region 6 with (fail)
      clear b60 b61 b62 b63
      rw [← e1, ← hA1, ← hcc1] at R0 S0 B6
      rw [← e2, ← hB1, ← hdd1] at S0 B6
      clear e1 e2 hA1 hcc1 hB1 hdd1
      obtain ⟨b60, b61, b62, b63⟩ := keep4 B6.out
      have cf2 := blk_frozen B6.out 2
      go_upto_region 7 with (simp only [hw])
      replace R0 := zA (Kd.R_set R0.out B6.out (by decide) 2 (.int .i64 (x.f2 + 1)))
      replace S0 := zA (Kd.S_set S0.out B6.out (by decide) 2 (.int .i64 (x.f2 + 1)))
      replace BC := zA (blk_far (p := ⟨g6, 2, none⟩) BC.out HG6.out.2.2 (.int .i64 (x.f2 + 1)))
      replace B2 : Aside0 (blkT (W7.setCell ⟨g6, 2, none⟩ (.int .i64 (x.f2 + 1))) g2 (.slice none 0 0) (.slice none 0 0) 0 0) := ⟨blk_far (p := ⟨g6, 2, none⟩) B2.out HG6.out.2.1 (.int .i64 (x.f2 + 1))⟩
      replace HB := zA (below_set HB.out HG6.out.1 (j := 2) (v := .int .i64 (x.f2 + 1)))
      replace B6 := zA (blkT_put2 B6.out (x.f2 + 1))
      clear b60 b61 b62 b63 cf2
      generalize W7.setCell ⟨g6, 2, none⟩ (.int .i64 (x.f2 + 1)) = V1 at R0 S0 BC B2 HB B6 ⊢
      obtain ⟨b60, b61, b62, b63⟩ := keep4 B6.out
      obtain ⟨bc0, bc1, bc2, bc3⟩ := keep4 BC.out
      have cf2 := blk_frozen BC.out 2
      go_upto_region 8 with (fail)
      replace R0 := zA (Kd.R_far (p := ⟨gc, 2, none⟩) R0.out (fun k hk => by have h1 := HL2.out.2; have h2 := hk.2; show k ≠ gc; omega) (.int .i64 (x.f2 + 1)))
      replace S0 := zA (Kd.S_far (p := ⟨gc, 2, none⟩) S0.out (fun k hk => by have h1 := HL2.out.2; have h2 := hk.1; show k ≠ gc; omega) (.int .i64 (x.f2 + 1)))
      replace B2 : Aside0 (blkT (V1.setCell ⟨gc, 2, none⟩ (.int .i64 (x.f2 + 1))) g2 (.slice none 0 0) (.slice none 0 0) 0 0) := ⟨blk_far (p := ⟨gc, 2, none⟩) B2.out HG.out.2.2.2.1 (.int .i64 (x.f2 + 1))⟩
      replace B6 : Aside0 (blkT (V1.setCell ⟨gc, 2, none⟩ (.int .i64 (x.f2 + 1))) g6 (.slice A1 m1.length cc1) (.slice B1 r1.length dd1) (x.f2 + 1) x.f3) := ⟨blk_far (p := ⟨gc, 2, none⟩) B6.out (Ne.symm HG6.out.2.2) (.int .i64 (x.f2 + 1))⟩
      replace BC : Aside0 ((V1.setCell ⟨gc, 2, none⟩ (.int .i64 (x.f2 + 1))).heap[gc]? = some (.cells #[.string c0, .string c1, .int .i64 (x.f2 + 1), .bool c3] TC (0, 0))) := ⟨blk_put BC.out 2 _ rfl⟩
      replace HB := zA (below_set HB.out HG.out.2.2.2.2 (j := 2) (v := .int .i64 (x.f2 + 1)))
      clear b60 b61 b62 b63 bc0 bc1 bc2 bc3 cf2
      generalize V1.setCell ⟨gc, 2, none⟩ (.int .i64 (x.f2 + 1)) = V2 at R0 S0 BC B2 HB B6 ⊢
      obtain ⟨b60, b61, b62, b63⟩ := keep4 B6.out
      obtain ⟨bc0, bc1, bc2, bc3⟩ := keep4 BC.out
      have hng : some g6 ≠ (Value.slice A1 m1.length cc1).ownBlock := Kd.R_ne R0.out B6.out (by decide)
      go_upto_region 9 with (go_at_call 91; refine (call_in (fun k => some k = (Value.slice A1 m1.length cc1).ownBlock ∧ w'.heap.size ≤ k) (.slice A1 m1.length cc1) m1 (chC x.f2 ⟨c0, c1, c2, c3⟩) w V2 HB.out R0.out HM1.out).mono ?_; rintro e V3 ⟨v9, rfl, hR, hb, hkp⟩; have hS := Kd.S_mono (Kd.S_bound S0.out) (ok' := fun k => (w'.heap.size ≤ k ∧ some k ≠ (Value.slice A1 m1.length cc1).ownBlock) ∧ k < V2.heap.size) (fun k h => ⟨h.1, h.2.2.1⟩); replace S0 := zA (Kd.S_mono (Kd.S_kept hS hkp (fun k h h' => h.1.2 h'.1)) (ok' := fun k => some k ≠ v9.ownBlock) (fun k h he => (hR.1 k he.symm).elim (fun h' => h.1.2 h'.1) (fun h' => by have := h.2; omega))); replace B6 := zA (blk_kept B6.out hkp (fun h => hng h.1)); replace B2 := zA (blk_kept B2.out hkp (fun h => by have h1 := HL2.out.1; have h2 := h.2; omega)); replace HB := zA hb; have R9 := zA (Kd.R_mono hR (fun _ _ => trivial) (ok' := fun _ => True)); clear hR hS hb hkp R0 hng BC b60 b61 b62 b63 bc0 bc1 bc2 bc3; obtain ⟨A9, cc9, rfl⟩ := Kd.R_slice R9.out; obtain ⟨b60, b61, b62, b63⟩ := keep4 B6.out; have cf0 := blk_frozen B6.out 0)
      rw [HIN.out] at R9 S0 ⊢
      replace R9 := zA (Kd.R_set R9.out B6.out (by decide) 0 (.slice A9 mm.length cc9))
      replace S0 := zA (Kd.S_set S0.out B6.out (by decide) 0 (.slice A9 mm.length cc9))
      replace B2 : Aside0 (blkT (V3.setCell ⟨g6, 0, none⟩ (.slice A9 mm.length cc9)) g2 (.slice none 0 0) (.slice none 0 0) 0 0) := ⟨blk_far (p := ⟨g6, 0, none⟩) B2.out HG6.out.2.1 _⟩
      replace HB := zA (below_set HB.out HG6.out.1 (j := 0) (v := .slice A9 mm.length cc9))
      replace B6 := zA (blkT_put0 B6.out (.slice A9 mm.length cc9))
      clear b60 b61 b62 b63 cf0
      generalize V3.setCell ⟨g6, 0, none⟩ (.slice A9 mm.length cc9) = V4 at R9 S0 B2 HB B6 ⊢
      obtain ⟨b60, b61, b62, b63⟩ := keep4 B6.out
      obtain ⟨b20, b21, b22, b23⟩ := keep4 B2.out; have cf0 := blk_frozen B2.out 0; have cf1 := blk_frozen B2.out 1; have cf2 := blk_frozen B2.out 2; have cf3 := blk_frozen B2.out 3
      go_wp2
      refine bodyPost_ret (results_ct rfl _ _ g2 31 #[.slice A9 mm.length cc9, .slice B1 r1.length dd1, .int .i64 (x.f2 + 1), .int .i64 x.f3] (0, 0) _ rfl (put4_blk B2.out) Try.underlying31 rfl (by kernel_rfl)) rfl ?_
      rw [hT.out]
      exact ⟨_, _, rfl, put4_R B2.out R9.out, put4_S B2.out S0.out, put4_below HB.out HG.out.2.1⟩
end Go.Proofs.Ythffllegmkolgaa.TreeK
