/- The reference's Flush, called. -/
import Derived.Test.YthffllegmkolgaaT5FlushP
namespace Go.Proofs.Ythffllegmkolgaa.TreeK
open Go.RowKit Go.Proofs.YthffllegmkolgaaW.PrintWords Go.Proofs.YthffllegmkolgaaW.PrintLast Go.Proofs.YthffllegmkolgaaW.PrintMore Go.Proofs.Ythffllegmkolgaa.QTree Go.Proofs.Ythffllegmkolgaa.EvKit Go.Proofs.Ythffllegmkolgaa.GTree
set_option linter.unusedSimpArgs false
set_option linter.unusedVariables false
set_option maxHeartbeats 1600000 in
set_option maxRecDepth 100000 in
theorem flush_spec (A B : Option Addr) (c d : Nat) (x : Tre) (w : World) (h : TreeC w x A c B d) (sm : sm_Tree x) :
    Calls Try.prog 40 #[.agg #[.slice A x.f0.length c, .slice B x.f1.length d, .int .i64 x.f2, .int .i64 x.f3]] w fun e w' => ∃ v0 v1 : Value, e = .returned (.agg #[v0, v1, .int .i64 (flT x).f2, .int .i64 (flT x).f3]) ∧ KC.R TC w' w.heap.size (fun _ => True) v0 (flT x).f0 ∧ Kd.S KL TL w' w.heap.size (fun k => some k ≠ v0.ownBlock) v1 (flT x).f1 ∧ Below w.heap.size w w' := by
  have HM := zA h
  have SM := zA sm
  clear h sm
  have hu31 := Try.underlying31
  have hb1 := bel_alloc w (.cells #[.slice A x.f0.length c, .slice B x.f1.length d, .int .i64 x.f2, .int .i64 x.f3] 31)
  have B1 := zA (blk_new w (.cells #[.slice A x.f0.length c, .slice B x.f1.length d, .int .i64 x.f2, .int .i64 x.f3] 31))
  go_enter Try.func40, Try.ntmps40
  go_upto_region 1 with (fail)
  obtain ⟨W, hW⟩ : ∃ W, W = (w.alloc (.cells #[.slice A x.f0.length c, .slice B x.f1.length d, .int .i64 x.f2, .int .i64 x.f3] 31)).alloc (.cells #[.slice none 0 0, .slice none 0 0, .int .i64 0, .int .i64 0] 31) := ⟨_, rfl⟩
  obtain ⟨g1, hg1⟩ : ∃ g1, g1 = w.heap.size := ⟨_, rfl⟩
  obtain ⟨g2, hg2⟩ : ∃ g2, g2 = w.heap.size + 1 := ⟨_, rfl⟩
  have B2 : Aside0 (blkT W g2 (.slice none 0 0) (.slice none 0 0) 0 0) := ⟨by
    have h := blk_new (w.alloc (.cells #[.slice A x.f0.length c, .slice B x.f1.length d, .int .i64 x.f2, .int .i64 x.f3] 31)) (.cells #[.slice none 0 0, .slice none 0 0, .int .i64 0, .int .i64 0] 31)
    rw [show (w.alloc (.cells #[.slice A x.f0.length c, .slice B x.f1.length d, .int .i64 x.f2, .int .i64 x.f3] 31)).heap.size = g2 from by rw [hg2]; exact Array.size_push _, ← hW] at h
    exact h⟩
  replace B1 : Aside0 (blkT W g1 (.slice A x.f0.length c) (.slice B x.f1.length d) x.f2 x.f3) := ⟨by rw [hW, hg1]; exact blk_alloc B1.out _⟩
  have HB : Aside0 (Below w.heap.size w W) := ⟨by rw [hW]; exact bel hb1 (bel_alloc _ _)⟩
  have HG : Aside0 (w.heap.size ≤ g1 ∧ w.heap.size ≤ g2 ∧ g2 ≠ g1) := ⟨by omega⟩
  rw [← hW, ← hg2, ← hg1]
  clear hW hg1 hg2 hb1
  obtain ⟨b10, b11, b12, b13⟩ := keep4 B1.out
  have HC := zA (call_tree_spec A B c d x W (HM.out.below HB.out) SM.out)
  have HT : Aside0 (TreeC W x A c B d) := ⟨HM.out.below HB.out⟩
  cases ht : trB x
  · have HF := zA ht
    rw [ht] at HC
    clear ht
    go_wp2_with (go_at_call 16; refine HC.out.mono ?_; rintro e w' ⟨rfl, hb⟩; replace B2 := zA (blk_below B2.out hb); replace HB := zA (bel HB.out hb); clear hb b10 b11 b12 b13; obtain ⟨c10, c11, c12, c13⟩ := keep4 B2.out; have cf0 := blk_frozen B2.out 0; have cf1 := blk_frozen B2.out 1; have cf2 := blk_frozen B2.out 2; have cf3 := blk_frozen B2.out 3)
    refine bodyPost_ret (results_cell_row rfl _ _ g2 31 #[.slice none 0 0, .slice none 0 0, .int .i64 0, .int .i64 0] (0, 0) _ rfl (put4_blk B2.out) Try.underlying31 rfl (by kernel_rfl)) rfl ?_
    have hT : flT x = ⟨[], [], 0, 0⟩ := by rw [flT, HF.out]; rfl
    rw [hT]
    exact ⟨_, _, rfl, Kd.R_nil _ _ _ _ _, Kd.S_nil _ _ _ _ _, put4_below HB.out HG.out.2.1⟩
  · have HF := zA ht
    rw [ht] at HC
    clear ht
    have HR := zA (tree_facts HF.out)
    go_upto_region 4 with (first
      | (go_at_call 16; refine HC.out.mono ?_; rintro e w' ⟨rfl, hb⟩; replace B2 := zA (blk_below B2.out hb); replace B1 := zA (blk_below B1.out hb); replace HB := zA (bel HB.out hb); replace HT := zA (HT.out.below hb); clear hb b10 b11 b12 b13; obtain ⟨b10, b11, b12, b13⟩ := keep4 B1.out)
      | (go_at_call 88; refine (call_copy_spec A B c d x _ HT.out (fit_of x SM.out)).mono ?_; rintro e w5 ⟨v0, v1, rfl, hR0, hS0, hb⟩; have HL2 := zA (blk_lt B2.out); replace B2 := zA (blk_below B2.out hb); have HBS := zA (And.intro HB.out.size hb.size); replace HB := zA (bel HB.out hb); clear hb b10 b11 b12 b13; obtain ⟨A5, c5, rfl⟩ := Kd.R_slice hR0; obtain ⟨B5, d5, rfl⟩ := Kd.S_slice hS0; have R0 := zA hR0; have S0 := zA hS0; clear hR0 hS0)
      | ((with_reducible refine gate_dst (N := 3) rfl ?_); refine box_event ?hg (N := 3) ?hd (cs := #[.slice none 0 0, .slice none 0 0, .int .i64 0, .int .i64 0]) (t := 31) ?hr ?_; (case hd => rfl); (case hg => rfl); (case hr => first | (go_simp; done) | (go_simp; rfl)); intro g3 hg w6 hbox hb; have B3 : Aside0 (blkT w6 g3 (.slice none 0 0) (.slice none 0 0) 0 0) := ⟨hbox⟩; have HG3 : Aside0 (w.heap.size ≤ g3 ∧ g2 ≠ g3) := ⟨by have h1 := HB.out.size; have h2 := blk_lt B2.out; rw [hg]; exact ⟨h1, by omega⟩⟩; replace B2 := zA (blk_below B2.out hb); replace HB := zA (bel HB.out hb); replace R0 := zA (Kd.R_below R0.out hb); replace S0 := zA (Kd.S_below S0.out hb); replace HBS := zA (And.intro HBS.out.1 (Nat.le_trans HBS.out.2 hb.size)); have cf0 := blk_frozen B3.out 0; have cf1 := blk_frozen B3.out 1; have cf2 := blk_frozen B3.out 2; have cf3 := blk_frozen B3.out 3; obtain ⟨b30, b31, b32, b33⟩ := keep4 B3.out; clear hg hbox hb))
    obtain ⟨v0, hv0⟩ : ∃ v0 : Value, v0 = .slice A5 x.f0.length c5 := ⟨_, rfl⟩
    obtain ⟨v1, hv1⟩ : ∃ v1 : Value, v1 = .slice B5 x.f1.length d5 := ⟨_, rfl⟩
    have N2 := zA (put4_far (a := .slice A5 x.f0.length c5) (b := .slice B5 x.f1.length d5) (x := x.f2) (y := x.f3) B2.out HG3.out.2)
    have NB := zA (put4_below (a := .slice A5 x.f0.length c5) (b := .slice B5 x.f1.length d5) (x := x.f2) (y := x.f3) HB.out HG3.out.1)
    have NR := zA (put4_R (a := .slice A5 x.f0.length c5) (b := .slice B5 x.f1.length d5) (x := x.f2) (y := x.f3) B3.out R0.out)
    have NS := zA (put4_S (a := .slice A5 x.f0.length c5) (b := .slice B5 x.f1.length d5) (x := x.f2) (y := x.f3) B3.out S0.out)
    have N3 := zA (put4_blk (a := .slice A5 x.f0.length c5) (b := .slice B5 x.f1.length d5) (x := x.f2) (y := x.f3) B3.out)
    have hsz := put4_size w6 g3 (.slice A5 x.f0.length c5) (.slice B5 x.f1.length d5) x.f2 x.f3
    have HBS2 : Aside0 (w.heap.size ≤ w'.heap.size ∧ w'.heap.size ≤ (put4 w6 g3 (.slice A5 x.f0.length c5) (.slice B5 x.f1.length d5) x.f2 x.f3).heap.size) := ⟨HBS.out.1, by rw [hsz]; exact HBS.out.2⟩
    clear B2 HB R0 S0 B3 HBS b30 b31 b32 b33 cf0 cf1 cf2 cf3 hsz hv0 hv1 v0 v1 HT HC B1
    have e4 : put4 w6 g3 (.slice A5 x.f0.length c5) (.slice B5 x.f1.length d5) x.f2 x.f3 = ((((w6.setCell ⟨g3, 0, none⟩ (.slice A5 x.f0.length c5)).setCell ⟨g3, 1, none⟩ (.slice B5 x.f1.length d5)).setCell ⟨g3, 2, none⟩ (.int .i64 x.f2)).setCell ⟨g3, 3, none⟩ (.int .i64 x.f3)) := rfl
    rw [← e4]
    clear e4
    generalize put4 w6 g3 (.slice A5 x.f0.length c5) (.slice B5 x.f1.length d5) x.f2 x.f3 = W7 at N2 NB NR NS N3 HBS2 ⊢
    have hT : Aside0 (flT x = ⟨[], flR x.f0 x.f1, x.f2, x.f3⟩) := ⟨by rw [flT, if_pos HF.out]⟩
    have HFit := zA (fit_of x SM.out)
    clear SM HM HF
    obtain ⟨b30, b31, b32, b33⟩ := keep4 N3.out
    by_cases hm : x.f0 = []
    · have e0 : x.f0.length = 0 := by rw [hm]; rfl
      obtain ⟨b20, b21, b22, b23⟩ := keep4 N2.out
      have cf0 := blk_frozen N2.out 0
      have cf1 := blk_frozen N2.out 1
      have cf2 := blk_frozen N2.out 2
      have cf3 := blk_frozen N2.out 3
      simp only [e0] at b30 ⊢
      go_wp2
      refine bodyPost_ret (results_cell_row rfl _ _ g2 31 #[.slice A5 0 c5, .slice B5 x.f1.length d5, .int .i64 x.f2, .int .i64 x.f3] (0, 0) _ rfl (put4_blk N2.out) Try.underlying31 rfl (by kernel_rfl)) rfl ?_
      have hR0 := NR.out
      have hS0 := NS.out
      rw [hT.out, flR, if_pos hm]
      simp only [e0] at hR0 hS0
      rw [hm] at hR0
      exact ⟨_, _, rfl, Kd.R_lower (put4_R N2.out hR0) HBS2.out.1, Kd.S_lower (put4_S N2.out hS0) HBS2.out.1, put4_below NB.out HG.out.2.1⟩
    have hpos : 0 < x.f0.length := List.length_pos_iff.2 hm
    have hne : ¬ x.f0.length = 0 := by omega
    have HR0 := zA (Kd.R_tight rfl NR.out)
    have HLo : Aside0 (∀ k, some k = (Value.slice A5 x.f0.length c5).ownBlock → k < W7.heap.size) := ⟨fun k hk => Kd.R_lt NR.out k hk.symm⟩
    have HS0 := zA (Kd.S_mono (Kd.S_bound NS.out) (ok' := fun k => some k ≠ (Value.slice A5 x.f0.length c5).ownBlock ∧ k < W7.heap.size) (fun k hk => ⟨hk.1, hk.2.2.1⟩))
    have b34 : (W7.alloc (.cells #[.slice A5 x.f0.length c5] 28)).cell? ⟨g3, 1, none⟩ = some (.slice B5 x.f1.length d5) := cellAl b31 _
    clear NR NS
    go_upto_region 8 with ((with_reducible refine gate_builtin (b := .append) (xs := #[.tmp 19, .tmp 21]) rfl ?_); at_builtin; refine prepend_list (base := w'.heap.size) (g := W7.heap.size) (P0 := fun k => some k = (Value.slice A5 x.f0.length c5).ownBlock) (P1 := fun k => some k ≠ (Value.slice A5 x.f0.length c5).ownBlock ∧ k < W7.heap.size) (v0 := .slice A5 x.f0.length c5) (B := B5) (n := x.f1.length) (c := d5) (m := x.f0) (rs := x.f1) rfl (.tmp 19) (.tmp 21) rfl (fun k h h' => h'.1 h) (Kd.R_alloc HR0.out _) (Kd.S_alloc HS0.out _) (blk_new W7 _) HBS2.out.2 (fun k h => by have := HLo.out k h; omega) (fun k h => by have := h.2; omega) rfl rfl (Nat.le_trans HBS2.out.2 (bel_alloc W7 _).size) (by have := HR.out.runs; omega) ?_; intro v1 w8 hS hgr hat; have hsz := (bel_alloc W7 (.cells #[.slice A5 x.f0.length c5] TL)).size; have hnb := Nat.le_trans NB.out.size hsz; have hb0 := NB.out.size; have hl3 := blk_lt N3.out; have hl2 := blk_lt N2.out; obtain ⟨L, hL⟩ : ∃ L, L = x.f0 :: x.f1 := ⟨_, rfl⟩; rw [← hL] at hS; have HLE := zA hL; clear hL; obtain ⟨B8, d8, rfl⟩ := Kd.S_slice hS; have S8 := zA (Kd.S_mono hS (fun _ _ => trivial) (ok' := fun _ => True)); replace N2 := zA (blk_grown (blk_alloc N2.out _) hgr (by intro he; injection he with he; omega)); replace N3 := zA (blk_grown (blk_alloc N3.out _) hgr (by intro he; injection he with he; omega)); replace NB := zA (Below.grown (bel NB.out (bel_alloc W7 (.cells #[.slice A5 x.f0.length c5] TL))) hgr hnb (fun k hk => by injection hk with hk; omega)); replace HBS2 := zA (And.intro HBS2.out.1 (Nat.le_trans HBS2.out.2 (Nat.le_trans hsz hgr.size))); clear hS hgr hat hsz hnb hb0 hl3 hl2 b34 HR0 HS0 HLo b30 b31 b32 b33 hpos hne; obtain ⟨b30, b31, b32, b33⟩ := keep4 N3.out; have cf0 := blk_frozen N3.out 0; have cf1 := blk_frozen N3.out 1)
    have hg3 := HG3.out.1
    replace S8 := zA (Kd.S_set (Kd.S_set S8.out N3.out (by decide) 1 (.slice B8 L.length d8)) (blkT_put1 N3.out (.slice B8 L.length d8)) (by decide) 0 (.slice none 0 0))
    replace N2 : Aside0 (blkT ((w8.setCell ⟨g3, 1, none⟩ (.slice B8 L.length d8)).setCell ⟨g3, 0, none⟩ (.slice none 0 0)) g2 (.slice none 0 0) (.slice none 0 0) 0 0) := ⟨blk_far (p := ⟨g3, 0, none⟩) (blk_far (p := ⟨g3, 1, none⟩) N2.out HG3.out.2 _) HG3.out.2 _⟩
    replace NB := zA (below_set (below_set NB.out hg3 (j := 1) (v := .slice B8 L.length d8)) hg3 (j := 0) (v := .slice none 0 0))
    replace HBS2 : Aside0 (w.heap.size ≤ w'.heap.size ∧ w'.heap.size ≤ ((w8.setCell ⟨g3, 1, none⟩ (.slice B8 L.length d8)).setCell ⟨g3, 0, none⟩ (.slice none 0 0)).heap.size) := ⟨HBS2.out.1, by simpa [World.setCell] using HBS2.out.2⟩
    replace N3 := zA (blkT_put0 (blkT_put1 N3.out (.slice B8 L.length d8)) (.slice none 0 0))
    clear b30 b31 b32 b33 cf0 cf1
    generalize (w8.setCell ⟨g3, 1, none⟩ (.slice B8 L.length d8)).setCell ⟨g3, 0, none⟩ (.slice none 0 0) = W9 at S8 N2 NB HBS2 N3 ⊢
    have HLL : Aside0 (L.length = x.f1.length + 1) := ⟨by rw [HLE.out]; rfl⟩
    obtain ⟨b30, b31, b32, b33⟩ := keep4 N3.out
    by_cases h6 : 6 < L.length
    case neg =>
      have hd6 : ¬ (6 : Int) < (L.length : Int) := by omega
      obtain ⟨b20, b21, b22, b23⟩ := keep4 N2.out
      have cf0 := blk_frozen N2.out 0
      have cf1 := blk_frozen N2.out 1
      have cf2 := blk_frozen N2.out 2
      have cf3 := blk_frozen N2.out 3
      go_wp2
      refine bodyPost_ret (results_cell_row rfl _ _ g2 31 #[.slice none 0 0, .slice B8 L.length d8, .int .i64 x.f2, .int .i64 x.f3] (0, 0) _ rfl (put4_blk N2.out) Try.underlying31 rfl (by kernel_rfl)) rfl ?_
      rw [hT.out, flR, if_neg hm, ← HLE.out, joinL, if_neg h6]
      exact ⟨_, _, rfl, Kd.R_nil _ _ _ _ _, Kd.S_mono (Kd.S_lower (put4_S N2.out S8.out) HBS2.out.1) (fun k _ => by simp [Value.ownBlock]), put4_below NB.out HG.out.2.1⟩
    obtain ⟨L0, L1, L2, L3, L4, a, b, rfl⟩ : ∃ L0 L1 L2 L3 L4 a b, L = [L0, L1, L2, L3, L4, a, b] := by
      have hrr := HR.out.runs
      match L, HLL.out, h6 with
      | [L0, L1, L2, L3, L4, a, b], _, _ => exact ⟨_, _, _, _, _, _, _, rfl⟩
      | [], _, h => simp at h
      | [_], _, h => simp at h
      | [_, _], _, h => simp at h
      | [_, _, _], _, h => simp at h
      | [_, _, _, _], _, h => simp at h
      | [_, _, _, _, _], _, h => simp at h
      | [_, _, _, _, _, _], _, h => simp at h
      | _ :: _ :: _ :: _ :: _ :: _ :: _ :: _ :: _, h, _ => exfalso; simp at h; omega
    obtain ⟨gr, cr, ev, hgr1, hgr2, hgr3⟩ := Kd.S_form S8.out (by simp)
    injection ev with ev1 ev2 ev3
    subst ev1 ev3
    have HRR := (Kd.S_reads' S8.out).2.2
    obtain ⟨a5, A5', c5', e5, hx5, hl5, hC5⟩ := at_L6 HRR 5 (by decide) (by simp)
    cases e5
    obtain ⟨a6, A6', c6', e6, hx6, hl6, hC6⟩ := at_L6 HRR 6 (by decide) (by simp)
    cases e6
    have ha : a ∈ x.f0 :: x.f1 := by rw [← HLE.out]; simp
    have hb : b ∈ x.f0 :: x.f1 := by rw [← HLE.out]; simp
    have hall : ∀ r ∈ x.f0 :: x.f1, r.length ≤ 1048576 := fun r hr => by
      rcases List.mem_cons.1 hr with rfl | h
      · exact HFit.out.1
      · exact HFit.out.2.2 r h
    have HFL : Aside0 (a.length ≤ 1048576 ∧ b.length ≤ 1048576) := ⟨hall a ha, hall b hb⟩
    have HSR : Aside0 (srtOn a b = srt (a ++ b)) := ⟨srtOn_eq (HR.out.ord a ha) (by
      have hn := HR.out.tie
      rw [← HLE.out] at hn
      refine noTie_sub ?_ hn
      rw [show ([L0, L1, L2, L3, L4, a, b] : List (List Cel)).flatten = [L0, L1, L2, L3, L4].flatten ++ (a ++ b) by simp]
      exact List.sublist_append_right _ _)⟩
    have H5 : Aside0 (a.length ≤ c5' ∧ KC.C W9 A5' a.length a) := ⟨hl5, hC5⟩
    have H6 : Aside0 (b.length ≤ c6' ∧ KC.C W9 A6' b.length b) := ⟨hl6, hC6⟩
    have HX : Aside0 (W9.cell? ⟨gr, 5, none⟩ = some (.slice A5' a.length c5') ∧ W9.cell? ⟨gr, 6, none⟩ = some (.slice A6' b.length c6')) := ⟨hx5, hx6⟩
    have HGR : Aside0 (w'.heap.size ≤ gr ∧ gr < W9.heap.size) := ⟨hgr1, hgr2⟩
    clear hl5 hC5 hl6 hC6 hx5 hx6 HRR hgr1 hgr2 hgr3 h6 HLL ha hb hall b30 b31 b32 b33
    simp only [List.length_cons, List.length_nil, Nat.reduceAdd] at S8 N3 ⊢
    obtain ⟨b30, b31, b32, b33⟩ := keep4 N3.out
    go_upto_region 10 with (fail)
    clear b30 b31 b32 b33
    refine start_ (n := 14) (S := fun w' => w'.cell? ⟨g3, 1, none⟩ = some (.slice (some ⟨gr, 0, none⟩) 7 d8) ∧ w'.cell? ⟨gr, 5, none⟩ = some (.slice A5' a.length c5') ∧ w'.cell? ⟨gr, 6, none⟩ = some (.slice A6' b.length c6')) (ds := [13]) #[false, false, false, false, false, false, false, false, false, false, false, false, false, false] (by kernel_rfl) rfl rfl ⟨(blk_cell N3.out 1).trans rfl, HX.out.1, HX.out.2⟩ (fun hHeld => ?_)
    replace S8 := zA (Kd.S_drew S8.out)
    replace N3 : Aside0 (blkT W9.drew g3 (.slice none 0 0) (.slice (some ⟨gr, 0, none⟩) 7 d8) x.f2 x.f3) := ⟨N3.out⟩
    replace N2 : Aside0 (blkT W9.drew g2 (.slice none 0 0) (.slice none 0 0) 0 0) := ⟨N2.out⟩
    replace NB := zA (below_drew NB.out)
    replace HBS2 : Aside0 (w.heap.size ≤ w'.heap.size ∧ w'.heap.size ≤ W9.drew.heap.size) := ⟨HBS2.out⟩
    replace H5 : Aside0 (a.length ≤ c5' ∧ KC.C W9.drew A5' a.length a) := ⟨H5.out.1, Kd.C_drew H5.out.2⟩
    replace H6 : Aside0 (b.length ≤ c6' ∧ KC.C W9.drew A6' b.length b) := ⟨H6.out.1, Kd.C_drew H6.out.2⟩
    replace HX : Aside0 (W9.drew.cell? ⟨gr, 5, none⟩ = some (.slice A5' a.length c5') ∧ W9.drew.cell? ⟨gr, 6, none⟩ = some (.slice A6' b.length c6')) := ⟨HX.out⟩
    replace HGR : Aside0 (w'.heap.size ≤ gr ∧ gr < W9.drew.heap.size) := ⟨HGR.out⟩
    generalize W9.drew = W11 at S8 N3 N2 NB HBS2 H5 H6 HX HGR hHeld ⊢
    refine pure_ (i := 0) (N := some 30) (v := ?_) (a' := ?_) #[true, false, false, false, false, false, false, false, false, false, false, false, false, false] rfl rfl (by kernel_rfl) (fun _ _ _ h => h) (Or.inl ⟨by rfl, ?_⟩) ?_ ?_
    rotate_left
    · intro w'
      go_simp
      with_reducible rfl
    rotate_left
    · simp only [Act.put, sT_, s0_, sS_, i64_w, i32_w]
      rfl
    refine pure_ (i := 2) (N := some 32) (v := ?_) (a' := ?_) #[true, false, true, false, false, false, false, false, false, false, false, false, false, false] rfl rfl (by kernel_rfl) (fun _ _ _ h => h) (Or.inl ⟨by rfl, ?_⟩) ?_ ?_
    rotate_left
    · intro w'
      go_simp
      with_reducible rfl
    rotate_left
    · simp only [Act.put, sT_, s0_, sS_, i64_w, i32_w]
      rfl
    refine pure_ (i := 3) (N := some 33) (v := ?_) (a' := ?_) #[true, false, true, true, false, false, false, false, false, false, false, false, false, false] rfl rfl (by kernel_rfl) (fun _ _ _ h => h) (Or.inl ⟨by rfl, ?_⟩) ?_ ?_
    rotate_left
    · intro w'
      go_simp
      with_reducible rfl
    rotate_left
    · simp only [Act.put, sT_, s0_, sS_, i64_w, i32_w]
      rfl
    refine pure_ (i := 6) (N := some 36) (v := ?_) (a' := ?_) #[true, false, true, true, false, false, true, false, false, false, false, false, false, false] rfl rfl (by kernel_rfl) (fun _ _ _ h => h) (Or.inl ⟨by rfl, ?_⟩) ?_ ?_
    rotate_left
    · intro w'
      go_simp
      with_reducible rfl
    rotate_left
    · simp only [Act.put, sT_, s0_, sS_, i64_w, i32_w]
      rfl
    refine pure_ (i := 8) (N := some 38) (v := ?_) (a' := ?_) #[true, false, true, true, false, false, true, false, true, false, false, false, false, false] rfl rfl (by kernel_rfl) (fun _ _ _ h => h) (Or.inl ⟨by rfl, ?_⟩) ?_ ?_
    rotate_left
    · intro w'
      go_simp
      with_reducible rfl
    rotate_left
    · simp only [Act.put, sT_, s0_, sS_, i64_w, i32_w]
      rfl
    refine pure_ (i := 9) (N := some 39) (v := ?_) (a' := ?_) #[true, false, true, true, false, false, true, false, true, true, false, false, false, false] rfl rfl (by kernel_rfl) (fun _ _ _ h => h) (Or.inl ⟨by rfl, ?_⟩) ?_ ?_
    rotate_left
    · intro w'
      go_simp
      with_reducible rfl
    rotate_left
    · simp only [Act.put, sT_, s0_, sS_, i64_w, i32_w]
      rfl
    refine take_ (i := 1) (N := some 31) (v := ?_) (a' := ?_) #[true, true, true, true, false, false, true, false, true, true, false, false, false, false] rfl rfl (by kernel_rfl) (fun _ _ _ h => h) (Or.inl ⟨by rfl, ?_⟩) hHeld ?_ ?_
    rotate_left
    · rintro w' ⟨s0, s1, s2⟩
      go_simp
      with_reducible rfl
    rotate_left
    · simp only [Act.put, sT_, s0_, sS_, i64_w, i32_w]
      rfl
    refine take_ (i := 7) (N := some 37) (v := ?_) (a' := ?_) #[true, true, true, true, false, false, true, true, true, true, false, false, false, false] rfl rfl (by kernel_rfl) (fun _ _ _ h => h) (Or.inl ⟨by rfl, ?_⟩) hHeld ?_ ?_
    rotate_left
    · rintro w' ⟨s0, s1, s2⟩
      go_simp
      with_reducible rfl
    rotate_left
    · simp only [Act.put, sT_, s0_, sS_, i64_w, i32_w]
      rfl
    refine pure_ (i := 4) (N := some 34) (v := ?_) (a' := ?_) #[true, true, true, true, true, false, true, true, true, true, false, false, false, false] rfl rfl (by kernel_rfl) (fun _ _ _ h => h) (Or.inl ⟨by rfl, ?_⟩) ?_ ?_
    rotate_left
    · intro w'
      go_simp
      simp only [w5_, w6_]
      go_simp
      first | (with_reducible rfl) | rfl
    rotate_left
    · simp only [Act.put, sT_, s0_, sS_, i64_w, i32_w]
      rfl
    refine pure_ (i := 10) (N := some 40) (v := ?_) (a' := ?_) #[true, true, true, true, true, false, true, true, true, true, true, false, false, false] rfl rfl (by kernel_rfl) (fun _ _ _ h => h) (Or.inl ⟨by rfl, ?_⟩) ?_ ?_
    rotate_left
    · intro w'
      go_simp
      simp only [w5_, w6_]
      go_simp
      first | (with_reducible rfl) | rfl
    rotate_left
    · simp only [Act.put, sT_, s0_, sS_, i64_w, i32_w]
      rfl
    refine take_ (i := 5) (N := some 35) (v := ?_) (a' := ?_) #[true, true, true, true, true, true, true, true, true, true, true, false, false, false] rfl rfl (by kernel_rfl) (fun _ _ _ h => h) (Or.inl ⟨by rfl, ?_⟩) hHeld ?_ ?_
    rotate_left
    · rintro w' ⟨s0, s1, s2⟩
      go_simp
      with_reducible rfl
    rotate_left
    · simp only [Act.put, sT_, s0_, sS_, i64_w, i32_w]
      rfl
    refine take_ (i := 11) (N := some 41) (v := ?_) (a' := ?_) #[true, true, true, true, true, true, true, true, true, true, true, true, false, false] rfl rfl (by kernel_rfl) (fun _ _ _ h => h) (Or.inl ⟨by rfl, ?_⟩) hHeld ?_ ?_
    rotate_left
    · rintro w' ⟨s0, s1, s2⟩
      go_simp
      with_reducible rfl
    rotate_left
    · simp only [Act.put, sT_, s0_, sS_, i64_w, i32_w]
      rfl
    refine one_ (i := 12) (N := some 42) #[true, true, true, true, true, true, true, true, true, true, true, true, true, false] rfl rfl (by kernel_rfl) (by decide) (fun K hK => ?_)
    obtain ⟨z, hz⟩ : ∃ z : List Cel, z = srtOn a b := ⟨_, rfl⟩
    have HZ := zA hz
    clear hz
    refine goes_ Try.func89 (by kernel_rfl) rfl #[.slice A5' a.length c5', .slice A6' b.length c6'] (by rfl) rfl rfl (by (try simp only [List.map_toArray, List.map_cons, List.map_nil]); first | done | rfl) ?_
    refine (call_join A5' A6' c5' c6' a b W11 H5.out.2 H5.out.1 H6.out.2 H6.out.1 HFL.out.1 HFL.out.2).mono ?_
    rintro e W12 ⟨v3, rfl, hR, hb⟩
    refine ⟨_, rfl, ?_⟩
    rw [← HZ.out] at hR
    replace HX := zA (And.intro (cellU HX.out.1 hb) (cellU HX.out.2 hb))
    replace N3 := zA (blk_below N3.out hb)
    replace N2 := zA (blk_below N2.out hb)
    replace S8 := zA (Kd.S_below (Kd.S_mono (Kd.S_bound S8.out) (ok' := fun k => k < W11.heap.size) (fun k hk => hk.2.2.1)) hb)
    replace NB := zA (bel NB.out hb)
    have HR3 := zA (Kd.R_tight rfl hR)
    have HNN : Aside0 (w'.heap.size ≤ W11.heap.size ∧ W11.heap.size ≤ W12.heap.size) := ⟨HBS2.out.2, hb.size⟩
    clear hR hb H5 H6
    obtain ⟨A3, c3, rfl⟩ := Kd.R_slice HR3.out
    refine hK.out _ _ ⟨(blk_cell N3.out 1).trans rfl, HX.out.1, HX.out.2⟩ (fun hHeld => ?_)
    clear hK K
    refine norm_ (a' := ?_) ?_ ?_
    rotate_left
    · show Act.put _ (some 42) _ = _
      simp only [Act.put, sT_, s0_, sS_, i64_w, i32_w]
      rfl
    refine pure_ (i := 13) (N := some 5) (v := ?_) (a' := ?_) #[true, true, true, true, true, true, true, true, true, true, true, true, true, true] rfl rfl (by kernel_rfl) (fun _ _ _ h => h) (Or.inl ⟨by rfl, ?_⟩) ?_ ?_
    rotate_left
    · intro w'
      go_simp
      with_reducible rfl
    rotate_left
    · simp only [Act.put, sT_, s0_, sS_, i64_w, i32_w]
      rfl
    refine done_ (by kernel_rfl) ?_
    have hv3 : ∀ k, some k = (Value.slice A3 z.length c3).ownBlock → W11.heap.size ≤ k := fun k hk => Kd.R_base HR3.out k hk.symm
    have hng : some g3 ≠ (Value.slice (some ⟨gr, 0, none⟩) 7 d8).ownBlock := Kd.S_ne S8.out N3.out (by decide)
    have hng2 : some g2 ≠ (Value.slice (some ⟨gr, 0, none⟩) 7 d8).ownBlock := Kd.S_ne S8.out N2.out (by decide)
    have hcap : 7 ≤ d8 := (Kd.S_reads' S8.out).2.1
    have hcap5 : (5 : Int) ≤ (d8 : Int) := by omega
    obtain ⟨b30, b31, b32, b33⟩ := keep4 N3.out
    go_upto_region 12 with (first | simp only [w5_] | ((with_reducible refine gate_builtin (b := .append) (xs := #[.tmp 47, .tmp 49]) rfl ?_); at_builtin; refine Kd.S_append KL (w0 := W12) w'.heap.size rfl (.tmp 47) (.tmp 49) 29 TL (.slice none 0 0) 24 rfl Try.underlying29 info28 rfl (by decide) (by omega) (.slice (some ⟨gr, 0, none⟩) 5 d8) [L0, L1, L2, L3, L4] z [.slice A3 z.length c3] (fun _ => True) (fun k => some k = (Value.slice A3 z.length c3).ownBlock) ?aS rfl ?aP ?aK (fun _ _ => trivial) ?aO (Below.refl _ _) (Nat.le_trans HNN.out.1 HNN.out.2) (by simp) ?_; (case aS => first | rfl | (simp only [w5_]; rfl)); (case aP => exact Kd.M_row (Kd.R_lower HR3.out HNN.out.1)); (case aK => exact fun k hk => ⟨trivial, fun he => by have h1 := hv3 k hk; have h2 : k = gr := (by simpa [Value.ownBlock] using he); have := HGR.out.2; omega⟩); (case aO => exact Kd.S_mono (Kd.S_take S8.out (m := 5) (by simp)) (fun k hk => ⟨trivial, fun he => by have := hv3 k he; omega⟩)); intro v1 W13 hS _ hgr hat; obtain ⟨B9, d9, e9⟩ := Kd.S_slice hS; obtain rfl : v1 = .slice B9 6 d9 := e9; replace N3 := zA (blk_grown N3.out hgr (by simpa [Value.ownBlock] using hng)); replace N2 := zA (blk_grown N2.out hgr (by simpa [Value.ownBlock] using hng2)); replace NB := zA (Below.grown NB.out hgr NB.out.size (fun k hk => by have := HGR.out.1; have := HBS2.out.1; have : gr = k := (by simpa [Value.ownBlock] using hk); omega)); replace S8 := zA hS; have hs0 : W13.cell? ⟨g3, 1, none⟩ = some (.slice (some ⟨gr, 0, none⟩) 7 d8) := (blk_cell N3.out 1).trans rfl; have hs1 := blk_frozen N3.out 1; clear hS hgr hat hv3 hng hng2 b30 b31 b32 b33))
    have hg3 := HG3.out.1
    replace S8 := zA (Kd.S_set S8.out N3.out (by decide) 1 (.slice B9 6 d9))
    replace N2 : Aside0 (blkT (W13.setCell ⟨g3, 1, none⟩ (.slice B9 6 d9)) g2 (.slice none 0 0) (.slice none 0 0) 0 0) := ⟨blk_far (p := ⟨g3, 1, none⟩) N2.out HG3.out.2 _⟩
    replace NB := zA (below_set NB.out hg3 (j := 1) (v := .slice B9 6 d9))
    replace N3 := zA (blkT_put1 N3.out (.slice B9 6 d9))
    clear hs0 hs1
    generalize W13.setCell ⟨g3, 1, none⟩ (.slice B9 6 d9) = W14 at S8 N2 NB N3 ⊢
    obtain ⟨b30, b31, b32, b33⟩ := keep4 N3.out
    obtain ⟨b20, b21, b22, b23⟩ := keep4 N2.out
    have cf0 := blk_frozen N2.out 0
    have cf1 := blk_frozen N2.out 1
    have cf2 := blk_frozen N2.out 2
    have cf3 := blk_frozen N2.out 3
    go_wp2
    refine bodyPost_ret (results_cell_row rfl _ _ g2 31 #[.slice none 0 0, .slice B9 6 d9, .int .i64 x.f2, .int .i64 x.f3] (0, 0) _ rfl (put4_blk N2.out) Try.underlying31 rfl (by kernel_rfl)) rfl ?_
    rw [hT.out, flR, if_neg hm, ← HLE.out]
    have hS9 := S8.out
    rw [HZ.out, HSR.out] at hS9
    exact ⟨_, _, rfl, Kd.R_nil _ _ _ _ _, Kd.S_mono (Kd.S_lower (put4_S N2.out hS9) HBS2.out.1) (fun k _ => by simp [Value.ownBlock]), put4_below NB.out HG.out.2.1⟩
end Go.Proofs.Ythffllegmkolgaa.TreeK
