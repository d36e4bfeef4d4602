/- The reference's Merge, called. -/
import Derived.Test.YthffllegmkolgaaT6MrgI
import Derived.Test.YthffllegmkolgaaT6FlushP
import Derived.BigQuiet
namespace Go.Proofs.Ythffllegmkolgaa.TreeK
open Go.RowKit Go.Proofs.YthffllegmkolgaaW.PrintWords Go.Proofs.YthffllegmkolgaaW.PrintLast Go.Proofs.YthffllegmkolgaaW.PrintMore Go.Proofs.Ythffllegmkolgaa.QTree Go.Proofs.Ythffllegmkolgaa.EvKit Go.Proofs.Ythffllegmkolgaa.GTree
set_option linter.unusedSimpArgs false
set_option linter.unusedVariables false
set_option linter.unnecessarySimpa false
theorem elemKL {W : World} {B : Option Addr} {rs : List (List Cel)} (h : KL.C W B rs.length rs) {j : Nat} {y : List Cel} (hj : j < rs.length) (he : rs[j] = y) : ∃ ad A c, B = some ad ∧ W.cell? (ad.add j) = some (.slice A y.length c) ∧ y.length ≤ c ∧ KC.C W A y.length y := by
  obtain ⟨ad, A0, c0, e, h1, h2, h3⟩ := at_L6 h (j : Int) (by omega) (by omega)
  rw [show rd_L6 rs (j : Int) = y from by rw [← he]; simp [rd_L6, hj]] at h1 h2 h3
  exact ⟨ad, A0, c0, e, by simpa using h1, h2, h3⟩
theorem take_flat {rs : List (List Cel)} {j : Nat} {y : List Cel} (hj : j < rs.length) (he : rs[j] = y) : srtOn (srt (rs.take j).flatten) y = srt (rs.take (j + 1)).flatten := by
  unfold srt
  rw [srtOn_app, List.take_succ_eq_append_getElem hj, he]; simp
theorem mrgS_len (keep : Int) (l : List Cel) : ∀ j, (mrgS keep l j).length ≤ j := by
  intro j
  induction j with
  | zero => exact Nat.le_refl _
  | succ j ih =>
    rw [mrgS]
    split
    · rw [List.length_append, List.length_singleton]; omega
    · omega
theorem take_len {rs : List (List Cel)} (j : Nat) : (srt (rs.take j).flatten).length ≤ rs.flatten.length := by
  rw [srt_len]
  conv => rhs; rw [← List.take_append_drop j rs, List.flatten_append, List.length_append]
  omega
set_option maxHeartbeats 1600000 in
set_option maxRecDepth 100000 in
theorem merge_spec (A B : Option Addr) (c d : Nat) (x : Tre) (keep : Int) (w : World) (h : TreeC w x A c B d) (sm : sm_Tree x) :
    Calls Try.prog 41 #[.agg #[.slice A x.f0.length c, .slice B x.f1.length d, .int .i64 x.f2, .int .i64 x.f3], .int .i64 keep] w fun e w' => ∃ v0 v1 : Value, e = .returned (.agg #[v0, v1, .int .i64 (mrgT x keep).f2, .int .i64 (mrgT x keep).f3]) ∧ KC.R TC w' w.heap.size (fun _ => True) v0 (mrgT x keep).f0 ∧ Kd.S KL TL w' w.heap.size (fun k => some k ≠ v0.ownBlock) v1 (mrgT x keep).f1 ∧ Below w.heap.size w w' := by
  have HM := zA h
  have SM := zA sm
  clear h sm
  have hu31 := Try.underlying31
  have hb1 := bel_alloc w (.cells #[.slice A x.f0.length c, .slice B x.f1.length d, .int .i64 x.f2, .int .i64 x.f3] 31)
  have B1 := zA (blk_new w (.cells #[.slice A x.f0.length c, .slice B x.f1.length d, .int .i64 x.f2, .int .i64 x.f3] 31))
  go_enter Try.func41, Try.ntmps41
  go_upto_region 1 with (fail)
  obtain ⟨W, hW⟩ : ∃ W, W = (w.alloc (.cells #[.slice A x.f0.length c, .slice B x.f1.length d, .int .i64 x.f2, .int .i64 x.f3] 31)).alloc (.cells #[.slice none 0 0, .slice none 0 0, .int .i64 0, .int .i64 0] 31) := ⟨_, rfl⟩
  obtain ⟨g1, hg1⟩ : ∃ g1, g1 = w.heap.size := ⟨_, rfl⟩
  obtain ⟨g2, hg2⟩ : ∃ g2, g2 = w.heap.size + 1 := ⟨_, rfl⟩
  have B2 : Aside0 (blkT W g2 (.slice none 0 0) (.slice none 0 0) 0 0) := ⟨by
    have h := blk_new (w.alloc (.cells #[.slice A x.f0.length c, .slice B x.f1.length d, .int .i64 x.f2, .int .i64 x.f3] 31)) (.cells #[.slice none 0 0, .slice none 0 0, .int .i64 0, .int .i64 0] 31)
    rw [show (w.alloc (.cells #[.slice A x.f0.length c, .slice B x.f1.length d, .int .i64 x.f2, .int .i64 x.f3] 31)).heap.size = g2 from by rw [hg2]; exact Array.size_push _, ← hW] at h
    exact h⟩
  replace B1 : Aside0 (blkT W g1 (.slice A x.f0.length c) (.slice B x.f1.length d) x.f2 x.f3) := ⟨by rw [hW, hg1]; exact blk_alloc B1.out _⟩
  have HB : Aside0 (Below w.heap.size w W) := ⟨by rw [hW]; exact bel hb1 (bel_alloc _ _)⟩
  have HG : Aside0 (w.heap.size ≤ g1 ∧ w.heap.size ≤ g2 ∧ g2 ≠ g1) := ⟨by omega⟩
  rw [← hW, ← hg2, ← hg1]
  clear hW hg1 hg2 hb1
  obtain ⟨b10, b11, b12, b13⟩ := keep4 B1.out
  have HC := zA (call_tree_spec A B c d x W (HM.out.below HB.out) SM.out)
  have HT : Aside0 (TreeC W x A c B d) := ⟨HM.out.below HB.out⟩
  cases ht : trB x
  · have hT : Aside0 (mrgT x keep = ⟨[], [], 0, 0⟩) := ⟨by rw [mrgT, ht]; simp⟩
    rw [ht] at HC
    clear ht
    go_wp2_with (go_at_call 16; refine HC.out.mono ?_; rintro e w' ⟨rfl, hb⟩; replace B2 := zA (blk_below B2.out hb); replace B1 := zA (blk_below B1.out hb); replace HB := zA (bel HB.out hb); replace HT := zA (HT.out.below hb); clear hb b10 b11 b12 b13; obtain ⟨b20, b21, b22, b23⟩ := keep4 B2.out; have cf0 := blk_frozen B2.out 0; have cf1 := blk_frozen B2.out 1; have cf2 := blk_frozen B2.out 2; have cf3 := blk_frozen B2.out 3)
    refine bodyPost_ret (results_cell_row rfl _ _ g2 31 #[.slice none 0 0, .slice none 0 0, .int .i64 0, .int .i64 0] (0, 0) _ rfl (put4_blk B2.out) Try.underlying31 rfl (by kernel_rfl)) rfl ?_
    rw [show mrgT x keep = ⟨[], [], 0, 0⟩ from hT.out]
    exact ⟨_, _, rfl, Kd.R_nil _ _ _ _ _, Kd.S_nil _ _ _ _ _, put4_below HB.out HG.out.2.1⟩
  by_cases hk : keep < 0
  · have hT : Aside0 (mrgT x keep = ⟨[], [], 0, 0⟩) := ⟨by rw [mrgT, if_neg (by rintro ⟨_, h⟩; omega)]⟩
    rw [ht] at HC
    clear ht
    go_wp2_with (go_at_call 16; refine HC.out.mono ?_; rintro e w' ⟨rfl, hb⟩; replace B2 := zA (blk_below B2.out hb); replace B1 := zA (blk_below B1.out hb); replace HB := zA (bel HB.out hb); replace HT := zA (HT.out.below hb); clear hb b10 b11 b12 b13; obtain ⟨b20, b21, b22, b23⟩ := keep4 B2.out; have cf0 := blk_frozen B2.out 0; have cf1 := blk_frozen B2.out 1; have cf2 := blk_frozen B2.out 2; have cf3 := blk_frozen B2.out 3)
    refine bodyPost_ret (results_cell_row rfl _ _ g2 31 #[.slice none 0 0, .slice none 0 0, .int .i64 0, .int .i64 0] (0, 0) _ rfl (put4_blk B2.out) Try.underlying31 rfl (by kernel_rfl)) rfl ?_
    rw [show mrgT x keep = ⟨[], [], 0, 0⟩ from hT.out]
    exact ⟨_, _, rfl, Kd.R_nil _ _ _ _ _, Kd.S_nil _ _ _ _ _, put4_below HB.out HG.out.2.1⟩
  have HF := zA ht
  have hT : Aside0 (mrgT x keep = ⟨x.f0, mrgX keep x.f1, x.f2, x.f3⟩) := ⟨by rw [mrgT, if_pos ⟨ht, by omega⟩]⟩
  rw [ht] at HC
  clear ht
  go_upto_region 4 with (first
    | (go_at_call 16; refine HC.out.mono ?_; rintro e w' ⟨rfl, hb⟩; replace B2 := zA (blk_below B2.out hb); replace B1 := zA (blk_below B1.out hb); replace HB := zA (bel HB.out hb); replace HT := zA (HT.out.below hb); clear hb b10 b11 b12 b13; obtain ⟨b10, b11, b12, b13⟩ := keep4 B1.out)
    | (go_at_call 88; refine (call_copy_spec A B c d x _ HT.out (fit_of x SM.out)).mono ?_; rintro e w5 ⟨v0, v1, rfl, hR0, hS0, hb⟩; replace B2 := zA (blk_below B2.out hb); have HBS := zA HB.out.size; replace HB := zA (bel HB.out hb); clear hb b10 b11 b12 b13 B1; obtain ⟨A5, c5, rfl⟩ := Kd.R_slice hR0; obtain ⟨B5, d5, rfl⟩ := Kd.S_slice hS0; have R0 := zA (Kd.R_lower (Kd.R_mono (Kd.R_bound hR0) (ok' := fun k => k < w5.heap.size) (fun k h => h.2.2.1)) HBS.out); have S0 := zA (Kd.S_lower (Kd.S_mono (Kd.S_bound hS0) (ok' := fun k => k < w5.heap.size) (fun k h => h.2.2.1)) HBS.out); clear hR0 hS0))
  clear HT HC HM HBS
  have B5' := zA (blk_new w5 (.cells #[.slice A5 x.f0.length c5, .slice B5 x.f1.length d5, .int .i64 x.f2, .int .i64 x.f3] 31))
  have hb := bel_alloc w5 (.cells #[.slice A5 x.f0.length c5, .slice B5 x.f1.length d5, .int .i64 x.f2, .int .i64 x.f3] 31)
  obtain ⟨g5, hg5⟩ : ∃ g5, g5 = w5.heap.size := ⟨_, rfl⟩
  have HG5 : Aside0 (w.heap.size ≤ g5 ∧ g2 ≠ g5) := ⟨by have h1 := HB.out.size; have h2 := blk_lt B2.out; omega⟩
  replace B2 := zA (blk_below B2.out hb)
  replace HB := zA (bel HB.out hb)
  replace R0 := zA (Kd.R_below R0.out hb)
  replace S0 := zA (Kd.S_below S0.out hb)
  rw [← hg5] at B5' ⊢
  clear hb hg5
  generalize w5.alloc (.cells #[.slice A5 x.f0.length c5, .slice B5 x.f1.length d5, .int .i64 x.f2, .int .i64 x.f3] 31) = W7 at B2 B5' HB R0 S0 ⊢
  obtain ⟨N, hN⟩ : ∃ N, N = W7.heap.size := ⟨_, rfl⟩
  have HN : Aside0 (g5 < N ∧ g2 < N ∧ w.heap.size ≤ N) := ⟨by rw [hN]; exact ⟨blk_lt B5'.out, blk_lt B2.out, HB.out.size⟩⟩
  replace R0 := zA (Kd.R_mono (Kd.R_bound R0.out) (ok' := fun k => k < N) (fun k h => by rw [hN]; exact h.2.2.1))
  replace S0 := zA (Kd.S_mono (Kd.S_bound S0.out) (ok' := fun k => k < N) (fun k h => by rw [hN]; exact h.2.2.1))
  have HNV := zA (Nat.le_of_eq hN)
  clear hN
  have HLEN := zA (runs_len HF.out)
  have HMS := zA (mrg_spec HF.out keep)
  obtain ⟨rs, hrs⟩ : ∃ rs, rs = x.f1 := ⟨_, rfl⟩
  rw [← hrs] at S0 B5' HLEN HMS ⊢
  have HRS := zA hrs
  clear hrs
  go_upto_region 5 with ((with_reducible refine gate_dst (N := 22) rfl ?_); refine Kd.R_lit KC _ TC ?hg (N := 22) ?hd (xs := ([] : List Cel)) (inner := []) (ok := fun _ => True) (okp := fun _ => True) ?hr ?hp (fun _ hk => hk) trivial (Below.refl _ _) (Nat.le_refl _) (by simp) ?_; (case hd => rfl); (case hg => rfl); (case hr => first | (go_simp; done) | (go_simp; rfl)); (case hp => exact (Reps.none _ _)); intro vL wL hoL hb hg_ hnew_; clear hg_ hnew_; have RL : Aside0 (KC.R TC wL w.heap.size (fun k => N ≤ k) vL (srt (rs.take 0).flatten)) := ⟨Kd.R_lower (Kd.R_mono (Kd.R_bound hoL) (fun k h => Nat.le_trans HNV.out h.2.1)) HB.out.size⟩; have HBL := zA (And.intro (bel HB.out hb) (Nat.le_trans HNV.out hb.size)); replace B5' := zA (blk_below B5'.out hb); replace B2 := zA (blk_below B2.out hb); replace S0 := zA (Kd.S_below S0.out hb); replace R0 := zA (Kd.R_below R0.out hb); clear HB hb hoL HNV)
  go_wp2
  go_loopg [6, 7] (rs.length + 1) (fun kq v6 v7 wr => ∃ (j : Nat), (j + kq = rs.length + 1 ∧ j ≤ rs.length) ∧ v7 = .int .i64 (j : Int) ∧ Aside0 (KC.R TC wr w.heap.size (fun k => N ≤ k) v6 (srt (rs.take j).flatten)) ∧ Aside0 (blkT wr g5 (.slice A5 x.f0.length c5) (.slice B5 rs.length d5) x.f2 x.f3) ∧ Aside0 (blkT wr g2 (.slice none 0 0) (.slice none 0 0) 0 0) ∧ Aside0 (Kd.S KL TL wr w.heap.size (fun k => k < N) (.slice B5 rs.length d5) rs) ∧ Aside0 (KC.R TC wr w.heap.size (fun k => k < N) (.slice A5 x.f0.length c5) x.f0) ∧ Aside0 (Below w.heap.size w wr ∧ N ≤ wr.heap.size))
  case atStart => exact ⟨0, ⟨by omega, Nat.zero_le _⟩, rfl, RL, B5', B2, S0, R0, HBL⟩
  case round =>
    clear RL B5' B2 S0 R0 HBL
    obtain ⟨j, hj, rfl, R6, B5', B2, S0, R0, HB⟩ := hrel
    obtain ⟨b50, b51, b52, b53⟩ := keep4 B5'.out
    by_cases hlt : j < rs.length
    case pos =>
      have hr50 : rs.length ≤ 1048576 := by have := SM.out.2.1.1; rw [← HRS.out] at this; exact this
      obtain ⟨y, hy⟩ : ∃ y, rs[j] = y := ⟨_, rfl⟩
      have HY : Aside0 (y.length ≤ 1048576) := ⟨(SM.out.2.1.2 y (by rw [← HRS.out, ← hy]; exact List.getElem_mem _)).1⟩
      have HTF := zA (take_flat hlt hy)
      have HTL := zA (take_len (rs := rs) j)
      obtain ⟨ad, A9, c9, ee, e0, hyc, hyC⟩ := elemKL (Kd.S_reads' S0.out).2.2 hlt hy
      cases ee
      have HYC := zA (And.intro hyc hyC)
      clear hy hyc hyC
      obtain ⟨a, ha⟩ : ∃ a, a = srt (rs.take j).flatten := ⟨_, rfl⟩
      rw [← ha] at R6 HTF HTL
      clear ha
      obtain ⟨A6, c6, rfl⟩ := Kd.R_slice R6.out
      have hw : wrap64 ((j : Int) + 1) = (j : Int) + 1 := w64 (by omega) (by omega)
      go_wp2_with (go_at_call 89; refine (call_join A6 A9 c6 c9 a y _ (Kd.R_reads' R6.out).2.2 (Kd.R_reads' R6.out).2.1 HYC.out.2 HYC.out.1 (by have h1 := HTL.out; have h2 := HLEN.out; omega) HY.out).mono ?_; rintro e w8 ⟨v8, rfl, hR, hb⟩; have h1 := HB.out.1.size; have R9 := zA (Kd.R_lower (Kd.R_mono (Kd.R_bound hR) (ok' := fun k => N ≤ k) (fun k h => Nat.le_trans HB.out.2 h.2.1)) h1); replace B5' := zA (blk_below B5'.out hb); replace B2 := zA (blk_below B2.out hb); replace S0 := zA (Kd.S_below S0.out hb); replace R0 := zA (Kd.R_below R0.out hb); replace HB := zA (And.intro (bel HB.out.1 hb) (Nat.le_trans HB.out.2 hb.size)); rw [HTF.out] at R9; clear hR hb h1 R6 HYC e0 b50 b51 b52 b53)
      go_roundg (rs.length - j)
      case measure => omega
      case rel => exact ⟨j + 1, ⟨by omega, by omega⟩, by go_num, R9, B5', B2, S0, R0, HB⟩
    obtain rfl : j = rs.length := by omega
    clear S0
    obtain ⟨l, hl⟩ : ∃ l, l = srt rs.flatten := ⟨_, rfl⟩
    rw [List.take_length, ← hl] at R6
    have HLL : Aside0 (l.length ≤ 400) := ⟨by rw [hl, srt_len]; exact HLEN.out⟩
    rw [← hl] at HMS
    clear hl
    obtain ⟨A6, c6, rfl⟩ := Kd.R_slice R6.out
    obtain ⟨N2, hN2⟩ : ∃ N2, N2 = wr.heap.size := ⟨_, rfl⟩
    have HN2 : Aside0 (g5 < N2 ∧ g2 < N2 ∧ w.heap.size ≤ N2) := ⟨by rw [hN2]; exact ⟨blk_lt B5'.out, blk_lt B2.out, HB.out.1.size⟩⟩
    replace R0 := zA (Kd.R_mono (Kd.R_bound R0.out) (ok' := fun k => k < N2) (fun k h => by rw [hN2]; exact h.2.2.1))
    replace R6 := zA (Kd.R_mono (Kd.R_bound R6.out) (ok' := fun k => k < N2) (fun k h => by rw [hN2]; exact h.2.2.1))
    replace HB := zA HB.out.1
    have HNV2 := zA (Nat.le_of_eq hN2)
    clear hN2
    go_upto_region 10 with ((with_reducible refine gate_dst (N := 37) rfl ?_); refine Kd.R_lit KC _ TC ?hg (N := 37) ?hd (xs := ([] : List Cel)) (inner := []) (ok := fun _ => True) (okp := fun _ => True) ?hr ?hp (fun _ hk => hk) trivial (Below.refl _ _) (Nat.le_refl _) (by simp) ?_; (case hd => rfl); (case hg => rfl); (case hr => first | (go_simp; done) | (go_simp; rfl)); (case hp => exact (Reps.none _ _)); intro vL wL hoL hb hg_ hnew_; clear hg_ hnew_; have RL2 : Aside0 (KC.R TC wL w.heap.size (fun k => N2 ≤ k) vL (mrgS keep l 0)) := ⟨Kd.R_lower (Kd.R_mono (Kd.R_bound hoL) (fun k h => Nat.le_trans HNV2.out h.2.1)) HB.out.size⟩; have HBL2 := zA (And.intro (bel HB.out hb) (Nat.le_trans HNV2.out hb.size)); replace B5' := zA (blk_below B5'.out hb); replace B2 := zA (blk_below B2.out hb); replace R6 := zA (Kd.R_below R6.out hb); replace R0 := zA (Kd.R_below R0.out hb); clear HB hb hoL HNV2 b50 b51 b52 b53)
    go_wp2
    go_loopg [8, 9] (l.length + 1) (fun kq v8 v9 wq => ∃ (j : Nat), (j + kq = l.length + 1 ∧ j ≤ l.length) ∧ v9 = .int .i64 (j : Int) ∧ Aside0 (KC.R TC wq w.heap.size (fun k => N2 ≤ k) v8 (mrgS keep l j)) ∧ Aside0 (blkT wq g5 (.slice A5 x.f0.length c5) (.slice B5 rs.length d5) x.f2 x.f3) ∧ Aside0 (blkT wq g2 (.slice none 0 0) (.slice none 0 0) 0 0) ∧ Aside0 (KC.R TC wq w.heap.size (fun k => k < N2) (.slice A6 l.length c6) l) ∧ Aside0 (KC.R TC wq w.heap.size (fun k => k < N2) (.slice A5 x.f0.length c5) x.f0) ∧ Aside0 (Below w.heap.size w wq ∧ N2 ≤ wq.heap.size))
    case atStart => exact ⟨0, ⟨by omega, Nat.zero_le _⟩, rfl, RL2, B5', B2, R6, R0, HBL2⟩
    case round =>
      clear RL2 B5' B2 R6 R0 HBL2
      obtain ⟨j, hj, rfl, R8, B5', B2, R6, R0, HB⟩ := hrel
      by_cases hlt : j < l.length
      case neg =>
        obtain rfl : j = l.length := by omega
        clear R6
        obtain ⟨L, hL⟩ : ∃ L, L = mrgS keep l l.length := ⟨_, rfl⟩
        rw [← hL] at R8
        have HX : Aside0 (mrgX keep x.f1 = if L = [] then [] else [L]) := ⟨by unfold mrgX; rw [hL, HMS.out, HRS.out]⟩
        clear hL
        obtain ⟨A8, c8, rfl⟩ := Kd.R_slice R8.out
        obtain ⟨b50, b51, b52, b53⟩ := keep4 B5'.out
        have cf1 := blk_frozen B5'.out 1
        go_upto_region 21 with (fail)
        clear b50 b51 b52 b53 cf1
        replace R0 := zA (Kd.R_set R0.out B5'.out (by decide) 1 (.slice none 0 0))
        replace R8 := zA (Kd.R_set R8.out B5'.out (by decide) 1 (.slice none 0 0))
        replace B2 : Aside0 (blkT (wr.setCell ⟨g5, 1, none⟩ (.slice none 0 0)) g2 (.slice none 0 0) (.slice none 0 0) 0 0) := ⟨blk_far (p := ⟨g5, 1, none⟩) B2.out HG5.out.2 _⟩
        replace HB : Aside0 (Below w.heap.size w (wr.setCell ⟨g5, 1, none⟩ (.slice none 0 0)) ∧ N2 ≤ (wr.setCell ⟨g5, 1, none⟩ (.slice none 0 0)).heap.size) := ⟨below_set HB.out.1 HG5.out.1, by simpa [World.setCell] using HB.out.2⟩
        replace B5' := zA (blkT_put1 B5'.out (.slice none 0 0))
        generalize wr.setCell ⟨g5, 1, none⟩ (.slice none 0 0) = V1 at R0 R8 B2 HB B5' ⊢
        by_cases hp : (0 : Int) < (L.length : Int)
        case neg =>
          have hl0 : L = [] := List.eq_nil_of_length_eq_zero (by omega)
          obtain ⟨b50, b51, b52, b53⟩ := keep4 B5'.out
          obtain ⟨b20, b21, b22, b23⟩ := keep4 B2.out; have cf0 := blk_frozen B2.out 0; have cf1 := blk_frozen B2.out 1; have cf2 := blk_frozen B2.out 2; have cf3 := blk_frozen B2.out 3
          go_wp2
          refine bodyPost_ret (results_cell_row rfl _ _ g2 31 #[.slice A5 x.f0.length c5, .slice none 0 0, .int .i64 x.f2, .int .i64 x.f3] (0, 0) _ rfl (put4_blk B2.out) Try.underlying31 rfl (by kernel_rfl)) rfl ?_
          rw [hT.out, HX.out, if_pos hl0]
          exact ⟨_, _, rfl, Kd.R_mono (put4_R B2.out R0.out) (fun _ _ => trivial), Kd.S_nil _ _ _ _ _, put4_below HB.out.1 HG.out.2.1⟩
        have hl0 : ¬ L = [] := by rintro rfl; simp at hp
        have HL0 := zA hl0
        clear hl0
        have MK : True := trivial
        go_upto_region 23 with ((with_reducible refine gate_dst (N := 103) rfl ?_); clear MK; have hb := bel_alloc V1 (.cells #[.slice A8 L.length c8] TL); obtain ⟨gn, hgn⟩ : ∃ gn, gn = V1.heap.size := ⟨_, rfl⟩; have BN := zA (blk_new V1 (.cells #[.slice A8 L.length c8] TL)); have HL : Aside0 (N2 ≤ gn ∧ g5 ≠ gn) := ⟨by have h1 := HN2.out.1; have h2 := HB.out.2; omega⟩; replace R8 := zA (Kd.R_below (Kd.R_mono (Kd.R_bound R8.out) (ok' := fun k => N2 ≤ k ∧ k ≠ gn) (fun k h => ⟨h.1, by have := h.2.2.1; omega⟩)) hb); replace B5' := zA (blk_below B5'.out hb); replace B2 := zA (blk_below B2.out hb); replace R0 := zA (Kd.R_below R0.out hb); replace HB := zA (bel HB.out.1 hb); rw [← hgn] at BN ⊢; clear hb hgn; generalize V1.alloc (.cells #[.slice A8 L.length c8] TL) = W9 at BN B5' B2 R0 R8 HB ⊢; obtain ⟨b50, b51, b52, b53⟩ := keep4 B5'.out; have cf1 := blk_frozen B5'.out 1)
        clear b50 b51 b52 b53 cf1
        replace R0 := zA (Kd.R_set R0.out B5'.out (by decide) 1 (.slice (some ⟨gn, 0, none⟩) 1 1))
        replace R8 := zA (Kd.R_set R8.out B5'.out (by decide) 1 (.slice (some ⟨gn, 0, none⟩) 1 1))
        replace B2 : Aside0 (blkT (W9.setCell ⟨g5, 1, none⟩ (.slice (some ⟨gn, 0, none⟩) 1 1)) g2 (.slice none 0 0) (.slice none 0 0) 0 0) := ⟨blk_far (p := ⟨g5, 1, none⟩) B2.out HG5.out.2 _⟩
        replace BN := zA (blk_far (p := ⟨g5, 1, none⟩) BN.out (Ne.symm HL.out.2) (.slice (some ⟨gn, 0, none⟩) 1 1))
        replace HB := zA (below_set HB.out HG5.out.1 (j := 1) (v := .slice (some ⟨gn, 0, none⟩) 1 1))
        replace B5' := zA (blkT_put1 B5'.out (.slice (some ⟨gn, 0, none⟩) 1 1))
        generalize W9.setCell ⟨g5, 1, none⟩ (.slice (some ⟨gn, 0, none⟩) 1 1) = V2 at R0 R8 B5' B2 BN HB ⊢
        have S1 := zA (one_row (ok := fun k => N2 ≤ k) BN.out (Nat.le_trans HN2.out.2.2 HL.out.1) HL.out.1 R8.out)
        have HNE : Aside0 (∀ k, N2 ≤ k → some k ≠ (Value.slice A5 x.f0.length c5).ownBlock) := ⟨fun k h he => Nat.not_lt_of_le h (R0.out.1 k he.symm)⟩
        obtain ⟨b50, b51, b52, b53⟩ := keep4 B5'.out
        obtain ⟨b20, b21, b22, b23⟩ := keep4 B2.out; have cf0 := blk_frozen B2.out 0; have cf1 := blk_frozen B2.out 1; have cf2 := blk_frozen B2.out 2; have cf3 := blk_frozen B2.out 3
        go_wp2
        refine bodyPost_ret (results_cell_row rfl _ _ g2 31 #[.slice A5 x.f0.length c5, .slice (some ⟨gn, 0, none⟩) 1 1, .int .i64 x.f2, .int .i64 x.f3] (0, 0) _ rfl (put4_blk B2.out) Try.underlying31 rfl (by kernel_rfl)) rfl ?_
        rw [hT.out, HX.out, if_neg HL0.out]
        exact ⟨_, _, rfl, Kd.R_mono (put4_R B2.out R0.out) (fun _ _ => trivial), Kd.S_mono (put4_S B2.out S1.out) HNE.out, put4_below HB.out HG.out.2.1⟩
      obtain ⟨W0, hW0⟩ : ∃ W0, W0 = wr := ⟨_, rfl⟩
      subst hW0
      obtain ⟨⟨k0, k1, k2, k3⟩, hye⟩ : ∃ c : Cel, l[j] = c := ⟨_, rfl⟩
      have MC := zA (mk0_at hlt hye)
      obtain ⟨ad2, ee, e0, e1, e2, e3⟩ := elemC (Kd.R_reads' R6.out).2.2 (Below.refl _ _) hlt hye
      subst ee
      clear hye
      have hw : wrap64 ((j : Int) + 1) = (j : Int) + 1 := w64 (by omega) (by have := HLL.out; omega)
      go_wp2
      go_loopg [10, 11] (j + 1) (fun kq v10 v11 wq => ∃ (k : Nat) (a0 : Bool), (k + kq = j + 1 ∧ k ≤ j) ∧ v11 = .int .i64 (k : Int) ∧ v10 = .bool a0 ∧ Aside0 (firstB keep l j k = a0) ∧ ∃ m, wq = W0.drewN m)
      case atStart => exact ⟨0, true, ⟨by omega, Nat.zero_le _⟩, rfl, rfl, ⟨rfl⟩, by first | exact ⟨0, rfl⟩ | exact ⟨_, rfl⟩⟩
      case round =>
        obtain ⟨k, a0, hk, rfl, rfl, HA, m, rfl⟩ := hrel
        by_cases hkj : k < j
        case pos =>
          have hit : k < l.length := by omega
          obtain ⟨⟨p0, p1, p2, p3⟩, hpe⟩ : ∃ c : Cel, l[k] = c := ⟨_, rfl⟩
          have MP := zA (mk0_at hit hpe)
          obtain ⟨ad3, ee, f0, f1, f2, f3⟩ := elemC (Kd.R_reads' R6.out).2.2 (Below.refl _ _) hit hpe
          have ee' := Option.some.inj ee
          subst ee'
          clear ee hpe
          have hw2 : wrap64 ((k : Int) + 1) = (k : Int) + 1 := w64 (by omega) (by have := HLL.out; omega)
          have hji : (j : Int) < (l.length : Int) := by omega
          have hki : (k : Int) < (l.length : Int) := by omega
          obtain ⟨a3, h3⟩ : ∃ b, (p0.toList != k0.toList) = b := ⟨_, rfl⟩
          have h3b : (p0.toList == k0.toList) = !a3 := by rw [← h3]; simp [bne]
          have h3c : decide (p0.toList = k0.toList) = !a3 := by rw [← h3b, Bool.eq_iff_iff]; simp
          have h3d : (!decide (p0.toList = k0.toList)) = a3 := by rw [h3c]; simp
          obtain ⟨a4, h4⟩ : ∃ b, decide (keep < p2) = b := ⟨_, rfl⟩
          have HN1 : Aside0 (firstB keep l j (k + 1) = (a0 && (a3 || a4))) := ⟨by
            rw [firstB, HA.out]; simp only [MC.out, MP.out]
            rw [show (!decide (p0.toList = k0.toList)) = (p0.toList != k0.toList) from by rw [Bool.eq_iff_iff]; simp, h3, h4]⟩
          cases a0
          case false =>
            go_upto_region 17 with (fail)
            go_quiet (fail)
            go_wp2_with (fail)
            go_roundg (j - k)
            case measure => omega
            case rel => exact ⟨k + 1, _, ⟨by omega, by omega⟩, by go_num, rfl, ⟨HN1.out⟩, by first | exact ⟨_, rfl⟩ | exact ⟨_, World.drewN_drewN _ _ _⟩⟩
          cases a3
          case true =>
            go_upto_region 17 with (fail)
            go_quiet (fail)
            go_wp2_with (fail)
            go_roundg (j - k)
            case measure => omega
            case rel => exact ⟨k + 1, _, ⟨by omega, by omega⟩, by go_num, rfl, ⟨HN1.out⟩, by first | exact ⟨_, rfl⟩ | exact ⟨_, World.drewN_drewN _ _ _⟩⟩
          cases a4
          case true =>
            go_upto_region 17 with (fail)
            go_quiet (fail)
            go_wp2_with (fail)
            go_roundg (j - k)
            case measure => omega
            case rel => exact ⟨k + 1, _, ⟨by omega, by omega⟩, by go_num, rfl, ⟨HN1.out⟩, by first | exact ⟨_, rfl⟩ | exact ⟨_, World.drewN_drewN _ _ _⟩⟩
          case false =>
            go_upto_region 17 with (fail)
            go_quiet (fail)
            go_wp2_with (fail)
            go_roundg (j - k)
            case measure => omega
            case rel => exact ⟨k + 1, _, ⟨by omega, by omega⟩, by go_num, rfl, ⟨HN1.out⟩, by first | exact ⟨_, rfl⟩ | exact ⟨_, World.drewN_drewN _ _ _⟩⟩
        obtain rfl : k = j := by omega
        obtain ⟨a1, h1⟩ : ∃ b, decide (keep < k2) = b := ⟨_, rfl⟩
        have HI : Aside0 (inB keep l k = (a1 || (a0 && !k3))) := ⟨by unfold inB; rw [HA.out]; simp only [MC.out]; rw [h1]⟩
        have hji : (k : Int) < (l.length : Int) := by omega
        cases a1
        case true =>
          have hM : mrgS keep l (k + 1) = mrgS keep l k ++ [⟨k0, k1, k2, k3⟩] := by rw [mrgS, HI.out, if_pos (by simp), MC.out]
          have HML : Aside0 ((mrgS keep l k).length ≤ k) := ⟨mrgS_len keep l k⟩
          go_wp2_with ((with_reducible refine gate_builtin (b := .append) (xs := #[.tmp 90, .tmp 95]) rfl ?_); at_builtin; refine Kd.R_append KC (w0 := w) w.heap.size rfl (.tmp 90) (.tmp 95) 28 TC (.agg #[(.string ⟨#[]⟩), (.string ⟨#[]⟩), (.int .i64 0), (.bool false)]) 48 rfl Try.underlying28 info48 rfl (by decide) (by omega) u8 (mrgS keep l k) ⟨k0, k1, k2, k3⟩ [.string k0, .string k1, .int .i64 k2, .bool k3] (fun k => N2 ≤ k) (fun _ => False) rfl rfl ?aP (fun _ hk => hk.elim) ?aF ?aO ?aB ?aS ?aL ?_; (case aP => exact k48_mkM _ _ _ (⟨k0, k1, k2, k3⟩ : Cel)); (case aF => exact (fun k hk => Nat.le_trans HB.out.2 hk)); (case aO => exact (by (with_reducible repeat (first | apply Kd.R_alloc | apply Kd.R_drewN | apply Kd.R_drew)); exact R8.out)); (case aB => exact (by repeat (first | (with_reducible exact HB.out.1) | apply below_alloc | apply pw_below_drewN))); (case aS => exact HB.out.1.size); (case aL => have h1 := HML.out; have h2 := HLL.out; omega); intro v7 w9 ho hb hg hat; have hne : ∀ k, k < N2 → some k ≠ u8.ownBlock := (fun k hk he => Nat.not_lt_of_le (R8.out.1 k he.symm) hk); replace B5' := zA (blk_grown (o := .cells #[.slice A5 x.f0.length c5, .slice B5 rs.length d5, .int .i64 x.f2, .int .i64 x.f3] 31 (0, 0)) (by (with_reducible repeat (first | refine blk_drewN ?_ _ | refine blk_drew ?_ | refine blk_alloc ?_ _)); exact B5'.out) hg (hne _ HN2.out.1)); replace B2 := zA (blk_grown (o := .cells #[.slice none 0 0, .slice none 0 0, .int .i64 0, .int .i64 0] 31 (0, 0)) (by (with_reducible repeat (first | refine blk_drewN ?_ _ | refine blk_drew ?_ | refine blk_alloc ?_ _)); exact B2.out) hg (hne _ HN2.out.2.1)); replace R6 := zA (Kd.R_grown (by (with_reducible repeat (first | apply Kd.R_alloc | apply Kd.R_drewN | apply Kd.R_drew)); exact R6.out) hg hne); replace R0 := zA (Kd.R_grown (by (with_reducible repeat (first | apply Kd.R_alloc | apply Kd.R_drewN | apply Kd.R_drew)); exact R0.out) hg hne); replace R8 := zA ho; replace HB := zA (And.intro hb (Nat.le_trans HB.out.2 hg.size)); clear ho hb hg hat hne e0 e1 e2 e3)
          go_roundg (l.length - k)
          case measure => omega
          case rel => exact ⟨k + 1, ⟨by omega, by omega⟩, by go_num, ⟨by rw [hM]; first | exact R8.out | exact Kd.R_drewN R8.out _⟩, ⟨by first | exact B5'.out | exact blk_drewN B5'.out _⟩, ⟨by first | exact B2.out | exact blk_drewN B2.out _⟩, ⟨by first | exact R6.out | exact Kd.R_drewN R6.out _⟩, ⟨by first | exact R0.out | exact Kd.R_drewN R0.out _⟩, ⟨by first | exact HB.out | exact ⟨pw_below_drewN HB.out.1 _, HB.out.2⟩⟩⟩
        cases a0
        case false =>
          have hM : mrgS keep l (k + 1) = mrgS keep l k := by rw [mrgS, HI.out, if_neg (by simp)]
          go_wp2_with (fail)
          go_roundg (l.length - k)
          case measure => omega
          case rel => exact ⟨k + 1, ⟨by omega, by omega⟩, by go_num, ⟨by rw [hM]; first | exact R8.out | exact Kd.R_drewN R8.out _⟩, ⟨by first | exact B5'.out | exact blk_drewN B5'.out _⟩, ⟨by first | exact B2.out | exact blk_drewN B2.out _⟩, ⟨by first | exact R6.out | exact Kd.R_drewN R6.out _⟩, ⟨by first | exact R0.out | exact Kd.R_drewN R0.out _⟩, ⟨by first | exact HB.out | exact ⟨pw_below_drewN HB.out.1 _, HB.out.2⟩⟩⟩
        cases k3
        case true =>
          have hM : mrgS keep l (k + 1) = mrgS keep l k := by rw [mrgS, HI.out, if_neg (by simp)]
          go_wp2_with (fail)
          go_roundg (l.length - k)
          case measure => omega
          case rel => exact ⟨k + 1, ⟨by omega, by omega⟩, by go_num, ⟨by rw [hM]; first | exact R8.out | exact Kd.R_drewN R8.out _⟩, ⟨by first | exact B5'.out | exact blk_drewN B5'.out _⟩, ⟨by first | exact B2.out | exact blk_drewN B2.out _⟩, ⟨by first | exact R6.out | exact Kd.R_drewN R6.out _⟩, ⟨by first | exact R0.out | exact Kd.R_drewN R0.out _⟩, ⟨by first | exact HB.out | exact ⟨pw_below_drewN HB.out.1 _, HB.out.2⟩⟩⟩
        case false =>
          have hM : mrgS keep l (k + 1) = mrgS keep l k ++ [⟨k0, k1, k2, false⟩] := by rw [mrgS, HI.out, if_pos (by simp), MC.out]
          have HML : Aside0 ((mrgS keep l k).length ≤ k) := ⟨mrgS_len keep l k⟩
          go_wp2_with ((with_reducible refine gate_builtin (b := .append) (xs := #[.tmp 90, .tmp 95]) rfl ?_); at_builtin; refine Kd.R_append KC (w0 := w) w.heap.size rfl (.tmp 90) (.tmp 95) 28 TC (.agg #[(.string ⟨#[]⟩), (.string ⟨#[]⟩), (.int .i64 0), (.bool false)]) 48 rfl Try.underlying28 info48 rfl (by decide) (by omega) u8 (mrgS keep l k) ⟨k0, k1, k2, false⟩ [.string k0, .string k1, .int .i64 k2, .bool false] (fun k => N2 ≤ k) (fun _ => False) rfl rfl ?aP (fun _ hk => hk.elim) ?aF ?aO ?aB ?aS ?aL ?_; (case aP => exact k48_mkM _ _ _ (⟨k0, k1, k2, false⟩ : Cel)); (case aF => exact (fun k hk => Nat.le_trans HB.out.2 hk)); (case aO => exact (by (with_reducible repeat (first | apply Kd.R_alloc | apply Kd.R_drewN | apply Kd.R_drew)); exact R8.out)); (case aB => exact (by repeat (first | (with_reducible exact HB.out.1) | apply below_alloc | apply pw_below_drewN))); (case aS => exact HB.out.1.size); (case aL => have h1 := HML.out; have h2 := HLL.out; omega); intro v7 w9 ho hb hg hat; have hne : ∀ k, k < N2 → some k ≠ u8.ownBlock := (fun k hk he => Nat.not_lt_of_le (R8.out.1 k he.symm) hk); replace B5' := zA (blk_grown (o := .cells #[.slice A5 x.f0.length c5, .slice B5 rs.length d5, .int .i64 x.f2, .int .i64 x.f3] 31 (0, 0)) (by (with_reducible repeat (first | refine blk_drewN ?_ _ | refine blk_drew ?_ | refine blk_alloc ?_ _)); exact B5'.out) hg (hne _ HN2.out.1)); replace B2 := zA (blk_grown (o := .cells #[.slice none 0 0, .slice none 0 0, .int .i64 0, .int .i64 0] 31 (0, 0)) (by (with_reducible repeat (first | refine blk_drewN ?_ _ | refine blk_drew ?_ | refine blk_alloc ?_ _)); exact B2.out) hg (hne _ HN2.out.2.1)); replace R6 := zA (Kd.R_grown (by (with_reducible repeat (first | apply Kd.R_alloc | apply Kd.R_drewN | apply Kd.R_drew)); exact R6.out) hg hne); replace R0 := zA (Kd.R_grown (by (with_reducible repeat (first | apply Kd.R_alloc | apply Kd.R_drewN | apply Kd.R_drew)); exact R0.out) hg hne); replace R8 := zA ho; replace HB := zA (And.intro hb (Nat.le_trans HB.out.2 hg.size)); clear ho hb hg hat hne e0 e1 e2 e3)
          go_roundg (l.length - k)
          case measure => omega
          case rel => exact ⟨k + 1, ⟨by omega, by omega⟩, by go_num, ⟨by rw [hM]; first | exact R8.out | exact Kd.R_drewN R8.out _⟩, ⟨by first | exact B5'.out | exact blk_drewN B5'.out _⟩, ⟨by first | exact B2.out | exact blk_drewN B2.out _⟩, ⟨by first | exact R6.out | exact Kd.R_drewN R6.out _⟩, ⟨by first | exact R0.out | exact Kd.R_drewN R0.out _⟩, ⟨by first | exact HB.out | exact ⟨pw_below_drewN HB.out.1 _, HB.out.2⟩⟩⟩
end Go.Proofs.Ythffllegmkolgaa.TreeK
