/- The program's Merge, called. -/
import Derived.Test.YthffllegmkolgaaT9MrgPure
import Derived.Test.YthffllegmkolgaaT9ChangeI
import Derived.Test.YthffllegmkolgaaT9FlOwn
import Derived.BigQuiet
namespace Go.Proofs.Ythffllegmkolgaa.TreeK
open Go.RowKit Go.Proofs.YthffllegmkolgaaW.PrintWords Go.Proofs.YthffllegmkolgaaW.PrintLast Go.Proofs.YthffllegmkolgaaW.PrintMore Go.Proofs.Ythffllegmkolgaa.QTree Go.Proofs.Ythffllegmkolgaa.EvKit Go.Proofs.Ythffllegmkolgaa.GTree
set_option linter.unusedSimpArgs false
set_option linter.unusedVariables false
set_option linter.unnecessarySimpa false
theorem one_row {W : World} {base g : Nat} {ok : Nat → Prop} {v0 : Value} {m : List Cel} (hb : W.heap[g]? = some (.cells #[v0] TL (0, 0))) (hg : base ≤ g) (hok : ok g) (hm : KC.R TC W base (fun k => ok k ∧ k ≠ g) v0 m) : Kd.S KL TL W base ok (.slice (some ⟨g, 0, none⟩) 1 1) [m] :=
  ⟨fun _ => 0, own_box hb hg hok (Kd.M_row (Kd.R_mono hm (fun _ h => ⟨h, rfl⟩)))⟩
theorem concat_f {x : Tre} (h : trB x = true) : impl_Cell_72.f x.f1 = some x.f1.flatten := by
  unfold impl_Cell_72.f
  rw [if_pos (by have := runs_len h; omega)]
set_option maxHeartbeats 1600000 in
set_option maxRecDepth 100000 in
theorem merge_impl (A B : Option Addr) (c d : Nat) (x : Tre) (keep : Int) (w : World) (h : TreeC w x A c B d) (sm : sm_Tree x) :
    Calls Try.prog 28 #[.agg #[.slice A x.f0.length c, .slice B x.f1.length d, .int .i64 x.f2, .int .i64 x.f3], .int .i64 keep] w fun e w' => ∃ v0 v1 : Value, e = .returned (.agg #[v0, v1, .int .i64 (mrgT x keep).f2, .int .i64 (mrgT x keep).f3]) ∧ KC.R TC w' w.heap.size (fun _ => True) v0 (mrgT x keep).f0 ∧ Kd.S KL TL w' w.heap.size (fun k => some k ≠ v0.ownBlock) v1 (mrgT x keep).f1 ∧ Below w.heap.size w w' := by
  have HM := zA h
  have SM := zA sm
  clear h sm
  have hu31 := Try.underlying31
  have hb1 := bel_alloc w (.cells #[.slice A x.f0.length c, .slice B x.f1.length d, .int .i64 x.f2, .int .i64 x.f3] 31)
  have B1 := zA (blk_new w (.cells #[.slice A x.f0.length c, .slice B x.f1.length d, .int .i64 x.f2, .int .i64 x.f3] 31))
  go_enter Try.func28, Try.ntmps28
  go_upto_region 1 with (fail)
  obtain ⟨W, hW⟩ : ∃ W, W = (w.alloc (.cells #[.slice A x.f0.length c, .slice B x.f1.length d, .int .i64 x.f2, .int .i64 x.f3] 31)).alloc (.cells #[.slice none 0 0, .slice none 0 0, .int .i64 0, .int .i64 0] 31) := ⟨_, rfl⟩
  obtain ⟨g1, hg1⟩ : ∃ g1, g1 = w.heap.size := ⟨_, rfl⟩
  obtain ⟨g2, hg2⟩ : ∃ g2, g2 = w.heap.size + 1 := ⟨_, rfl⟩
  have B2 : Aside0 (blkT W g2 (.slice none 0 0) (.slice none 0 0) 0 0) := ⟨by
    have h := blk_new (w.alloc (.cells #[.slice A x.f0.length c, .slice B x.f1.length d, .int .i64 x.f2, .int .i64 x.f3] 31)) (.cells #[.slice none 0 0, .slice none 0 0, .int .i64 0, .int .i64 0] 31)
    rw [show (w.alloc (.cells #[.slice A x.f0.length c, .slice B x.f1.length d, .int .i64 x.f2, .int .i64 x.f3] 31)).heap.size = g2 from by rw [hg2]; exact Array.size_push _, ← hW] at h
    exact h⟩
  replace B1 : Aside0 (blkT W g1 (.slice A x.f0.length c) (.slice B x.f1.length d) x.f2 x.f3) := ⟨by rw [hW, hg1]; exact blk_alloc B1.out _⟩
  have HB : Aside0 (Below w.heap.size w W) := ⟨by rw [hW]; exact bel hb1 (bel_alloc _ _)⟩
  have HG : Aside0 (w.heap.size ≤ g1 ∧ w.heap.size ≤ g2 ∧ g2 ≠ g1) := ⟨by omega⟩
  rw [← hW, ← hg2, ← hg1]
  clear hW hg1 hg2 hb1
  obtain ⟨b10, b11, b12, b13⟩ := keep4 B1.out
  have HC := zA (call_tree_impl A B c d x W (HM.out.below HB.out) SM.out)
  have HT : Aside0 (TreeC W x A c B d) := ⟨HM.out.below HB.out⟩
  cases ht : trB x
  · have hT : Aside0 (mrgT x keep = ⟨[], [], 0, 0⟩) := ⟨by rw [mrgT, ht]; simp⟩
    rw [ht] at HC
    clear ht
    go_wp2_with (go_at_call 18; refine HC.out.mono ?_; rintro e w' ⟨rfl, hb⟩; replace B2 := zA (blk_below B2.out hb); replace B1 := zA (blk_below B1.out hb); replace HB := zA (bel HB.out hb); replace HT := zA (HT.out.below hb); clear hb b10 b11 b12 b13; obtain ⟨b20, b21, b22, b23⟩ := keep4 B2.out; have cf0 := blk_frozen B2.out 0; have cf1 := blk_frozen B2.out 1; have cf2 := blk_frozen B2.out 2; have cf3 := blk_frozen B2.out 3)
    refine bodyPost_ret (results_cell_row rfl _ _ g2 31 #[.slice none 0 0, .slice none 0 0, .int .i64 0, .int .i64 0] (0, 0) _ rfl (put4_blk B2.out) Try.underlying31 rfl (by kernel_rfl)) rfl ?_
    rw [show mrgT x keep = ⟨[], [], 0, 0⟩ from hT.out]
    exact ⟨_, _, rfl, Kd.R_nil _ _ _ _ _, Kd.S_nil _ _ _ _ _, put4_below HB.out HG.out.2.1⟩
  by_cases hk : keep < 0
  · have hT : Aside0 (mrgT x keep = ⟨[], [], 0, 0⟩) := ⟨by rw [mrgT, if_neg (by rintro ⟨_, h⟩; omega)]⟩
    rw [ht] at HC
    clear ht
    go_wp2_with (go_at_call 18; refine HC.out.mono ?_; rintro e w' ⟨rfl, hb⟩; replace B2 := zA (blk_below B2.out hb); replace B1 := zA (blk_below B1.out hb); replace HB := zA (bel HB.out hb); replace HT := zA (HT.out.below hb); clear hb b10 b11 b12 b13; obtain ⟨b20, b21, b22, b23⟩ := keep4 B2.out; have cf0 := blk_frozen B2.out 0; have cf1 := blk_frozen B2.out 1; have cf2 := blk_frozen B2.out 2; have cf3 := blk_frozen B2.out 3)
    refine bodyPost_ret (results_cell_row rfl _ _ g2 31 #[.slice none 0 0, .slice none 0 0, .int .i64 0, .int .i64 0] (0, 0) _ rfl (put4_blk B2.out) Try.underlying31 rfl (by kernel_rfl)) rfl ?_
    rw [show mrgT x keep = ⟨[], [], 0, 0⟩ from hT.out]
    exact ⟨_, _, rfl, Kd.R_nil _ _ _ _ _, Kd.S_nil _ _ _ _ _, put4_below HB.out HG.out.2.1⟩
  have HF := zA ht
  have hT : Aside0 (mrgT x keep = ⟨x.f0, mrgX keep x.f1, x.f2, x.f3⟩) := ⟨by rw [mrgT, if_pos ⟨ht, by omega⟩]⟩
  rw [ht] at HC
  clear ht
  go_upto_region 4 with (first
    | (go_at_call 18; refine HC.out.mono ?_; rintro e w' ⟨rfl, hb⟩; replace B2 := zA (blk_below B2.out hb); replace B1 := zA (blk_below B1.out hb); replace HB := zA (bel HB.out hb); replace HT := zA (HT.out.below hb); clear hb b10 b11 b12 b13; obtain ⟨b10, b11, b12, b13⟩ := keep4 B1.out)
    | (go_at_call 70; refine (call_copy_impl A B c d x _ HT.out (fit_of x SM.out)).mono ?_; rintro e w5 ⟨v0, v1, rfl, hR0, hS0, hb⟩; have HL2 := zA (And.intro (blk_lt B2.out) (blk_lt B1.out)); replace B2 := zA (blk_below B2.out hb); replace B1 := zA (blk_below B1.out hb); have HBS := zA (And.intro HB.out.size hb.size); replace HB := zA (bel HB.out hb); clear hb b10 b11 b12 b13; obtain ⟨A5, c5, rfl⟩ := Kd.R_slice hR0; obtain ⟨B5, d5, rfl⟩ := Kd.S_slice hS0; have R0 := zA hR0; have S0 := zA hS0; clear hR0 hS0; obtain ⟨b10, b11, b12, b13⟩ := keep4 B1.out; have cf0 := blk_frozen B1.out 0; have cf1 := blk_frozen B1.out 1; have cf2 := blk_frozen B1.out 2; have cf3 := blk_frozen B1.out 3))
  have e4 : put4 w5 g1 (.slice A5 x.f0.length c5) (.slice B5 x.f1.length d5) x.f2 x.f3 = ((((w5.setCell ⟨g1, 0, none⟩ (.slice A5 x.f0.length c5)).setCell ⟨g1, 1, none⟩ (.slice B5 x.f1.length d5)).setCell ⟨g1, 2, none⟩ (.int .i64 x.f2)).setCell ⟨g1, 3, none⟩ (.int .i64 x.f3)) := rfl
  rw [← e4]
  clear e4 b10 b11 b12 b13 cf0 cf1 cf2 cf3 HT HC HM
  replace R0 := zA (Kd.R_lower (put4_R (g := g1) (a := .slice A5 x.f0.length c5) (b := .slice B5 x.f1.length d5) (x := x.f2) (y := x.f3) B1.out R0.out) HBS.out.1)
  replace S0 := zA (put4_S (g := g1) (a := .slice A5 x.f0.length c5) (b := .slice B5 x.f1.length d5) (x := x.f2) (y := x.f3) B1.out S0.out)
  replace B2 := zA (put4_far (g := g1) (a := .slice A5 x.f0.length c5) (b := .slice B5 x.f1.length d5) (x := x.f2) (y := x.f3) B2.out HG.out.2.2)
  replace HB := zA (put4_below (g := g1) (a := .slice A5 x.f0.length c5) (b := .slice B5 x.f1.length d5) (x := x.f2) (y := x.f3) HB.out HG.out.1)
  replace B1 := zA (put4_blk (g := g1) (a := .slice A5 x.f0.length c5) (b := .slice B5 x.f1.length d5) (x := x.f2) (y := x.f3) B1.out)
  generalize put4 w5 g1 (.slice A5 x.f0.length c5) (.slice B5 x.f1.length d5) x.f2 x.f3 = W7 at B1 B2 HB R0 S0 ⊢
  clear HBS HL2
  have HN := zA (And.intro (blk_lt B1.out) (blk_lt B2.out))
  replace R0 := zA (Kd.R_mono (Kd.R_bound R0.out) (ok' := fun k => k < W7.heap.size) (fun k h => h.2.2.1))
  have HS5 := zA (Kd.S_reads' S0.out)
  clear S0
  obtain ⟨z, hz⟩ : ∃ z, z = x.f1.flatten := ⟨_, rfl⟩
  have HZ := zA hz
  have HZC := zA (concat_f HF.out)
  have HTIE := zA (runs_tie HF.out)
  have HLEN := zA (runs_len HF.out)
  have HIN : Aside0 (∀ c ∈ z, 1 ≤ c.f2 ∧ c.f2 ≤ 400) := ⟨fun y hy => by
    rw [hz] at hy
    obtain ⟨r, hr, hy⟩ := List.mem_flatten.1 hy
    exact (tree_facts HF.out).at_ r (List.mem_cons_of_mem _ hr) y hy⟩
  rw [← hz] at HZC HTIE HLEN
  clear hz
  obtain ⟨b10, b11, b12, b13⟩ := keep4 B1.out
  go_upto_region 5 with (go_at_call 72; refine (impl_Cell_72.calls B5 d5 x.f1 z _ HS5.out.2.2 HS5.out.2.1 HZC.out).mono ?_; rintro e w8 ⟨v3, rfl, hR, hb⟩; have HBW := zA HB.out.size; replace B2 := zA (blk_below B2.out hb); replace B1 := zA (blk_below B1.out hb); replace HB := zA (bel HB.out hb); replace R0 := zA (Kd.R_below R0.out hb); have R8 := zA (Kd.R_lower (Kd.R_mono (Kd.R_bound hR) (ok' := fun k => W7.heap.size ≤ k) (fun k h => h.2.1)) HBW.out); clear hR hb HS5 b10 b11 b12 b13 HBW; obtain ⟨A8, c8, rfl⟩ := Kd.R_slice R8.out)
  go_upto_region 6 with (go_at_call 73; refine (sort_cells (fun k => W7.heap.size ≤ k) (.slice A8 z.length c8) z w w8 HB.out R8.out HIN.out HTIE.out (by have := HLEN.out; omega)).mono ?_; rintro e w9 ⟨rfl, hR, hb, hkp⟩; have hn := HN.out; replace B1 := zA (blk_kept B1.out hkp (fun h => Nat.not_lt_of_le h hn.1)); replace B2 := zA (blk_kept B2.out hkp (fun h => Nat.not_lt_of_le h hn.2)); replace R0 := zA (Kd.R_kept R0.out hkp (fun k h h' => Nat.not_lt_of_le h' h)); replace HB := zA hb; replace R8 := zA hR; clear hR hb hkp hn)
  obtain ⟨l, hl⟩ : ∃ l, l = srt z := ⟨_, rfl⟩
  have hzl : z.length = l.length := by rw [hl]; exact (srt_len z).symm
  have HR : Aside0 (mrgR keep x.f1 = mrgI keep l l.length) := ⟨by rw [hl, HZ.out]; rfl⟩
  rw [← hl] at R8
  have HLL : Aside0 (l.length ≤ 400) := ⟨by rw [← hzl]; exact HLEN.out⟩
  rw [hzl] at R8 ⊢
  clear hzl hl HIN HTIE HLEN HZC HZ HN
  obtain ⟨b10, b11, b12, b13⟩ := keep4 B1.out
  have cf1 := blk_frozen B1.out 1
  go_upto_region 7 with (fail)
  replace R0 := zA (Kd.R_set R0.out B1.out (by decide) 1 (.slice none 0 0))
  replace R8 := zA (Kd.R_set R8.out B1.out (by decide) 1 (.slice none 0 0))
  replace B2 : Aside0 (blkT (w9.setCell ⟨g1, 1, none⟩ (.slice none 0 0)) g2 (.slice none 0 0) (.slice none 0 0) 0 0) := ⟨blk_far (p := ⟨g1, 1, none⟩) B2.out HG.out.2.2 _⟩
  replace HB := zA (below_set HB.out HG.out.1 (j := 1) (v := .slice none 0 0))
  replace B1 := zA (blkT_put1 B1.out (.slice none 0 0))
  clear b10 b11 b12 b13 cf1
  generalize w9.setCell ⟨g1, 1, none⟩ (.slice none 0 0) = V1 at R0 R8 B2 HB B1 ⊢
  obtain ⟨N, hN⟩ : ∃ N, N = V1.heap.size := ⟨_, rfl⟩
  have HN : Aside0 (g1 < N ∧ g2 < N ∧ w.heap.size ≤ N) := ⟨by rw [hN]; exact ⟨blk_lt B1.out, blk_lt B2.out, HB.out.size⟩⟩
  replace R0 := zA (Kd.R_mono (Kd.R_bound R0.out) (ok' := fun k => k < N) (fun k h => by rw [hN]; exact h.2.2.1))
  replace R8 := zA (Kd.R_mono (Kd.R_bound R8.out) (ok' := fun k => k < N) (fun k h => by rw [hN]; exact h.2.2.1))
  have HNV := zA (Nat.le_of_eq hN)
  clear hN
  go_wp2
  go_loopg [6, 27] (l.length + 1) (fun kq v6 v27 wr => ∃ (j : Nat), (j + kq = l.length + 1 ∧ j ≤ l.length) ∧ v27 = .int .i64 (j : Int) ∧ Aside0 (KC.R TC wr w.heap.size (fun k => N ≤ k) v6 (mrgI keep l j)) ∧ Aside0 (blkT wr g1 (.slice A5 x.f0.length c5) (.slice none 0 0) x.f2 x.f3) ∧ Aside0 (blkT wr g2 (.slice none 0 0) (.slice none 0 0) 0 0) ∧ Aside0 (KC.R TC wr w.heap.size (fun k => k < N) (.slice A8 l.length c8) l) ∧ Aside0 (KC.R TC wr w.heap.size (fun k => k < N) (.slice A5 x.f0.length c5) x.f0) ∧ Aside0 (Below w.heap.size w wr ∧ N ≤ wr.heap.size))
  case atStart => exact ⟨0, ⟨by omega, Nat.zero_le _⟩, rfl, ⟨Kd.R_nil _ _ _ _ _⟩, ⟨by first | exact B1.out | exact blk_drewN B1.out _⟩, ⟨by first | exact B2.out | exact blk_drewN B2.out _⟩, ⟨by first | exact R8.out | exact Kd.R_drewN R8.out _⟩, ⟨by first | exact R0.out | exact Kd.R_drewN R0.out _⟩, ⟨by first | exact ⟨HB.out, HNV.out⟩ | exact ⟨pw_below_drewN HB.out _, HNV.out⟩⟩⟩
  case round =>
    clear B1 B2 R8 R0 HB HNV
    obtain ⟨j, hj, rfl, R6, B1, B2, R8, R0, HB⟩ := hrel
    by_cases hlt : j < l.length
    case neg =>
      obtain rfl : j = l.length := by omega
      clear R8
      obtain ⟨L, hL⟩ : ∃ L, L = mrgI keep l l.length := ⟨_, rfl⟩
      rw [← hL] at R6 HR
      have HX : Aside0 (mrgX keep x.f1 = if L = [] then [] else [L]) := ⟨by unfold mrgX; rw [HR.out]⟩
      clear hL
      obtain ⟨A6, c6, rfl⟩ := Kd.R_slice R6.out
      by_cases hp : (0 : Int) < (L.length : Int)
      case neg =>
        have hl0 : L = [] := List.eq_nil_of_length_eq_zero (by omega)
        obtain ⟨b10, b11, b12, b13⟩ := keep4 B1.out
        obtain ⟨b20, b21, b22, b23⟩ := keep4 B2.out; have cf0 := blk_frozen B2.out 0; have cf1 := blk_frozen B2.out 1; have cf2 := blk_frozen B2.out 2; have cf3 := blk_frozen B2.out 3
        go_wp2
        refine bodyPost_ret (results_cell_row rfl _ _ g2 31 #[.slice A5 x.f0.length c5, .slice none 0 0, .int .i64 x.f2, .int .i64 x.f3] (0, 0) _ rfl (put4_blk B2.out) Try.underlying31 rfl (by kernel_rfl)) rfl ?_
        rw [hT.out, HX.out, if_pos hl0]
        exact ⟨_, _, rfl, Kd.R_mono (put4_R B2.out R0.out) (fun _ _ => trivial), Kd.S_nil _ _ _ _ _, put4_below HB.out.1 HG.out.2.1⟩
      have hl0 : ¬ L = [] := by rintro rfl; simp at hp
      have HL0 := zA hl0
      clear hl0
      have MK : True := trivial
      go_upto_region 16 with ((with_reducible refine gate_dst (N := 75) rfl ?_); clear MK; have hb := bel_alloc wr (.cells #[.slice A6 L.length c6] TL); obtain ⟨gn, hgn⟩ : ∃ gn, gn = wr.heap.size := ⟨_, rfl⟩; have BN := zA (blk_new wr (.cells #[.slice A6 L.length c6] TL)); have HL : Aside0 (N ≤ gn ∧ g1 ≠ gn) := ⟨by have h1 := HN.out.1; have h2 := HB.out.2; omega⟩; replace R6 := zA (Kd.R_below (Kd.R_mono (Kd.R_bound R6.out) (ok' := fun k => N ≤ k ∧ k ≠ gn) (fun k h => ⟨h.1, by have := h.2.2.1; omega⟩)) hb); replace B1 := zA (blk_below B1.out hb); replace B2 := zA (blk_below B2.out hb); replace R0 := zA (Kd.R_below R0.out hb); replace HB := zA (And.intro (bel HB.out.1 hb) (Nat.le_trans HB.out.2 hb.size)); rw [← hgn] at BN ⊢; clear hb hgn; generalize wr.alloc (.cells #[.slice A6 L.length c6] TL) = W9 at BN B1 B2 R0 R6 HB ⊢; obtain ⟨b10, b11, b12, b13⟩ := keep4 B1.out; have cf1 := blk_frozen B1.out 1)
      clear b10 b11 b12 b13 cf1
      have HW9 := zA (And.intro HB.out.1.size HG.out.1)
      replace R0 := zA (Kd.R_set R0.out B1.out (by decide) 1 (.slice (some ⟨gn, 0, none⟩) 1 1))
      replace R6 := zA (Kd.R_set R6.out B1.out (by decide) 1 (.slice (some ⟨gn, 0, none⟩) 1 1))
      replace B2 : Aside0 (blkT (W9.setCell ⟨g1, 1, none⟩ (.slice (some ⟨gn, 0, none⟩) 1 1)) g2 (.slice none 0 0) (.slice none 0 0) 0 0) := ⟨blk_far (p := ⟨g1, 1, none⟩) B2.out HG.out.2.2 _⟩
      replace BN := zA (blk_far (p := ⟨g1, 1, none⟩) BN.out (Ne.symm HL.out.2) (.slice (some ⟨gn, 0, none⟩) 1 1))
      replace HB := zA (below_set HB.out.1 HG.out.1 (j := 1) (v := .slice (some ⟨gn, 0, none⟩) 1 1))
      replace B1 := zA (blkT_put1 B1.out (.slice (some ⟨gn, 0, none⟩) 1 1))
      generalize W9.setCell ⟨g1, 1, none⟩ (.slice (some ⟨gn, 0, none⟩) 1 1) = V2 at R0 R6 B1 B2 BN HB ⊢
      have S1 := zA (one_row (ok := fun k => N ≤ k) BN.out (Nat.le_trans HN.out.2.2 HL.out.1) HL.out.1 R6.out)
      have HNE : Aside0 (∀ k, N ≤ k → some k ≠ (Value.slice A5 x.f0.length c5).ownBlock) := ⟨fun k h he => Nat.not_lt_of_le h (R0.out.1 k he.symm)⟩
      obtain ⟨b10, b11, b12, b13⟩ := keep4 B1.out
      obtain ⟨b20, b21, b22, b23⟩ := keep4 B2.out; have cf0 := blk_frozen B2.out 0; have cf1 := blk_frozen B2.out 1; have cf2 := blk_frozen B2.out 2; have cf3 := blk_frozen B2.out 3
      go_wp2
      refine bodyPost_ret (results_cell_row rfl _ _ g2 31 #[.slice A5 x.f0.length c5, .slice (some ⟨gn, 0, none⟩) 1 1, .int .i64 x.f2, .int .i64 x.f3] (0, 0) _ rfl (put4_blk B2.out) Try.underlying31 rfl (by kernel_rfl)) rfl ?_
      rw [hT.out, HX.out, if_neg HL0.out]
      exact ⟨_, _, rfl, Kd.R_mono (put4_R B2.out R0.out) (fun _ _ => trivial), Kd.S_mono (put4_S B2.out S1.out) HNE.out, put4_below HB.out HG.out.2.1⟩
    obtain ⟨⟨k0, k1, k2, k3⟩, hye⟩ : ∃ c : Cel, l[j] = c := ⟨_, rfl⟩
    obtain ⟨ad2, ee, e0, e1, e2, e3⟩ := elemC (Kd.R_reads' R8.out).2.2 (Below.refl _ _) hlt hye
    cases ee
    have MC := zA (mk0_at hlt hye)
    have hw : wrap64 ((j : Int) + 1) = (j : Int) + 1 := w64 (by omega) (by have := HLL.out; omega)
    clear hye
    go_upto_region 11 with (fail)
    have B3 := zA (blk_new wr (.cells #[.string k0, .string k1, .int .i64 k2, .bool k3] 48))
    have hb := bel_alloc wr (.cells #[.string k0, .string k1, .int .i64 k2, .bool k3] 48)
    replace R6 := zA (Kd.R_below R6.out hb)
    replace R8 := zA (Kd.R_below R8.out hb)
    replace R0 := zA (Kd.R_below R0.out hb)
    replace B1 := zA (blk_below B1.out hb)
    replace B2 := zA (blk_below B2.out hb)
    replace HB := zA (And.intro (bel HB.out.1 hb) (Nat.le_trans HB.out.2 hb.size))
    clear e0 e1 e2 e3 hb
    generalize wr.alloc (.cells #[.string k0, .string k1, .int .i64 k2, .bool k3] 48) = W3 at *
    generalize wr.heap.size = g9 at *
    obtain ⟨hx0, hx1, hx2, hx3⟩ := keep4 B3.out
    obtain ⟨a1, h1⟩ : ∃ b, decide (k2 ≤ keep) = b := ⟨_, rfl⟩
    cases a1
    case false =>
      have HO : Aside0 (outB keep l j = false) := ⟨by unfold outB; simp only [MC.out]; rw [h1]; rfl⟩
      go_quiet (fail)
      have hM : mrgI keep l (j + 1) = mrgI keep l j ++ [⟨k0, k1, k2, k3⟩] := by rw [mrgI, HO.out, if_neg (by simp), MC.out]
      have HML := zA (mrg_sub keep l j (by omega)).1
      go_wp2_with ((with_reducible refine gate_builtin (b := .append) (xs := #[.tmp 65, .tmp 67]) rfl ?_); at_builtin; refine Kd.R_append KC (w0 := w) w.heap.size rfl (.tmp 65) (.tmp 67) 28 TC (.agg #[(.string ⟨#[]⟩), (.string ⟨#[]⟩), (.int .i64 0), (.bool false)]) 48 rfl Try.underlying28 info48 rfl (by decide) (by omega) u6 (mrgI keep l j) ⟨k0, k1, k2, k3⟩ [.string k0, .string k1, .int .i64 k2, .bool k3] (fun k => N ≤ k) (fun _ => False) rfl rfl ?aP (fun _ hk => hk.elim) ?aF ?aO ?aB ?aS ?aL ?_; (case aP => exact k48_mkM _ _ _ (⟨k0, k1, k2, k3⟩ : Cel)); (case aF => exact (fun k hk => Nat.le_trans HB.out.2 hk)); (case aO => exact (by (with_reducible repeat (first | apply Kd.R_alloc | apply Kd.R_drewN | apply Kd.R_drew)); exact R6.out)); (case aB => exact (by repeat (first | (with_reducible exact HB.out.1) | apply below_alloc | apply pw_below_drewN))); (case aS => exact HB.out.1.size); (case aL => have h1 := HML.out; have h2 := HLL.out; omega); intro v7 w9 ho hb hg hat; have hne : ∀ k, k < N → some k ≠ u6.ownBlock := (fun k hk he => Nat.not_lt_of_le (R6.out.1 k he.symm) hk); replace B1 := zA (blk_grown (o := .cells #[.slice A5 x.f0.length c5, .slice none 0 0, .int .i64 x.f2, .int .i64 x.f3] 31 (0, 0)) (by (with_reducible repeat (first | refine blk_drewN ?_ _ | refine blk_drew ?_ | refine blk_alloc ?_ _)); exact B1.out) hg (hne _ HN.out.1)); replace B2 := zA (blk_grown (o := .cells #[.slice none 0 0, .slice none 0 0, .int .i64 0, .int .i64 0] 31 (0, 0)) (by (with_reducible repeat (first | refine blk_drewN ?_ _ | refine blk_drew ?_ | refine blk_alloc ?_ _)); exact B2.out) hg (hne _ HN.out.2.1)); replace R8 := zA (Kd.R_grown (by (with_reducible repeat (first | apply Kd.R_alloc | apply Kd.R_drewN | apply Kd.R_drew)); exact R8.out) hg hne); replace R0 := zA (Kd.R_grown (by (with_reducible repeat (first | apply Kd.R_alloc | apply Kd.R_drewN | apply Kd.R_drew)); exact R0.out) hg hne); replace R6 := zA ho; replace HB := zA (And.intro hb (Nat.le_trans HB.out.2 hg.size)); clear ho hb hg hat hne hx0 hx1 hx2 hx3 B3)
      go_roundg (l.length - j)
      case measure => omega
      case rel => exact ⟨j + 1, ⟨by omega, by omega⟩, by have := HLL.out; go_num, ⟨by rw [hM]; first | exact R6.out | exact Kd.R_drewN R6.out _⟩, ⟨by first | exact B1.out | exact blk_drewN B1.out _⟩, ⟨by first | exact B2.out | exact blk_drewN B2.out _⟩, ⟨by first | exact R8.out | exact Kd.R_drewN R8.out _⟩, ⟨by first | exact R0.out | exact Kd.R_drewN R0.out _⟩, ⟨by first | exact HB.out | exact ⟨pw_below_drewN HB.out.1 _, HB.out.2⟩⟩⟩
    cases k3
    case true =>
      have HO : Aside0 (outB keep l j = true) := ⟨by unfold outB; simp only [MC.out]; rw [h1]; rfl⟩
      go_quiet (fail)
      have hM : mrgI keep l (j + 1) = mrgI keep l j := by rw [mrgI, HO.out, if_pos (by simp)]
      go_wp2_with (fail)
      go_roundg (l.length - j)
      case measure => omega
      case rel => exact ⟨j + 1, ⟨by omega, by omega⟩, by have := HLL.out; go_num, ⟨by rw [hM]; first | exact R6.out | exact Kd.R_drewN R6.out _⟩, ⟨by first | exact B1.out | exact blk_drewN B1.out _⟩, ⟨by first | exact B2.out | exact blk_drewN B2.out _⟩, ⟨by first | exact R8.out | exact Kd.R_drewN R8.out _⟩, ⟨by first | exact R0.out | exact Kd.R_drewN R0.out _⟩, ⟨by first | exact HB.out | exact ⟨pw_below_drewN HB.out.1 _, HB.out.2⟩⟩⟩
    by_cases h0 : 0 < j
    case neg =>
      have q0 : decide ((0 : Int) < (j : Int)) = false := decide_eq_false (by omega)
      have q1 : decide (0 < j) = false := decide_eq_false h0
      have HO : Aside0 (outB keep l j = false) := ⟨by unfold outB; simp only [MC.out]; rw [q1]; simp⟩
      clear h0
      go_quiet (fail)
      have hM : mrgI keep l (j + 1) = mrgI keep l j ++ [⟨k0, k1, k2, false⟩] := by rw [mrgI, HO.out, if_neg (by simp), MC.out]
      have HML := zA (mrg_sub keep l j (by omega)).1
      go_wp2_with ((with_reducible refine gate_builtin (b := .append) (xs := #[.tmp 65, .tmp 67]) rfl ?_); at_builtin; refine Kd.R_append KC (w0 := w) w.heap.size rfl (.tmp 65) (.tmp 67) 28 TC (.agg #[(.string ⟨#[]⟩), (.string ⟨#[]⟩), (.int .i64 0), (.bool false)]) 48 rfl Try.underlying28 info48 rfl (by decide) (by omega) u6 (mrgI keep l j) ⟨k0, k1, k2, false⟩ [.string k0, .string k1, .int .i64 k2, .bool false] (fun k => N ≤ k) (fun _ => False) rfl rfl ?aP (fun _ hk => hk.elim) ?aF ?aO ?aB ?aS ?aL ?_; (case aP => exact k48_mkM _ _ _ (⟨k0, k1, k2, false⟩ : Cel)); (case aF => exact (fun k hk => Nat.le_trans HB.out.2 hk)); (case aO => exact (by (with_reducible repeat (first | apply Kd.R_alloc | apply Kd.R_drewN | apply Kd.R_drew)); exact R6.out)); (case aB => exact (by repeat (first | (with_reducible exact HB.out.1) | apply below_alloc | apply pw_below_drewN))); (case aS => exact HB.out.1.size); (case aL => have h1 := HML.out; have h2 := HLL.out; omega); intro v7 w9 ho hb hg hat; have hne : ∀ k, k < N → some k ≠ u6.ownBlock := (fun k hk he => Nat.not_lt_of_le (R6.out.1 k he.symm) hk); replace B1 := zA (blk_grown (o := .cells #[.slice A5 x.f0.length c5, .slice none 0 0, .int .i64 x.f2, .int .i64 x.f3] 31 (0, 0)) (by (with_reducible repeat (first | refine blk_drewN ?_ _ | refine blk_drew ?_ | refine blk_alloc ?_ _)); exact B1.out) hg (hne _ HN.out.1)); replace B2 := zA (blk_grown (o := .cells #[.slice none 0 0, .slice none 0 0, .int .i64 0, .int .i64 0] 31 (0, 0)) (by (with_reducible repeat (first | refine blk_drewN ?_ _ | refine blk_drew ?_ | refine blk_alloc ?_ _)); exact B2.out) hg (hne _ HN.out.2.1)); replace R8 := zA (Kd.R_grown (by (with_reducible repeat (first | apply Kd.R_alloc | apply Kd.R_drewN | apply Kd.R_drew)); exact R8.out) hg hne); replace R0 := zA (Kd.R_grown (by (with_reducible repeat (first | apply Kd.R_alloc | apply Kd.R_drewN | apply Kd.R_drew)); exact R0.out) hg hne); replace R6 := zA ho; replace HB := zA (And.intro hb (Nat.le_trans HB.out.2 hg.size)); clear ho hb hg hat hne hx0 hx1 hx2 hx3 B3)
      go_roundg (l.length - j)
      case measure => omega
      case rel => exact ⟨j + 1, ⟨by omega, by omega⟩, by have := HLL.out; go_num, ⟨by rw [hM]; first | exact R6.out | exact Kd.R_drewN R6.out _⟩, ⟨by first | exact B1.out | exact blk_drewN B1.out _⟩, ⟨by first | exact B2.out | exact blk_drewN B2.out _⟩, ⟨by first | exact R8.out | exact Kd.R_drewN R8.out _⟩, ⟨by first | exact R0.out | exact Kd.R_drewN R0.out _⟩, ⟨by first | exact HB.out | exact ⟨pw_below_drewN HB.out.1 _, HB.out.2⟩⟩⟩
    obtain ⟨i, hi⟩ : ∃ i : Nat, j = i + 1 := ⟨j - 1, by omega⟩
    have hit : i < l.length := by omega
    have wj : IntKind.i64.wrap ((j : Int) - 1) = (i : Int) := (i64_w _).trans (by unfold wrap64; have := HLL.out; omega)
    obtain ⟨⟨p0, p1, p2, p3⟩, hpe⟩ : ∃ c : Cel, l[i] = c := ⟨_, rfl⟩
    obtain ⟨ad3, ee, f0, f1, f2, f3⟩ := elemC (Kd.R_reads' R8.out).2.2 (Below.refl _ _) hit hpe
    have ee' := Option.some.inj ee
    subst ee'
    clear ee
    have MP : Aside0 (mk0 l (j - 1) = ⟨p0, p1, p2, p3⟩) := ⟨by rw [show j - 1 = i by omega]; exact mk0_at hit hpe⟩
    clear hpe
    have q0 : decide ((0 : Int) < (j : Int)) = true := decide_eq_true (by omega)
    have q1 : decide (0 < j) = true := decide_eq_true h0
    have q2 : (0 : Int) < (j : Int) := by omega
    have q4 : (i : Int) < (l.length : Int) := by omega
    replace hi := zA hi
    obtain ⟨a3, h5⟩ : ∃ b, (p0.toList == k0.toList) = b := ⟨_, rfl⟩
    obtain ⟨a4, h4⟩ : ∃ b, decide (p2 ≤ keep) = b := ⟨_, rfl⟩
    have HO : Aside0 (outB keep l j = (a3 && a4)) := ⟨by unfold outB; simp only [MC.out, MP.out]; rw [h1, q1, show decide (p0.toList = k0.toList) = (p0.toList == k0.toList) from by rw [Bool.eq_iff_iff]; simp, h5, h4]; simp⟩
    cases a3
    case false =>
      go_quiet (fail)
      have hM : mrgI keep l (j + 1) = mrgI keep l j ++ [⟨k0, k1, k2, false⟩] := by rw [mrgI, HO.out, if_neg (by simp), MC.out]
      have HML := zA (mrg_sub keep l j (by omega)).1
      go_wp2_with ((with_reducible refine gate_builtin (b := .append) (xs := #[.tmp 65, .tmp 67]) rfl ?_); at_builtin; refine Kd.R_append KC (w0 := w) w.heap.size rfl (.tmp 65) (.tmp 67) 28 TC (.agg #[(.string ⟨#[]⟩), (.string ⟨#[]⟩), (.int .i64 0), (.bool false)]) 48 rfl Try.underlying28 info48 rfl (by decide) (by omega) u6 (mrgI keep l j) ⟨k0, k1, k2, false⟩ [.string k0, .string k1, .int .i64 k2, .bool false] (fun k => N ≤ k) (fun _ => False) rfl rfl ?aP (fun _ hk => hk.elim) ?aF ?aO ?aB ?aS ?aL ?_; (case aP => exact k48_mkM _ _ _ (⟨k0, k1, k2, false⟩ : Cel)); (case aF => exact (fun k hk => Nat.le_trans HB.out.2 hk)); (case aO => exact (by (with_reducible repeat (first | apply Kd.R_alloc | apply Kd.R_drewN | apply Kd.R_drew)); exact R6.out)); (case aB => exact (by repeat (first | (with_reducible exact HB.out.1) | apply below_alloc | apply pw_below_drewN))); (case aS => exact HB.out.1.size); (case aL => have h1 := HML.out; have h2 := HLL.out; omega); intro v7 w9 ho hb hg hat; have hne : ∀ k, k < N → some k ≠ u6.ownBlock := (fun k hk he => Nat.not_lt_of_le (R6.out.1 k he.symm) hk); replace B1 := zA (blk_grown (o := .cells #[.slice A5 x.f0.length c5, .slice none 0 0, .int .i64 x.f2, .int .i64 x.f3] 31 (0, 0)) (by (with_reducible repeat (first | refine blk_drewN ?_ _ | refine blk_drew ?_ | refine blk_alloc ?_ _)); exact B1.out) hg (hne _ HN.out.1)); replace B2 := zA (blk_grown (o := .cells #[.slice none 0 0, .slice none 0 0, .int .i64 0, .int .i64 0] 31 (0, 0)) (by (with_reducible repeat (first | refine blk_drewN ?_ _ | refine blk_drew ?_ | refine blk_alloc ?_ _)); exact B2.out) hg (hne _ HN.out.2.1)); replace R8 := zA (Kd.R_grown (by (with_reducible repeat (first | apply Kd.R_alloc | apply Kd.R_drewN | apply Kd.R_drew)); exact R8.out) hg hne); replace R0 := zA (Kd.R_grown (by (with_reducible repeat (first | apply Kd.R_alloc | apply Kd.R_drewN | apply Kd.R_drew)); exact R0.out) hg hne); replace R6 := zA ho; replace HB := zA (And.intro hb (Nat.le_trans HB.out.2 hg.size)); clear ho hb hg hat hne hx0 hx1 hx2 hx3 B3)
      go_roundg (l.length - j)
      case measure => omega
      case rel => exact ⟨j + 1, ⟨by omega, by omega⟩, by have := HLL.out; go_num, ⟨by rw [hM]; first | exact R6.out | exact Kd.R_drewN R6.out _⟩, ⟨by first | exact B1.out | exact blk_drewN B1.out _⟩, ⟨by first | exact B2.out | exact blk_drewN B2.out _⟩, ⟨by first | exact R8.out | exact Kd.R_drewN R8.out _⟩, ⟨by first | exact R0.out | exact Kd.R_drewN R0.out _⟩, ⟨by first | exact HB.out | exact ⟨pw_below_drewN HB.out.1 _, HB.out.2⟩⟩⟩
    cases a4
    case false =>
      go_quiet (fail)
      have hM : mrgI keep l (j + 1) = mrgI keep l j ++ [⟨k0, k1, k2, false⟩] := by rw [mrgI, HO.out, if_neg (by simp), MC.out]
      have HML := zA (mrg_sub keep l j (by omega)).1
      go_wp2_with ((with_reducible refine gate_builtin (b := .append) (xs := #[.tmp 65, .tmp 67]) rfl ?_); at_builtin; refine Kd.R_append KC (w0 := w) w.heap.size rfl (.tmp 65) (.tmp 67) 28 TC (.agg #[(.string ⟨#[]⟩), (.string ⟨#[]⟩), (.int .i64 0), (.bool false)]) 48 rfl Try.underlying28 info48 rfl (by decide) (by omega) u6 (mrgI keep l j) ⟨k0, k1, k2, false⟩ [.string k0, .string k1, .int .i64 k2, .bool false] (fun k => N ≤ k) (fun _ => False) rfl rfl ?aP (fun _ hk => hk.elim) ?aF ?aO ?aB ?aS ?aL ?_; (case aP => exact k48_mkM _ _ _ (⟨k0, k1, k2, false⟩ : Cel)); (case aF => exact (fun k hk => Nat.le_trans HB.out.2 hk)); (case aO => exact (by (with_reducible repeat (first | apply Kd.R_alloc | apply Kd.R_drewN | apply Kd.R_drew)); exact R6.out)); (case aB => exact (by repeat (first | (with_reducible exact HB.out.1) | apply below_alloc | apply pw_below_drewN))); (case aS => exact HB.out.1.size); (case aL => have h1 := HML.out; have h2 := HLL.out; omega); intro v7 w9 ho hb hg hat; have hne : ∀ k, k < N → some k ≠ u6.ownBlock := (fun k hk he => Nat.not_lt_of_le (R6.out.1 k he.symm) hk); replace B1 := zA (blk_grown (o := .cells #[.slice A5 x.f0.length c5, .slice none 0 0, .int .i64 x.f2, .int .i64 x.f3] 31 (0, 0)) (by (with_reducible repeat (first | refine blk_drewN ?_ _ | refine blk_drew ?_ | refine blk_alloc ?_ _)); exact B1.out) hg (hne _ HN.out.1)); replace B2 := zA (blk_grown (o := .cells #[.slice none 0 0, .slice none 0 0, .int .i64 0, .int .i64 0] 31 (0, 0)) (by (with_reducible repeat (first | refine blk_drewN ?_ _ | refine blk_drew ?_ | refine blk_alloc ?_ _)); exact B2.out) hg (hne _ HN.out.2.1)); replace R8 := zA (Kd.R_grown (by (with_reducible repeat (first | apply Kd.R_alloc | apply Kd.R_drewN | apply Kd.R_drew)); exact R8.out) hg hne); replace R0 := zA (Kd.R_grown (by (with_reducible repeat (first | apply Kd.R_alloc | apply Kd.R_drewN | apply Kd.R_drew)); exact R0.out) hg hne); replace R6 := zA ho; replace HB := zA (And.intro hb (Nat.le_trans HB.out.2 hg.size)); clear ho hb hg hat hne hx0 hx1 hx2 hx3 B3)
      go_roundg (l.length - j)
      case measure => omega
      case rel => exact ⟨j + 1, ⟨by omega, by omega⟩, by have := HLL.out; go_num, ⟨by rw [hM]; first | exact R6.out | exact Kd.R_drewN R6.out _⟩, ⟨by first | exact B1.out | exact blk_drewN B1.out _⟩, ⟨by first | exact B2.out | exact blk_drewN B2.out _⟩, ⟨by first | exact R8.out | exact Kd.R_drewN R8.out _⟩, ⟨by first | exact R0.out | exact Kd.R_drewN R0.out _⟩, ⟨by first | exact HB.out | exact ⟨pw_below_drewN HB.out.1 _, HB.out.2⟩⟩⟩
    case true =>
      go_quiet (fail)
      have hM : mrgI keep l (j + 1) = mrgI keep l j := by rw [mrgI, HO.out, if_pos (by simp)]
      go_wp2_with (fail)
      go_roundg (l.length - j)
      case measure => omega
      case rel => exact ⟨j + 1, ⟨by omega, by omega⟩, by have := HLL.out; go_num, ⟨by rw [hM]; first | exact R6.out | exact Kd.R_drewN R6.out _⟩, ⟨by first | exact B1.out | exact blk_drewN B1.out _⟩, ⟨by first | exact B2.out | exact blk_drewN B2.out _⟩, ⟨by first | exact R8.out | exact Kd.R_drewN R8.out _⟩, ⟨by first | exact R0.out | exact Kd.R_drewN R0.out _⟩, ⟨by first | exact HB.out | exact ⟨pw_below_drewN HB.out.1 _, HB.out.2⟩⟩⟩
end Go.Proofs.Ythffllegmkolgaa.TreeK
