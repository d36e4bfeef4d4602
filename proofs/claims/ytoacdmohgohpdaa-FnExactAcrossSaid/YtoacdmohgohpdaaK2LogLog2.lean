/- The program's LogOk, called: what it tells is 'logB'. -/
import Derived.Test.YtoacdmohgohpdaaK2LogBat2
import Derived.Test.YtoacdmohgohpdaaK2LogLog
import Derived.BigQuiet
import Derived.Deep.RegionHeld3
namespace Go.Proofs.Ytoacdmohgohpdaa.LogK
open Go.RowKit Go.Proofs.YtoacdmohgohpdaaW.PrintWords Go.Proofs.YtoacdmohgohpdaaW.PrintLast Go.Proofs.YtoacdmohgohpdaaW.PrintMore Go.Proofs.Ytoacdmohgohpdaa.QFnExactBehind
theorem impl_bat (b0 b1 b2 b3 b4 b5 : Int) (A : Option Addr) (c : Nat) (rs : List Rec) (r : Bool) (w : World) (h : batchB ⟨b0, b1, b2, b3, b4, b5, rs⟩ = r) (hC : k158.C w A rs.length rs) (hc : rs.length ≤ c) (hs : smR rs) :
    Calls Try.prog 92 #[.agg #[.int .i64 b0, .int .i64 b1, .int .i64 b2, .int .i64 b3, .int .i64 b4, .int .i64 b5, .slice A rs.length c]] w fun e w' => e = .returned (.bool r) ∧ Below w.heap.size w w' := by
  subst h
  exact impl_batch b0 b1 b2 b3 b4 b5 A c rs w hC hc hs
theorem impl_last (b0 b1 b2 b3 b4 b5 : Int) (A : Option Addr) (c : Nat) (rs : List Rec) (w : World) (h : batchB ⟨b0, b1, b2, b3, b4, b5, rs⟩ = true) (hC : k158.C w A rs.length rs) (hc : rs.length ≤ c) :
    Calls Try.prog 93 #[.agg #[.int .i64 b0, .int .i64 b1, .int .i64 b2, .int .i64 b3, .int .i64 b4, .int .i64 b5, .slice A rs.length c]] w fun e w' => e = .returned (.int .i64 (b0 + rs.length - 1)) ∧ Below w.heap.size w w' := by
  obtain ⟨h0, h1, h2, h3, h4⟩ := batch_in h
  exact impl_lastOf.calls b0 b1 b2 b3 b4 b5 A c rs _ w hC hc (by unfold impl_lastOf.f; congr 1; unfold wrap64; omega)
theorem keep7 {w' : World} {g3 : Nat} {b0 b1 b2 b3 b4 b5 : Int} {A : Option Addr} {c : Nat} {rs : List Rec} (h : w'.heap[g3]? = some (.cells #[.int .i64 b0, .int .i64 b1, .int .i64 b2, .int .i64 b3, .int .i64 b4, .int .i64 b5, .slice A rs.length c] 82 (0, 0))) :
    w'.cell? ⟨g3, 0, none⟩ = some (.int .i64 b0) ∧ w'.cell? ⟨g3, 1, none⟩ = some (.int .i64 b1) ∧ w'.cell? ⟨g3, 2, none⟩ = some (.int .i64 b2) ∧ w'.cell? ⟨g3, 3, none⟩ = some (.int .i64 b3) ∧ w'.cell? ⟨g3, 4, none⟩ = some (.int .i64 b4) ∧ w'.cell? ⟨g3, 5, none⟩ = some (.int .i64 b5) ∧ w'.cell? ⟨g3, 6, none⟩ = some (.slice A rs.length c) :=
  ⟨(blk_cell h 0).trans rfl, (blk_cell h 1).trans rfl, (blk_cell h 2).trans rfl, (blk_cell h 3).trans rfl, (blk_cell h 4).trans rfl, (blk_cell h 5).trans rfl, (blk_cell h 6).trans rfl⟩
set_option maxHeartbeats 3200000 in
set_option maxRecDepth 100000 in
theorem impl_log (start next roll : Int) (A : Option Addr) (c : Nat) (x : List Seg) (w : World) (hC : k125.C w A x.length x) (_ : x.length ≤ c) (hs : smL x) :
    Calls Try.prog 49 #[.agg #[.int .i64 start, .int .i64 next, .int .i64 roll, .slice A x.length c]] w fun e w' => e = .returned (.bool (logB start next roll x)) ∧ Below w.heap.size w w' := by
  have HC := Aside0.mk hC
  have HS := Aside0.mk hs
  have hl := hs.1
  clear hC hs
  obtain ⟨a1, a2, a3, a4, a5, h1, h2, h3, h4, h5⟩ : ∃ a1 a2 a3 a4 a5 : Bool, decide (60 < x.length) = a1 ∧ decide (1 ≤ roll ∧ roll ≤ 20000) = a2 ∧ decide (0 ≤ next ∧ next ≤ 1000000000) = a3 ∧ decide (0 ≤ start ∧ start ≤ 1000000000) = a4 ∧ decide (next < start) = a5 := ⟨_, _, _, _, _, rfl, rfl, rfl, rfl, rfl⟩
  have h1i : decide (60 < (x.length : Int)) = a1 := by rw [← h1, Bool.eq_iff_iff]; simp; omega
  obtain ⟨p, hp⟩ : ∃ p : Bool, p = (!a2 || !a4 || !a3 || a5 || a1) := ⟨_, rfl⟩
  obtain ⟨R, HL⟩ : ∃ R : Bool, segsB next (-1) 0 0 x = R := ⟨_, rfl⟩
  have HR : Aside0 (logB start next roll x = (!p && R)) := ⟨by
    have ha : (a3 && decide (0 ≤ start ∧ start ≤ next)) = (a3 && a4 && !a5) := by
      rw [← h3, ← h4, ← h5, Bool.eq_iff_iff]; simp only [Bool.and_eq_true, decide_eq_true_eq, Bool.not_eq_true', decide_eq_false_iff_not]; omega
    unfold logB; rw [h1, h2, h3, hp, HL]; revert ha; generalize decide (0 ≤ start ∧ start ≤ next) = y
    cases a1 <;> cases a2 <;> cases a3 <;> cases a4 <;> cases a5 <;> cases y <;> simp⟩
  replace hp := Aside0.mk hp
  replace HL := Aside0.mk HL
  go_enter Try.func49, Try.ntmps49
  go_upto_region 1 with (fail)
  have BK := Aside0.mk (blk_new w (.cells #[.int .i64 start, .int .i64 next, .int .i64 roll, .slice A x.length c] 36))
  have HB := Aside0.mk (bel_alloc w (.cells #[.int .i64 start, .int .i64 next, .int .i64 roll, .slice A x.length c] 36))
  obtain ⟨g, hgg⟩ : ∃ g, g = w.heap.size := ⟨_, rfl⟩
  rw [← hgg] at BK
  simp only [← hgg]
  clear hgg
  generalize w.alloc (.cells #[.int .i64 start, .int .i64 next, .int .i64 roll, .slice A x.length c] 36) = W at *
  have hz0 := (blk_cell BK.out 0).trans rfl
  have hz1 := (blk_cell BK.out 1).trans rfl
  have hz2 := (blk_cell BK.out 2).trans rfl
  have hz3 := (blk_cell BK.out 3).trans rfl
  have hfz0 := blk_frozen BK.out 0
  have hfz1 := blk_frozen BK.out 1
  have hfz2 := blk_frozen BK.out 2
  have hfz3 := blk_frozen BK.out 3
  go_cut [38] (fun v38 wc => v38 = .bool p ∧ Aside0 (wc.heap[g]? = some (.cells #[.int .i64 start, .int .i64 next, .int .i64 roll, .slice A x.length c] 36 (0, 0))) ∧ Aside0 (Below w.heap.size w wc))
  case first =>
    cases a2
    case false => ((go_wp2_with (first | (go_at_call 63; refine (call_within _ _ _ _ _ h2).mono ?_; rintro e w' ⟨rfl, ⟨_, rfl⟩⟩) | (go_at_call 62; refine (call_offset _ _ _ (by first | exact h3 | exact h4)).mono ?_; rintro e w' ⟨rfl, ⟨_, rfl⟩⟩))); go_meet; (case rel => exact ⟨by rw [hp.out]; simp, ⟨by (with_reducible repeat (first | refine blk_drewN ?_ _ | refine blk_drew ?_)); exact BK.out⟩, ⟨by repeat (first | (with_reducible exact HB.out) | apply pw_below_drewN)⟩⟩))
    cases a4
    case false => ((go_wp2_with (first | (go_at_call 63; refine (call_within _ _ _ _ _ h2).mono ?_; rintro e w' ⟨rfl, ⟨_, rfl⟩⟩) | (go_at_call 62; refine (call_offset _ _ _ (by first | exact h3 | exact h4)).mono ?_; rintro e w' ⟨rfl, ⟨_, rfl⟩⟩))); go_meet; (case rel => exact ⟨by rw [hp.out]; simp, ⟨by (with_reducible repeat (first | refine blk_drewN ?_ _ | refine blk_drew ?_)); exact BK.out⟩, ⟨by repeat (first | (with_reducible exact HB.out) | apply pw_below_drewN)⟩⟩))
    cases a3
    case false => ((go_wp2_with (first | (go_at_call 63; refine (call_within _ _ _ _ _ h2).mono ?_; rintro e w' ⟨rfl, ⟨_, rfl⟩⟩) | (go_at_call 62; refine (call_offset _ _ _ (by first | exact h3 | exact h4)).mono ?_; rintro e w' ⟨rfl, ⟨_, rfl⟩⟩))); go_meet; (case rel => exact ⟨by rw [hp.out]; simp, ⟨by (with_reducible repeat (first | refine blk_drewN ?_ _ | refine blk_drew ?_)); exact BK.out⟩, ⟨by repeat (first | (with_reducible exact HB.out) | apply pw_below_drewN)⟩⟩))
    cases a5
    case true => ((go_wp2_with (first | (go_at_call 63; refine (call_within _ _ _ _ _ h2).mono ?_; rintro e w' ⟨rfl, ⟨_, rfl⟩⟩) | (go_at_call 62; refine (call_offset _ _ _ (by first | exact h3 | exact h4)).mono ?_; rintro e w' ⟨rfl, ⟨_, rfl⟩⟩))); go_meet; (case rel => exact ⟨by rw [hp.out]; simp, ⟨by (with_reducible repeat (first | refine blk_drewN ?_ _ | refine blk_drew ?_)); exact BK.out⟩, ⟨by repeat (first | (with_reducible exact HB.out) | apply pw_below_drewN)⟩⟩))
    cases a1
    case true => ((go_wp2_with (first | (go_at_call 63; refine (call_within _ _ _ _ _ h2).mono ?_; rintro e w' ⟨rfl, ⟨_, rfl⟩⟩) | (go_at_call 62; refine (call_offset _ _ _ (by first | exact h3 | exact h4)).mono ?_; rintro e w' ⟨rfl, ⟨_, rfl⟩⟩))); go_meet; (case rel => exact ⟨by rw [hp.out]; simp, ⟨by (with_reducible repeat (first | refine blk_drewN ?_ _ | refine blk_drew ?_)); exact BK.out⟩, ⟨by repeat (first | (with_reducible exact HB.out) | apply pw_below_drewN)⟩⟩))
    ((go_wp2_with (first | (go_at_call 63; refine (call_within _ _ _ _ _ h2).mono ?_; rintro e w' ⟨rfl, ⟨_, rfl⟩⟩) | (go_at_call 62; refine (call_offset _ _ _ (by first | exact h3 | exact h4)).mono ?_; rintro e w' ⟨rfl, ⟨_, rfl⟩⟩))); go_meet; (case rel => exact ⟨by rw [hp.out]; simp, ⟨by (with_reducible repeat (first | refine blk_drewN ?_ _ | refine blk_drew ?_)); exact BK.out⟩, ⟨by repeat (first | (with_reducible exact HB.out) | apply pw_below_drewN)⟩⟩))
  case rest =>
    clear hz0 hfz0 hz1 hfz1 hz2 hfz2 hz3 hfz3 BK HB
    obtain ⟨rfl, BK, HB⟩ := hcut
    have hz0 := (blk_cell BK.out 0).trans rfl
    have hz1 := (blk_cell BK.out 1).trans rfl
    have hz2 := (blk_cell BK.out 2).trans rfl
    have hz3 := (blk_cell BK.out 3).trans rfl
    have hfz0 := blk_frozen BK.out 0
    have hfz1 := blk_frozen BK.out 1
    have hfz2 := blk_frozen BK.out 2
    have hfz3 := blk_frozen BK.out 3
    cases p
    case true => (go_wp2; go_ret; exact ⟨by rw [HR.out]; simp, by repeat (first | (with_reducible exact HB.out) | apply pw_below_drewN)⟩)
    have hx : x.length ≤ 60 := by
      have h := hp.out
      cases a1
      · exact Nat.le_of_not_lt (of_decide_eq_false h1)
      · revert h; cases a2 <;> cases a4 <;> cases a3 <;> cases a5 <;> simp
    have hnx : 0 ≤ next ∧ next ≤ 1000000000 := by
      have h := hp.out
      cases a3
      · revert h; cases a2 <;> cases a4 <;> simp
      · exact of_decide_eq_true h3
    replace HR : Aside0 (logB start next roll x = R) := ⟨HR.out.trans (by simp)⟩
    replace hnx := Aside0.mk hnx
    clear h1 h2 h3 h4 h5 h1i hp
    have wx : wrap64 ((x.length : Int) - 1) = (x.length : Int) - 1 := by unfold wrap64; omega
    go_wp2
    have A1 : Aside0 (At wc g 1 (.int .i64 next)) := ⟨At.of BK.out rfl⟩
    have A3 : Aside0 (At wc g 3 (.slice A x.length c)) := ⟨At.of BK.out rfl⟩
    go_loopg [3, 4, 5, 42] (x.length + 1) (fun kq v3 v4 v5 v42 wr => ∃ (j : Nat) (l e n : Int), (j + kq = x.length + 1 ∧ j ≤ x.length) ∧ v3 = .int .i64 l ∧ v4 = .int .i64 e ∧ v5 = .int .i64 n ∧ v42 = .int .i64 (j : Int) ∧ (0 ≤ n ∧ n ≤ 400) ∧ Aside0 (j = 0 → l = -1) ∧ Aside0 (segsB next l e n (x.drop j) = R) ∧ Aside0 (At wr g 1 (.int .i64 next)) ∧ Aside0 (At wr g 3 (.slice A x.length c)) ∧ Aside0 (Below w.heap.size w wr))
    case atStart => exact ⟨0, -1, 0, 0, ⟨by omega, by omega⟩, rfl, rfl, rfl, rfl, ⟨by omega, by omega⟩, ⟨fun _ => rfl⟩, ⟨HL.out⟩, ⟨by first | exact A1.out | exact A1.out.drewN _⟩, ⟨by first | exact A3.out | exact A3.out.drewN _⟩, ⟨by repeat (first | (with_reducible exact HB.out) | apply pw_below_drewN)⟩⟩
    case round =>
      clear hz0 hfz0 hz1 hfz1 hz2 hfz2 hz3 hfz3 BK A1 A3 HB
      obtain ⟨j, l, e, n, hj, rfl, rfl, rfl, rfl, hn, hj0, HO, A1, A3, HB⟩ := hrel
      have hz1 := A1.out.2
      have hz3 := A3.out.2
      by_cases hlt : j < x.length
      case neg =>
        obtain rfl : j = x.length := by omega
        have HF := Aside0.mk (HR.out.trans (HO.out.symm.trans ((segs_end next l e n x).trans (show _ = decide (l < next) by rw [decide_eq_true hn.2]; simp))))
        go_wp2
        go_ret; exact ⟨by rw [HF.out]; try rfl, by repeat (first | (with_reducible exact HB.out) | apply pw_below_drewN)⟩
      obtain ⟨⟨base, bs⟩, hse⟩ : ∃ s : Seg, x[j] = s := ⟨_, rfl⟩
      have hsm := HS.out.2 _ (List.getElem_mem hlt)
      rw [hse] at hsm
      obtain ⟨hs0, hs1, hs2⟩ := hsm
      have hs1 : bs.length ≤ 1048576 := hs1
      have HS2 : Aside0 (∀ b ∈ bs, smR b.f6) := ⟨hs2⟩
      clear hs2 hs0
      have HX := Aside0.mk (HO.out.symm.trans (segs_step (next := next) (l := l) (e := e) (n := n) hlt hse))
      obtain ⟨ad, A7, c7, ee, g0, g1, hl7, hC7⟩ := elemS HC.out HB.out hlt hse
      cases ee
      replace hse := Aside0.mk hse
      have HJ7 := Aside0.mk hC7
      clear hC7 HO
      go_upto_region 7 with (fail)
      have B2 := Aside0.mk (blk_new wr (.cells #[.int .i64 base, .slice A7 bs.length c7] 125))
      replace A1 := Aside0.mk (A1.out.below (bel_alloc wr (.cells #[.int .i64 base, .slice A7 bs.length c7] 125)))
      replace A3 := Aside0.mk (A3.out.below (bel_alloc wr (.cells #[.int .i64 base, .slice A7 bs.length c7] 125)))
      replace HB := Aside0.mk (bel HB.out (bel_alloc wr (.cells #[.int .i64 base, .slice A7 bs.length c7] 125)))
      clear g0 g1 hz1 hz3
      generalize wr.alloc (.cells #[.int .i64 base, .slice A7 bs.length c7] 125) = W2 at *
      generalize wr.heap.size = g2 at *
      clear wr
      have hy0 := (blk_cell B2.out 0).trans rfl
      have hy1 := (blk_cell B2.out 1).trans rfl
      have D0 : Aside0 (At W2 g2 0 (.int .i64 base)) := ⟨At.of B2.out rfl⟩
      have D1 : Aside0 (At W2 g2 1 (.slice A7 bs.length c7)) := ⟨At.of B2.out rfl⟩
      clear B2
      have wn : wrap64 (n + (bs.length : Int)) = n + (bs.length : Int) := by unfold wrap64; omega
      go_upto_region 8 with (fail)
      obtain ⟨t0, t1, t2, t3, t4, d0, m0, m1, m2, m3, m4, m6⟩ : ∃ t0 t1 t2 t3 t4 d0 : Bool, decide (400 < n + (bs.length : Int)) = t0 ∧ decide (base ≤ l) = t1 ∧ decide (base < 0) = t2 ∧ ((bs.length : Int) == 0) = t3 ∧ decide ((j : Int) < (x.length : Int) - 1) = t4 ∧ decide (0 < (j : Int)) = d0 := ⟨_, _, _, _, _, _, rfl, rfl, rfl, rfl, rfl, rfl⟩
      have m6i : decide (0 < j) = d0 := by rw [← m6, Bool.eq_iff_iff]; simp
      rw [m1, m2, m3, m4] at HX
      obtain ⟨q, hq⟩ : ∃ q : Bool, q = (t0 || d0 && t1) := ⟨_, rfl⟩
      replace hq := Aside0.mk hq
      go_cut [63] (fun v63 wc => v63 = .bool q ∧ Aside0 (At wc g 1 (.int .i64 next)) ∧ Aside0 (At wc g 3 (.slice (some ad) x.length c)) ∧ Aside0 (At wc g2 0 (.int .i64 base)) ∧ Aside0 (At wc g2 1 (.slice A7 bs.length c7)) ∧ Aside0 (Below w.heap.size w wc))
      case first =>
        cases t0
        case true => (go_wp2; go_meet; (case rel => exact ⟨by rw [hq.out]; simp, ⟨by first | exact A1.out | exact A1.out.drewN _⟩, ⟨by first | exact A3.out | exact A3.out.drewN _⟩, ⟨by first | exact D0.out | exact D0.out.drewN _⟩, ⟨by first | exact D1.out | exact D1.out.drewN _⟩, ⟨by repeat (first | (with_reducible exact HB.out) | apply pw_below_drewN)⟩⟩))
        cases d0
        case false => (go_wp2; go_meet; (case rel => exact ⟨by rw [hq.out]; simp, ⟨by first | exact A1.out | exact A1.out.drewN _⟩, ⟨by first | exact A3.out | exact A3.out.drewN _⟩, ⟨by first | exact D0.out | exact D0.out.drewN _⟩, ⟨by first | exact D1.out | exact D1.out.drewN _⟩, ⟨by repeat (first | (with_reducible exact HB.out) | apply pw_below_drewN)⟩⟩))
        cases t1 <;> (go_wp2; go_meet; (case rel => exact ⟨by rw [hq.out]; simp, ⟨by first | exact A1.out | exact A1.out.drewN _⟩, ⟨by first | exact A3.out | exact A3.out.drewN _⟩, ⟨by first | exact D0.out | exact D0.out.drewN _⟩, ⟨by first | exact D1.out | exact D1.out.drewN _⟩, ⟨by repeat (first | (with_reducible exact HB.out) | apply pw_below_drewN)⟩⟩))
      case rest =>
        clear hy0 hy1 A1 A3 D0 D1 HB
        obtain ⟨rfl, A1, A3, D0, D1, HB⟩ := hcut
        have hy0 := D0.out.2
        have hy1 := D1.out.2
        have hz1 := A1.out.2
        have hz3 := A3.out.2
        cases q
        case true =>
          have HF : Aside0 (logB start next roll x = false) := ⟨by
            rw [HR.out, HX.out]
            have h := hq.out
            cases t0
            · cases d0
              · simp at h
              · cases t1
                · simp at h
                · simp
            · rw [restB_many _ _ _ _ _ _ _ (of_decide_eq_true m0)]; simp⟩
          (go_wp2; go_ret; exact ⟨by rw [HF.out]; try rfl, by repeat (first | (with_reducible exact HB.out) | apply pw_below_drewN)⟩)
        have hN : n + (bs.length : Int) ≤ 400 := by
          have h := hq.out
          cases t0
          · exact Int.not_lt.mp (of_decide_eq_false m0)
          · simp at h
        have HL1 : Aside0 (0 ≤ base → t1 = false) := ⟨fun hb0 => by
          have h := hq.out
          cases t1
          · rfl
          · exfalso
            cases t0
            · cases d0
              · have h0 : j = 0 := by have := of_decide_eq_false m6i; omega
                have h1 := hj0.out h0
                have h2 := of_decide_eq_true m1
                omega
              · simp at h
            · simp at h⟩
        clear m0 m6 m6i hq wn
        obtain ⟨o5, m5⟩ : ∃ o5 : Bool, decide (0 ≤ base ∧ base ≤ 1000000000) = o5 := ⟨_, rfl⟩
        cases t3
        case true =>
          obtain ⟨o6, m6⟩ : ∃ o6 : Bool, decide (next < base) = o6 := ⟨_, rfl⟩
          have hbn : bs = [] := List.eq_nil_of_length_eq_zero (by have h : (bs.length : Int) = 0 := of_decide_eq_true m3; omega)
          subst hbn
          have hrn : t4 = false → x.drop (j + 1) = [] := fun h => by
            subst h
            have := of_decide_eq_false m4
            rw [List.drop_eq_nil_iff]; omega
          have HE : Aside0 (t4 = false → R = (!(t1 || t2) && (decide ((if l < base - 1 then base - 1 else l) < next) && decide (n + (([] : List Bat).length : Int) ≤ 400)))) := ⟨fun h4 => by
            rw [HX.out, hrn h4, h4, show restB next base (n + (([] : List Bat).length : Int)) [] l e [] = segsB next (if l < base - 1 then base - 1 else l) e (n + (([] : List Bat).length : Int)) [] from rfl, segsB, Bool.decide_and]; simp⟩
          cases t4
          case true =>
            have HF := Aside0.mk (HR.out.trans (HX.out.trans (show _ = false by simp)))
            (go_wp2; go_ret; exact ⟨by rw [HF.out]; try rfl, by repeat (first | (with_reducible exact HB.out) | apply pw_below_drewN)⟩)
          cases o5
          case false =>
            have HF : Aside0 (logB start next roll x = false) := ⟨by
              rw [HR.out, HE.out rfl]
              have h := of_decide_eq_false m5
              have hnx := hnx.out
              cases t2
              · have h2 := of_decide_eq_false m2
                rw [decide_eq_false (show ¬ ((if l < base - 1 then base - 1 else l) < next) by split <;> omega)]; simp
              · simp⟩
            (go_wp2_with (go_at_call 62; refine (call_offset _ _ _ m5).mono ?_; rintro e w' ⟨rfl, ⟨_, rfl⟩⟩)); go_ret; exact ⟨by rw [HF.out]; try rfl, by repeat (first | (with_reducible exact HB.out) | apply pw_below_drewN)⟩
          cases o6
          case true =>
            have HF : Aside0 (logB start next roll x = false) := ⟨by
              rw [HR.out, HE.out rfl]
              have h := of_decide_eq_true m6
              rw [decide_eq_false (show ¬ ((if l < base - 1 then base - 1 else l) < next) by split <;> omega)]; simp⟩
            (go_wp2_with (go_at_call 62; refine (call_offset _ _ _ m5).mono ?_; rintro e w' ⟨rfl, ⟨_, rfl⟩⟩)); go_ret; exact ⟨by rw [HF.out]; try rfl, by repeat (first | (with_reducible exact HB.out) | apply pw_below_drewN)⟩
          have HE2 : Aside0 (segsB next l e n (x.drop (j + 1)) = R) := ⟨by
            have h := of_decide_eq_false m6
            have h5 := of_decide_eq_true m5
            have h1 := HL1.out h5.1
            subst h1
            have h1 := of_decide_eq_false m1
            have h2 : t2 = false := by rw [← m2]; exact decide_eq_false (by omega)
            subst h2
            rw [HE.out rfl, hrn rfl, segsB, Bool.decide_and, show decide ((if l < base - 1 then base - 1 else l) < next) = decide (l < next) by rw [decide_eq_decide]; split <;> omega]; simp⟩
          clear HE hrn HX
          go_wp2_with (go_at_call 62; refine (call_offset _ _ _ m5).mono ?_; rintro e w' ⟨rfl, ⟨_, rfl⟩⟩)
          go_roundg (x.length - j)
          case measure => omega
          case rel => exact ⟨j + 1, l, e, n, ⟨by omega, by omega⟩, rfl, rfl, (by first | rfl | simp), (by first | rfl | go_num), hn, ⟨by omega⟩, ⟨HE2.out⟩, ⟨by first | exact A1.out | exact A1.out.drewN _⟩, ⟨by first | exact A3.out | exact A3.out.drewN _⟩, ⟨by repeat (first | (with_reducible exact HB.out) | apply pw_below_drewN)⟩⟩
        have hbl : 0 < bs.length := by have h : ¬ ((bs.length : Int) = 0) := of_decide_eq_false m3; omega
        obtain ⟨⟨y0, y1, y2, y3, y4, y5, ys⟩, hye⟩ : ∃ b : Bat, bs[0] = b := ⟨_, rfl⟩
        obtain ⟨ad2, A6, c6, ee, g0, _⟩ := elemB HJ7.out HB.out hbl hye
        cases ee
        rw [show (0 * 7 : Nat) = 0 from rfl] at g0
        simp only [Addr.add_zero'] at g0
        have q0 : (0 < bs.length) = True := eq_true hbl
        have q1 : ((0 : Int) < (bs.length : Int)) = True := eq_true (by omega)
        have q2 : decide (0 < (bs.length : Int)) = true := decide_eq_true (by omega)
        have q3 : decide (0 < bs.length) = true := decide_eq_true hbl
        obtain ⟨t5, m6⟩ : ∃ t5 : Bool, decide (y0 < base) = t5 := ⟨_, rfl⟩
        replace HX : Aside0 (R = (!(t1 || t2) && restB next base (n + bs.length) (x.drop (j + 1)) l e bs)) := ⟨HX.out.trans (by simp)⟩
        have HY : Aside0 (restB next base (n + bs.length) (x.drop (j + 1)) l e bs = true → base ≤ y0 ∧ y0 ≤ 1000000000) := ⟨fun h => by
          have h2 := rest_step (next := next) (base := base) (N := n + bs.length) (rest := x.drop (j + 1)) (l := l) (e := e) hbl hye
          rw [List.drop_zero, h] at h2
          simp only [Bool.true_eq, Bool.and_eq_true, Bool.not_eq_true', decide_eq_false_iff_not] at h2
          obtain ⟨⟨⟨⟨h3, _⟩, h5⟩, _⟩, _⟩ := h2
          exact ⟨by omega, (batch_in h3).2.1⟩⟩
        obtain ⟨r, hr⟩ : ∃ r : Bool, r = (!o5 || t5) := ⟨_, rfl⟩
        replace hr := Aside0.mk hr
        go_upto_region 13 with (fail)
        go_cut [100] (fun v100 wc => v100 = .bool r ∧ Aside0 (At wc g 1 (.int .i64 next)) ∧ Aside0 (At wc g 3 (.slice (some ad) x.length c)) ∧ Aside0 (At wc g2 0 (.int .i64 base)) ∧ Aside0 (At wc g2 1 (.slice (some ad2) bs.length c7)) ∧ Aside0 (Below w.heap.size w wc))
        case first =>
          cases o5
          case false => ((go_quiet ((go_at_call 62; exact (Calls.quiet_of ((call_offset _ _ _ m5).mono (fun _ _ h => ⟨h.1, h.2.out⟩)))))); go_wp2; go_meet; (case rel => exact ⟨by rw [hr.out]; simp, ⟨by first | exact A1.out | exact A1.out.drewN _⟩, ⟨by first | exact A3.out | exact A3.out.drewN _⟩, ⟨by first | exact D0.out | exact D0.out.drewN _⟩, ⟨by first | exact D1.out | exact D1.out.drewN _⟩, ⟨by repeat (first | (with_reducible exact HB.out) | apply pw_below_drewN)⟩⟩))
          cases t5 <;> ((go_quiet ((go_at_call 62; exact (Calls.quiet_of ((call_offset _ _ _ m5).mono (fun _ _ h => ⟨h.1, h.2.out⟩)))))); go_wp2; go_meet; (case rel => exact ⟨by rw [hr.out]; simp, ⟨by first | exact A1.out | exact A1.out.drewN _⟩, ⟨by first | exact A3.out | exact A3.out.drewN _⟩, ⟨by first | exact D0.out | exact D0.out.drewN _⟩, ⟨by first | exact D1.out | exact D1.out.drewN _⟩, ⟨by repeat (first | (with_reducible exact HB.out) | apply pw_below_drewN)⟩⟩))
        case rest =>
          clear g0 hz1 hz3 q0 q1 q2 q3
          clear hy0 hy1 A1 A3 D0 D1 HB
          obtain ⟨rfl, A1, A3, D0, D1, HB⟩ := hcut
          have hy0 := D0.out.2
          have hy1 := D1.out.2
          have hz1 := A1.out.2
          have hz3 := A3.out.2
          cases r
          case true =>
            have HF : Aside0 (logB start next roll x = false) := ⟨by
              rw [HR.out, HX.out]
              have h := hr.out
              cases hrb : restB next base (n + bs.length) (x.drop (j + 1)) l e bs
              · simp
              · have hy := HY.out hrb
                cases t2
                · exfalso
                  have h2 := of_decide_eq_false m2
                  cases o5
                  · have h5 := of_decide_eq_false m5; omega
                  · cases t5
                    · simp at h
                    · have h6 := of_decide_eq_true m6; omega
                · simp⟩
            (go_wp2; go_ret; exact ⟨by rw [HF.out]; try rfl, by repeat (first | (with_reducible exact HB.out) | apply pw_below_drewN)⟩)
          obtain ⟨rfl, rfl⟩ : o5 = true ∧ t5 = false := by
            have h := hr.out
            cases o5 <;> cases t5 <;> simp at h <;> simp
          have hb5 := of_decide_eq_true m5
          have hby : base ≤ y0 := Int.not_lt.mp (of_decide_eq_false m6)
          obtain rfl : t1 = false := HL1.out hb5.1
          obtain rfl : t2 = false := by rw [← m2]; exact decide_eq_false (by omega)
          replace HX : Aside0 (restB next base (n + bs.length) (x.drop (j + 1)) l e bs = R) := ⟨HX.out.symm ▸ (by simp)⟩
          have HB0 : Aside0 (base ≤ y0) := ⟨hby⟩
          replace hye := Aside0.mk hye
          clear m1 m2 m3 m4 m5 m6 hr hb5 hby HY HL1
          go_wp2
          go_loopg [3, 4, 104] (bs.length + 1) (fun kq v3 v4 v104 wr => ∃ (k : Nat) (l e : Int), (k + kq = bs.length + 1 ∧ k ≤ bs.length) ∧ v3 = .int .i64 l ∧ v4 = .int .i64 e ∧ v104 = .int .i64 (k : Int) ∧ Aside0 (k = 0 ∨ base ≤ l) ∧ Aside0 (restB next base (n + bs.length) (x.drop (j + 1)) l e (bs.drop k) = R) ∧ Aside0 (At wr g 1 (.int .i64 next)) ∧ Aside0 (At wr g 3 (.slice (some ad) x.length c)) ∧ Aside0 (Below w.heap.size w wr))
          case atStart => exact ⟨0, l, e, ⟨by omega, by omega⟩, rfl, rfl, rfl, ⟨Or.inl rfl⟩, ⟨HX.out⟩, ⟨by first | exact A1.out | exact A1.out.drewN _⟩, ⟨by first | exact A3.out | exact A3.out.drewN _⟩, ⟨by repeat (first | (with_reducible exact HB.out) | apply pw_below_drewN)⟩⟩
          case round =>
            clear hy0 hy1 hz1 hz3 A1 A3 D0 D1 HB HX
            obtain ⟨k, l, e, hk, rfl, rfl, rfl, HK, HX, A1, A3, HB⟩ := hrel
            by_cases hkt : k < bs.length
            case neg =>
              obtain rfl : k = bs.length := by omega
              have hbl1 : base ≤ l := HK.out.elim (fun h => absurd h (by omega)) id
              have HE2 : Aside0 (segsB next l e (n + bs.length) (x.drop (j + 1)) = R) := ⟨by have h := (rest_end next base (n + bs.length) (x.drop (j + 1)) l e bs).symm.trans HX.out; rwa [if_neg (by omega)] at h⟩
              clear hbl1
              go_wp2
              go_roundg (x.length - j)
              case measure => omega
              case rel => exact ⟨j + 1, l, e, n + bs.length, ⟨by omega, by omega⟩, rfl, rfl, rfl, by go_num, ⟨by omega, hN⟩, ⟨by omega⟩, ⟨HE2.out⟩, ⟨by first | exact A1.out | exact A1.out.drewN _⟩, ⟨by first | exact A3.out | exact A3.out.drewN _⟩, ⟨by repeat (first | (with_reducible exact HB.out) | apply pw_below_drewN)⟩⟩
            obtain ⟨⟨b0, b1, b2, b3, b4, b5, rs⟩, hbe⟩ : ∃ b : Bat, bs[k] = b := ⟨_, rfl⟩
            have HS6 : Aside0 (smR rs) := ⟨by have h := HS2.out _ (List.getElem_mem hkt); rw [hbe] at h; exact h⟩
            replace HX := Aside0.mk (HX.out.symm.trans (rest_step hkt hbe))
            have HK2 : Aside0 (l < b0 → base ≤ b0) := ⟨fun h => HK.out.elim (fun h0 => by
              subst h0
              have h1 := hbe.symm.trans hye.out
              simp only [S82.mk.injEq] at h1
              have h2 := HB0.out
              omega) (fun h0 => by omega)⟩
            obtain ⟨ad3, A8, c6, ee, g0, g1, g2', g3, g4, g5, g6, hl6, hC6⟩ := elemB HJ7.out HB.out hkt hbe
            cases ee
            clear hbe
            have HJ := Aside0.mk hC6
            clear hC6
            go_upto_region 18 with (fail)
            have B3 := Aside0.mk (blk_new wr (.cells #[.int .i64 b0, .int .i64 b1, .int .i64 b2, .int .i64 b3, .int .i64 b4, .int .i64 b5, .slice A8 rs.length c6] 82))
            have hb := bel_alloc wr (.cells #[.int .i64 b0, .int .i64 b1, .int .i64 b2, .int .i64 b3, .int .i64 b4, .int .i64 b5, .slice A8 rs.length c6] 82)
            replace A1 := Aside0.mk (At.below (by first | exact A1.out | exact A1.out.drewN _) hb)
            replace A3 := Aside0.mk (At.below (by first | exact A3.out | exact A3.out.drewN _) hb)
            replace HB := Aside0.mk (bel (by repeat (first | (with_reducible exact HB.out) | apply pw_below_drewN)) hb)
            clear g0 g1 g2' g3 g4 g5 g6 hb
            generalize wr.alloc (.cells #[.int .i64 b0, .int .i64 b1, .int .i64 b2, .int .i64 b3, .int .i64 b4, .int .i64 b5, .slice A8 rs.length c6] 82) = W3 at *
            generalize wr.heap.size = g3 at *
            clear wr
            have hx0 := (blk_cell B3.out 0).trans rfl
            have hx1 := (blk_cell B3.out 1).trans rfl
            have hx2 := (blk_cell B3.out 2).trans rfl
            have hx3 := (blk_cell B3.out 3).trans rfl
            have hx4 := (blk_cell B3.out 4).trans rfl
            have hx5 := (blk_cell B3.out 5).trans rfl
            have hx6 := (blk_cell B3.out 6).trans rfl
            cases hr : batchB ⟨b0, b1, b2, b3, b4, b5, rs⟩
            case false =>
              have HF := Aside0.mk (HR.out.trans (HX.out.trans (show _ = false by rw [hr]; rfl)))
              (go_wp2_with (go_at_call 92; refine (impl_bat b0 b1 b2 b3 b4 b5 _ _ rs false _ hr (Kd.C_below HJ.out (by repeat (first | (with_reducible exact HB.out) | apply pw_below_drewN))) hl6 HS6.out).mono ?_; rintro e w' ⟨rfl, hb⟩; replace A1 := Aside0.mk (At.below (by first | exact A1.out | exact A1.out.drewN _) hb); replace A3 := Aside0.mk (At.below (by first | exact A3.out | exact A3.out.drewN _) hb); replace B3 := Aside0.mk (blk_below (show _ = some _ from (by (with_reducible repeat (first | refine blk_drewN ?_ _ | refine blk_drew ?_)); exact B3.out)) hb); replace HB := Aside0.mk (bel (by repeat (first | (with_reducible exact HB.out) | apply pw_below_drewN)) hb); clear hb hx0 hx1 hx2 hx3 hx4 hx5 hx6; have hx0 := (blk_cell B3.out 0).trans rfl; have hx1 := (blk_cell B3.out 1).trans rfl; have hx2 := (blk_cell B3.out 2).trans rfl; have hx3 := (blk_cell B3.out 3).trans rfl; have hx4 := (blk_cell B3.out 4).trans rfl; have hx5 := (blk_cell B3.out 5).trans rfl; have hx6 := (blk_cell B3.out 6).trans rfl))
              go_ret; exact ⟨by rw [HF.out]; try rfl, by repeat (first | (with_reducible exact HB.out) | apply pw_below_drewN)⟩
            obtain ⟨u1, u2, m1, m2⟩ : ∃ u1 u2 : Bool, decide (b0 ≤ l) = u1 ∧ decide (b1 < e) = u2 := ⟨_, _, rfl, rfl⟩
            replace HX : Aside0 (R = (!u1 && !decide (b0 < base) && !u2 && restB next base (n + bs.length) (x.drop (j + 1)) (b0 + rs.length - 1) b1 (bs.drop (k + 1)))) := ⟨by rw [HX.out, hr, ← m1, ← m2]; simp; rfl⟩
            cases u1
            case true =>
              have HF := Aside0.mk (HR.out.trans (HX.out.trans (show _ = false by simp)))
              (go_wp2_with (go_at_call 92; refine (impl_bat b0 b1 b2 b3 b4 b5 _ _ rs true _ hr (Kd.C_below HJ.out (by repeat (first | (with_reducible exact HB.out) | apply pw_below_drewN))) hl6 HS6.out).mono ?_; rintro e w' ⟨rfl, hb⟩; replace A1 := Aside0.mk (At.below (by first | exact A1.out | exact A1.out.drewN _) hb); replace A3 := Aside0.mk (At.below (by first | exact A3.out | exact A3.out.drewN _) hb); replace B3 := Aside0.mk (blk_below (show _ = some _ from (by (with_reducible repeat (first | refine blk_drewN ?_ _ | refine blk_drew ?_)); exact B3.out)) hb); replace HB := Aside0.mk (bel (by repeat (first | (with_reducible exact HB.out) | apply pw_below_drewN)) hb); clear hb hx0 hx1 hx2 hx3 hx4 hx5 hx6; have hx0 := (blk_cell B3.out 0).trans rfl; have hx1 := (blk_cell B3.out 1).trans rfl; have hx2 := (blk_cell B3.out 2).trans rfl; have hx3 := (blk_cell B3.out 3).trans rfl; have hx4 := (blk_cell B3.out 4).trans rfl; have hx5 := (blk_cell B3.out 5).trans rfl; have hx6 := (blk_cell B3.out 6).trans rfl))
              go_ret; exact ⟨by rw [HF.out]; try rfl, by repeat (first | (with_reducible exact HB.out) | apply pw_below_drewN)⟩
            have hbb : base ≤ b0 := HK2.out (Int.not_le.mp (of_decide_eq_false m1))
            cases u2
            case true =>
              have HF := Aside0.mk (HR.out.trans (HX.out.trans (show _ = false by simp)))
              (go_wp2_with (go_at_call 92; refine (impl_bat b0 b1 b2 b3 b4 b5 _ _ rs true _ hr (Kd.C_below HJ.out (by repeat (first | (with_reducible exact HB.out) | apply pw_below_drewN))) hl6 HS6.out).mono ?_; rintro e w' ⟨rfl, hb⟩; replace A1 := Aside0.mk (At.below (by first | exact A1.out | exact A1.out.drewN _) hb); replace A3 := Aside0.mk (At.below (by first | exact A3.out | exact A3.out.drewN _) hb); replace B3 := Aside0.mk (blk_below (show _ = some _ from (by (with_reducible repeat (first | refine blk_drewN ?_ _ | refine blk_drew ?_)); exact B3.out)) hb); replace HB := Aside0.mk (bel (by repeat (first | (with_reducible exact HB.out) | apply pw_below_drewN)) hb); clear hb hx0 hx1 hx2 hx3 hx4 hx5 hx6; have hx0 := (blk_cell B3.out 0).trans rfl; have hx1 := (blk_cell B3.out 1).trans rfl; have hx2 := (blk_cell B3.out 2).trans rfl; have hx3 := (blk_cell B3.out 3).trans rfl; have hx4 := (blk_cell B3.out 4).trans rfl; have hx5 := (blk_cell B3.out 5).trans rfl; have hx6 := (blk_cell B3.out 6).trans rfl))
              go_ret; exact ⟨by rw [HF.out]; try rfl, by repeat (first | (with_reducible exact HB.out) | apply pw_below_drewN)⟩
            have HK3 : Aside0 (base ≤ b0 + rs.length - 1) := ⟨by have := batch_in hr; omega⟩
            have HX2 : Aside0 (restB next base (n + bs.length) (x.drop (j + 1)) (b0 + rs.length - 1) b1 (bs.drop (k + 1)) = R) := ⟨by rw [HX.out, decide_eq_false (show ¬ b0 < base by omega)]; simp⟩
            clear hbb HX HK2
            (go_upto_region 20 with ((go_at_call 92; refine (impl_bat b0 b1 b2 b3 b4 b5 _ _ rs true _ hr (Kd.C_below HJ.out (by repeat (first | (with_reducible exact HB.out) | apply pw_below_drewN))) hl6 HS6.out).mono ?_; rintro e w' ⟨rfl, hb⟩; replace A1 := Aside0.mk (At.below (by first | exact A1.out | exact A1.out.drewN _) hb); replace A3 := Aside0.mk (At.below (by first | exact A3.out | exact A3.out.drewN _) hb); replace B3 := Aside0.mk (blk_below (show _ = some _ from (by (with_reducible repeat (first | refine blk_drewN ?_ _ | refine blk_drew ?_)); exact B3.out)) hb); replace HB := Aside0.mk (bel (by repeat (first | (with_reducible exact HB.out) | apply pw_below_drewN)) hb); clear hb hx0 hx1 hx2 hx3 hx4 hx5 hx6; have hx0 := (blk_cell B3.out 0).trans rfl; have hx1 := (blk_cell B3.out 1).trans rfl; have hx2 := (blk_cell B3.out 2).trans rfl; have hx3 := (blk_cell B3.out 3).trans rfl; have hx4 := (blk_cell B3.out 4).trans rfl; have hx5 := (blk_cell B3.out 5).trans rfl; have hx6 := (blk_cell B3.out 6).trans rfl)))
            replace hr := Aside0.mk hr
            go_region_held3 (fun w' => w'.cell? ⟨g3, 0, none⟩ = some (.int .i64 b0) ∧ w'.cell? ⟨g3, 1, none⟩ = some (.int .i64 b1) ∧ w'.cell? ⟨g3, 2, none⟩ = some (.int .i64 b2) ∧ w'.cell? ⟨g3, 3, none⟩ = some (.int .i64 b3) ∧ w'.cell? ⟨g3, 4, none⟩ = some (.int .i64 b4) ∧ w'.cell? ⟨g3, 5, none⟩ = some (.int .i64 b5) ∧ w'.cell? ⟨g3, 6, none⟩ = some (.slice A8 rs.length c6)) (exact keep7 (by (with_reducible repeat (first | refine blk_drewN ?_ _ | refine blk_drew ?_)); exact B3.out)) (first | (go_at_call 93; refine (impl_last b0 b1 b2 b3 b4 b5 _ _ rs _ hr.out (Kd.C_below HJ.out (by first | exact HB.out | exact HB.out.drew | exact pw_below_drewN HB.out _ | exact (pw_below_drewN HB.out _).drew | exact HB.out.drew.drew)) hl6).mono ?_; rintro e w' ⟨rfl, hb⟩; replace A1 := Aside0.mk (At.below (by first | exact A1.out | exact A1.out.drewN _) hb); replace A3 := Aside0.mk (At.below (by first | exact A3.out | exact A3.out.drewN _) hb); replace B3 := Aside0.mk (blk_below (show _ = some _ from (by (with_reducible repeat (first | refine blk_drewN ?_ _ | refine blk_drew ?_)); exact B3.out)) hb); replace HB := Aside0.mk (bel (by first | exact HB.out | exact HB.out.drew | exact pw_below_drewN HB.out _ | exact (pw_below_drewN HB.out _).drew | exact HB.out.drew.drew) hb); clear hb hx0 hx1 hx2 hx3 hx4 hx5 hx6; have hx0 := (blk_cell B3.out 0).trans rfl; have hx1 := (blk_cell B3.out 1).trans rfl; have hx2 := (blk_cell B3.out 2).trans rfl; have hx3 := (blk_cell B3.out 3).trans rfl; have hx4 := (blk_cell B3.out 4).trans rfl; have hx5 := (blk_cell B3.out 5).trans rfl; have hx6 := (blk_cell B3.out 6).trans rfl))
            all_goals ((go_wp2_with (fail)); go_roundg (bs.length - k); (case measure => omega); (case rel => exact ⟨k + 1, b0 + rs.length - 1, b1, ⟨by omega, by omega⟩, rfl, rfl, by go_num, ⟨Or.inr HK3.out⟩, ⟨HX2.out⟩, ⟨by first | exact A1.out | exact A1.out.drewN _⟩, ⟨by first | exact A3.out | exact A3.out.drewN _⟩, ⟨by first | exact HB.out | exact HB.out.drew | exact pw_below_drewN HB.out _ | exact (pw_below_drewN HB.out _).drew | exact HB.out.drew.drew⟩⟩))
end Go.Proofs.Ytoacdmohgohpdaa.LogK
