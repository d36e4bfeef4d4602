/- MirrorOk, called: what reference and program tell is 'mirrorB'. -/
import Derived.Test.YtoacdmohgohpdaaK2LogLog2
namespace Go.Proofs.Ytoacdmohgohpdaa.LogK
open Go.RowKit Go.Proofs.YtoacdmohgohpdaaW.PrintWords Go.Proofs.YtoacdmohgohpdaaW.PrintLast Go.Proofs.YtoacdmohgohpdaaW.PrintMore Go.Proofs.Ytoacdmohgohpdaa.QFnExactBehind
theorem elemT {w : World} {A : Option Addr} {x : List Twn} (h : Kd.C k106 w A x.length x) {j : Nat} {t0 t1 : Int} (hj : j < x.length) (he : x[j] = ⟨t0, t1⟩) :
    ∃ ad, A = some ad ∧ w.cell? (ad.add (j * 2)) = some (.int .i64 t0) ∧ w.cell? ⟨(ad.add (j * 2)).block, (ad.add (j * 2)).off + 1, none⟩ = some (.int .i64 t1) := by
  obtain ⟨ad, e, h0, h1⟩ := at_T106 h (j : Int) (by omega) (by omega)
  rw [show rd_T106 x (j : Int) = ⟨t0, t1⟩ from by rw [← he]; simp [rd_T106, hj]] at h0 h1
  exact ⟨ad, e, by simpa using h0, by simpa using h1⟩
theorem twins_at0 {nm nl : Int} {x : List Twn} {j : Nat} {t0 t1 : Int} (h0 : j = 0) (hj : j < x.length) (h : x[j] = ⟨t0, t1⟩) :
    twinsB nm nl (prv x j) (x.drop j) = (decide (0 ≤ t0 ∧ t0 ≤ nm - 1) && decide (0 ≤ t1 ∧ t1 ≤ nl - 1) && twinsB nm nl (prv x (j + 1)) (x.drop (j + 1))) := by
  subst h0
  exact twins_first hj h
theorem twins_at {nm nl : Int} {x : List Twn} {j i : Nat} {t0 t1 p0 p1 : Int} (h0 : j = i + 1) (hj : j < x.length) (hi : i < x.length) (h : x[j] = ⟨t0, t1⟩) (hp : x[i] = ⟨p0, p1⟩) :
    twinsB nm nl (prv x j) (x.drop j) = (decide (0 ≤ t0 ∧ t0 ≤ nm - 1) && decide (0 ≤ t1 ∧ t1 ≤ nl - 1) && !(decide (t0 ≤ p0) || decide (t1 < p1)) && twinsB nm nl (prv x (j + 1)) (x.drop (j + 1))) := by
  subst h0
  exact twins_step hj h hp
theorem spec_logr (start next roll : Int) (A : Option Addr) (c : Nat) (x : List Seg) (r : Bool) (w : World) (h : logB start next roll x = r) (hC : k125.C w A x.length x) (hc : x.length ≤ c) (hs : smL x) :
    Calls Try.prog 48 #[.agg #[.int .i64 start, .int .i64 next, .int .i64 roll, .slice A x.length c]] w fun e w' => e = .returned (.bool r) ∧ Below w.heap.size w w' := by
  subst h
  exact spec_log start next roll A c x w hC hc hs
set_option maxHeartbeats 3200000 in
set_option maxRecDepth 100000 in
theorem spec_mirror (start next roll nm : Int) (A B : Option Addr) (c d : Nat) (x : List Seg) (ts : List Twn) (w : World) (hC : k125.C w A x.length x) (hcc : x.length ≤ c) (hs : smL x) (hD : k106.C w B ts.length ts) (_ : ts.length ≤ d) (hl : ts.length ≤ 1048576) :
    Calls Try.prog 24 #[.agg #[.int .i64 start, .int .i64 next, .int .i64 roll, .slice A x.length c, .int .i64 nm, .slice B ts.length d]] w fun e w' => e = .returned (.bool (mirrorB start next roll x nm ts)) ∧ Below w.heap.size w w' := by
  have HC := Aside0.mk hC
  have HD := Aside0.mk hD
  have HS := Aside0.mk hs
  clear hC hD hs
  obtain ⟨r1, a2, a3, h1, h2, h3⟩ : ∃ r1 a2 a3 : Bool, logB start next roll x = r1 ∧ decide (0 ≤ nm ∧ nm ≤ 1000000000) = a2 ∧ decide (400 < ts.length) = a3 := ⟨_, _, _, rfl, rfl, rfl⟩
  have h3i : decide (400 < (ts.length : Int)) = a3 := by rw [← h3, Bool.eq_iff_iff]; simp; omega
  obtain ⟨p, hp⟩ : ∃ p : Bool, p = (!r1 || !a2 || a3) := ⟨_, rfl⟩
  obtain ⟨R, HL⟩ : ∃ R : Bool, twinsB nm next (prv ts 0) ts = R := ⟨_, rfl⟩
  have HR : Aside0 (mirrorB start next roll x nm ts = (!p && R)) := ⟨by unfold mirrorB; rw [h1, h2, h3, hp, HL]; cases r1 <;> cases a2 <;> cases a3 <;> simp⟩
  replace hp := Aside0.mk hp
  replace HL := Aside0.mk HL
  go_enter Try.func24, Try.ntmps24
  go_upto_region 1 with (fail)
  have BK := Aside0.mk (blk_new w (.cells #[.int .i64 start, .int .i64 next, .int .i64 roll, .slice A x.length c, .int .i64 nm, .slice B ts.length d] 39))
  have HB := Aside0.mk (bel_alloc w (.cells #[.int .i64 start, .int .i64 next, .int .i64 roll, .slice A x.length c, .int .i64 nm, .slice B ts.length d] 39))
  obtain ⟨g, hgg⟩ : ∃ g, g = w.heap.size := ⟨_, rfl⟩
  rw [← hgg] at BK
  simp only [← hgg]
  clear hgg
  generalize w.alloc (.cells #[.int .i64 start, .int .i64 next, .int .i64 roll, .slice A x.length c, .int .i64 nm, .slice B ts.length d] 39) = W at *
  have hz0 := (blk_cell BK.out 0).trans rfl
  have hz1 := (blk_cell BK.out 1).trans rfl
  have hz2 := (blk_cell BK.out 2).trans rfl
  have hz3 := (blk_cell BK.out 3).trans rfl
  have hz4 := (blk_cell BK.out 4).trans rfl
  have hz5 := (blk_cell BK.out 5).trans rfl
  have hfz0 := blk_frozen BK.out 0
  have hfz1 := blk_frozen BK.out 1
  have hfz2 := blk_frozen BK.out 2
  have hfz3 := blk_frozen BK.out 3
  have hfz4 := blk_frozen BK.out 4
  have hfz5 := blk_frozen BK.out 5
  go_cut [20] (fun v20 wc => v20 = .bool p ∧ Aside0 (wc.heap[g]? = some (.cells #[.int .i64 start, .int .i64 next, .int .i64 roll, .slice A x.length c, .int .i64 nm, .slice B ts.length d] 39 (0, 0))) ∧ Aside0 (Below w.heap.size w wc))
  case first =>
    cases r1
    case false => ((go_wp2_with (first | (go_at_call 48; refine (spec_logr start next roll _ _ x _ _ h1 (Kd.C_below HC.out (by repeat (first | (with_reducible exact HB.out) | apply pw_below_drewN))) hcc HS.out).mono ?_; rintro e w' ⟨rfl, hb⟩; replace BK := Aside0.mk (blk_below (show _ = some _ from (by (with_reducible repeat (first | refine blk_drewN ?_ _ | refine blk_drew ?_)); exact BK.out)) hb); replace HB := Aside0.mk (bel (by repeat (first | (with_reducible exact HB.out) | apply pw_below_drewN)) hb); clear hb hz0 hfz0 hz1 hfz1 hz2 hfz2 hz3 hfz3 hz4 hfz4 hz5 hfz5; have hz0 := (blk_cell BK.out 0).trans rfl; have hz1 := (blk_cell BK.out 1).trans rfl; have hz2 := (blk_cell BK.out 2).trans rfl; have hz3 := (blk_cell BK.out 3).trans rfl; have hz4 := (blk_cell BK.out 4).trans rfl; have hz5 := (blk_cell BK.out 5).trans rfl) | (go_at_call 54; refine (call_in _ _ _ _ _ h2).mono ?_; rintro e w' ⟨rfl, ⟨_, rfl⟩⟩))); go_meet; (case rel => exact ⟨by rw [hp.out]; simp, ⟨by (with_reducible repeat (first | refine blk_drewN ?_ _ | refine blk_drew ?_)); exact BK.out⟩, ⟨by repeat (first | (with_reducible exact HB.out) | apply pw_below_drewN)⟩⟩))
    cases a2
    case false => ((go_wp2_with (first | (go_at_call 48; refine (spec_logr start next roll _ _ x _ _ h1 (Kd.C_below HC.out (by repeat (first | (with_reducible exact HB.out) | apply pw_below_drewN))) hcc HS.out).mono ?_; rintro e w' ⟨rfl, hb⟩; replace BK := Aside0.mk (blk_below (show _ = some _ from (by (with_reducible repeat (first | refine blk_drewN ?_ _ | refine blk_drew ?_)); exact BK.out)) hb); replace HB := Aside0.mk (bel (by repeat (first | (with_reducible exact HB.out) | apply pw_below_drewN)) hb); clear hb hz0 hfz0 hz1 hfz1 hz2 hfz2 hz3 hfz3 hz4 hfz4 hz5 hfz5; have hz0 := (blk_cell BK.out 0).trans rfl; have hz1 := (blk_cell BK.out 1).trans rfl; have hz2 := (blk_cell BK.out 2).trans rfl; have hz3 := (blk_cell BK.out 3).trans rfl; have hz4 := (blk_cell BK.out 4).trans rfl; have hz5 := (blk_cell BK.out 5).trans rfl) | (go_at_call 54; refine (call_in _ _ _ _ _ h2).mono ?_; rintro e w' ⟨rfl, ⟨_, rfl⟩⟩))); go_meet; (case rel => exact ⟨by rw [hp.out]; simp, ⟨by (with_reducible repeat (first | refine blk_drewN ?_ _ | refine blk_drew ?_)); exact BK.out⟩, ⟨by repeat (first | (with_reducible exact HB.out) | apply pw_below_drewN)⟩⟩))
    cases a3
    case true => ((go_wp2_with (first | (go_at_call 48; refine (spec_logr start next roll _ _ x _ _ h1 (Kd.C_below HC.out (by repeat (first | (with_reducible exact HB.out) | apply pw_below_drewN))) hcc HS.out).mono ?_; rintro e w' ⟨rfl, hb⟩; replace BK := Aside0.mk (blk_below (show _ = some _ from (by (with_reducible repeat (first | refine blk_drewN ?_ _ | refine blk_drew ?_)); exact BK.out)) hb); replace HB := Aside0.mk (bel (by repeat (first | (with_reducible exact HB.out) | apply pw_below_drewN)) hb); clear hb hz0 hfz0 hz1 hfz1 hz2 hfz2 hz3 hfz3 hz4 hfz4 hz5 hfz5; have hz0 := (blk_cell BK.out 0).trans rfl; have hz1 := (blk_cell BK.out 1).trans rfl; have hz2 := (blk_cell BK.out 2).trans rfl; have hz3 := (blk_cell BK.out 3).trans rfl; have hz4 := (blk_cell BK.out 4).trans rfl; have hz5 := (blk_cell BK.out 5).trans rfl) | (go_at_call 54; refine (call_in _ _ _ _ _ h2).mono ?_; rintro e w' ⟨rfl, ⟨_, rfl⟩⟩))); go_meet; (case rel => exact ⟨by rw [hp.out]; simp, ⟨by (with_reducible repeat (first | refine blk_drewN ?_ _ | refine blk_drew ?_)); exact BK.out⟩, ⟨by repeat (first | (with_reducible exact HB.out) | apply pw_below_drewN)⟩⟩))
    ((go_wp2_with (first | (go_at_call 48; refine (spec_logr start next roll _ _ x _ _ h1 (Kd.C_below HC.out (by repeat (first | (with_reducible exact HB.out) | apply pw_below_drewN))) hcc HS.out).mono ?_; rintro e w' ⟨rfl, hb⟩; replace BK := Aside0.mk (blk_below (show _ = some _ from (by (with_reducible repeat (first | refine blk_drewN ?_ _ | refine blk_drew ?_)); exact BK.out)) hb); replace HB := Aside0.mk (bel (by repeat (first | (with_reducible exact HB.out) | apply pw_below_drewN)) hb); clear hb hz0 hfz0 hz1 hfz1 hz2 hfz2 hz3 hfz3 hz4 hfz4 hz5 hfz5; have hz0 := (blk_cell BK.out 0).trans rfl; have hz1 := (blk_cell BK.out 1).trans rfl; have hz2 := (blk_cell BK.out 2).trans rfl; have hz3 := (blk_cell BK.out 3).trans rfl; have hz4 := (blk_cell BK.out 4).trans rfl; have hz5 := (blk_cell BK.out 5).trans rfl) | (go_at_call 54; refine (call_in _ _ _ _ _ h2).mono ?_; rintro e w' ⟨rfl, ⟨_, rfl⟩⟩))); go_meet; (case rel => exact ⟨by rw [hp.out]; simp, ⟨by (with_reducible repeat (first | refine blk_drewN ?_ _ | refine blk_drew ?_)); exact BK.out⟩, ⟨by repeat (first | (with_reducible exact HB.out) | apply pw_below_drewN)⟩⟩))
  case rest =>
    clear hz0 hfz0 hz1 hfz1 hz2 hfz2 hz3 hfz3 hz4 hfz4 hz5 hfz5 BK HB
    obtain ⟨rfl, BK, HB⟩ := hcut
    have hz0 := (blk_cell BK.out 0).trans rfl
    have hz1 := (blk_cell BK.out 1).trans rfl
    have hz2 := (blk_cell BK.out 2).trans rfl
    have hz3 := (blk_cell BK.out 3).trans rfl
    have hz4 := (blk_cell BK.out 4).trans rfl
    have hz5 := (blk_cell BK.out 5).trans rfl
    have hfz0 := blk_frozen BK.out 0
    have hfz1 := blk_frozen BK.out 1
    have hfz2 := blk_frozen BK.out 2
    have hfz3 := blk_frozen BK.out 3
    have hfz4 := blk_frozen BK.out 4
    have hfz5 := blk_frozen BK.out 5
    cases p
    case true => (go_wp2; go_ret; exact ⟨by rw [HR.out]; simp, by repeat (first | (with_reducible exact HB.out) | apply pw_below_drewN)⟩)
    obtain ⟨rfl, rfl, rfl⟩ : r1 = true ∧ a2 = true ∧ a3 = false := by
      have h := hp.out
      cases r1 <;> cases a2 <;> cases a3 <;> simp at h <;> simp
    have hnx := log_in h1
    have hnm := of_decide_eq_true h2
    have wn1 : wrap64 (nm - 1) = nm - 1 := by unfold wrap64; omega
    have wn2 : wrap64 (next - 1) = next - 1 := by unfold wrap64; omega
    have wn3 : IntKind.i64.wrap (nm - 1) = nm - 1 := (i64_w _).trans wn1
    have wn4 : IntKind.i64.wrap (next - 1) = next - 1 := (i64_w _).trans wn2
    replace HR : Aside0 (mirrorB start next roll x nm ts = R) := ⟨HR.out.trans (by simp)⟩
    clear h1 h2 h3 h3i hp hnx hnm HS
    go_wp2
    have A1 : Aside0 (At wc g 1 (.int .i64 next)) := ⟨At.of BK.out rfl⟩
    have A4 : Aside0 (At wc g 4 (.int .i64 nm)) := ⟨At.of BK.out rfl⟩
    have A5 : Aside0 (At wc g 5 (.slice B ts.length d)) := ⟨At.of BK.out rfl⟩
    go_loopg [3] (ts.length + 1) (fun kq v3 wr => ∃ (j : Nat), (j + kq = ts.length + 1 ∧ j ≤ ts.length) ∧ v3 = .int .i64 (j : Int) ∧ Aside0 (twinsB nm next (prv ts j) (ts.drop j) = R) ∧ Aside0 (At wr g 1 (.int .i64 next)) ∧ Aside0 (At wr g 4 (.int .i64 nm)) ∧ Aside0 (At wr g 5 (.slice B ts.length d)) ∧ Aside0 (Below w.heap.size w wr))
    case atStart => exact ⟨0, ⟨by omega, by omega⟩, rfl, ⟨HL.out⟩, ⟨by first | exact A1.out | exact A1.out.drewN _⟩, ⟨by first | exact A4.out | exact A4.out.drewN _⟩, ⟨by first | exact A5.out | exact A5.out.drewN _⟩, ⟨by repeat (first | (with_reducible exact HB.out) | apply pw_below_drewN)⟩⟩
    case round =>
      clear hz0 hfz0 hz1 hfz1 hz2 hfz2 hz3 hfz3 hz4 hfz4 hz5 hfz5 BK A1 A4 A5 HB
      obtain ⟨j, hj, rfl, HO, A1, A4, A5, HB⟩ := hrel
      have hz1 := A1.out.2
      have hz4 := A4.out.2
      have hz5 := A5.out.2
      by_cases hlt : j < ts.length
      case neg =>
        obtain rfl : j = ts.length := by omega
        have HF := Aside0.mk (HR.out.trans (HO.out.symm.trans (twins_end nm next ts _)))
        go_wp2
        go_ret; exact ⟨by rw [HF.out]; try rfl, by repeat (first | (with_reducible exact HB.out) | apply pw_below_drewN)⟩
      obtain ⟨⟨t0, t1⟩, hse⟩ : ∃ s : Twn, ts[j] = s := ⟨_, rfl⟩
      obtain ⟨ad, ee, g0, g1⟩ := elemT (Kd.C_below HD.out HB.out) hlt hse
      cases ee
      replace hse := Aside0.mk hse
      go_upto_region 7 with (fail)
      have B2 := Aside0.mk (blk_new wr (.cells #[.int .i64 t0, .int .i64 t1] 106))
      replace A1 := Aside0.mk (A1.out.below (bel_alloc wr (.cells #[.int .i64 t0, .int .i64 t1] 106)))
      replace A4 := Aside0.mk (A4.out.below (bel_alloc wr (.cells #[.int .i64 t0, .int .i64 t1] 106)))
      replace A5 := Aside0.mk (A5.out.below (bel_alloc wr (.cells #[.int .i64 t0, .int .i64 t1] 106)))
      replace HB := Aside0.mk (bel HB.out (bel_alloc wr (.cells #[.int .i64 t0, .int .i64 t1] 106)))
      clear g0 g1 hz1 hz4 hz5
      generalize wr.alloc (.cells #[.int .i64 t0, .int .i64 t1] 106) = W2 at *
      generalize wr.heap.size = g2 at *
      clear wr
      have hy0 := (blk_cell B2.out 0).trans rfl
      have hy1 := (blk_cell B2.out 1).trans rfl
      have hz1 := A1.out.2
      have hz4 := A4.out.2
      have hz5 := A5.out.2
      clear B2
      obtain ⟨b1, b2, m1, m2⟩ : ∃ b1 b2 : Bool, decide (0 ≤ t0 ∧ t0 ≤ nm - 1) = b1 ∧ decide (0 ≤ t1 ∧ t1 ≤ next - 1) = b2 := ⟨_, _, rfl, rfl⟩
      by_cases hj0 : j = 0
      case pos =>
        have HX : Aside0 (R = (b1 && b2 && twinsB nm next (prv ts (j + 1)) (ts.drop (j + 1)))) := ⟨HO.out.symm.trans ((twins_at0 (by omega) hlt hse.out).trans (by rw [m1, m2]))⟩
        have q0 : decide (0 < (j : Int)) = false := decide_eq_false (by omega)
        have q1 : decide (0 < j) = false := decide_eq_false (by omega)
        cases b1
        case false =>
          have HF := Aside0.mk (HR.out.trans (HX.out.trans (show _ = false by simp)))
          (go_wp2_with (go_at_call 54; refine (call_in _ _ _ _ _ (by first | exact m1 | exact m2)).mono ?_; rintro e w' ⟨rfl, ⟨_, rfl⟩⟩))
          go_ret; exact ⟨by rw [HF.out]; try rfl, by repeat (first | (with_reducible exact HB.out) | apply pw_below_drewN)⟩
        cases b2
        case false =>
          have HF := Aside0.mk (HR.out.trans (HX.out.trans (show _ = false by simp)))
          (go_wp2_with (go_at_call 54; refine (call_in _ _ _ _ _ (by first | exact m1 | exact m2)).mono ?_; rintro e w' ⟨rfl, ⟨_, rfl⟩⟩))
          go_ret; exact ⟨by rw [HF.out]; try rfl, by repeat (first | (with_reducible exact HB.out) | apply pw_below_drewN)⟩
        have HX2 : Aside0 (twinsB nm next (prv ts (j + 1)) (ts.drop (j + 1)) = R) := ⟨HX.out.symm ▸ (by simp)⟩
        ((go_upto_region 9 with ((go_at_call 54; refine (call_in _ _ _ _ _ (by first | exact m1 | exact m2)).mono ?_; rintro e w' ⟨rfl, ⟨_, rfl⟩⟩))); (go_quiet (fail)); go_wp2)
        go_roundg (ts.length - j)
        case measure => omega
        case rel => exact ⟨j + 1, ⟨by omega, by omega⟩, by go_num, ⟨HX2.out⟩, ⟨by first | exact A1.out | exact A1.out.drewN _⟩, ⟨by first | exact A4.out | exact A4.out.drewN _⟩, ⟨by first | exact A5.out | exact A5.out.drewN _⟩, ⟨by repeat (first | (with_reducible exact HB.out) | apply pw_below_drewN)⟩⟩
      case neg =>
        obtain ⟨i, hi⟩ : ∃ i : Nat, j = i + 1 := ⟨j - 1, by omega⟩
        have hit : i < ts.length := by omega
        have wj : wrap64 ((j : Int) - 1) = (i : Int) := by unfold wrap64; omega
        have wj2 : IntKind.i64.wrap ((j : Int) - 1) = (i : Int) := (i64_w _).trans wj
        obtain ⟨⟨p0, p1⟩, hpe⟩ : ∃ s : Twn, ts[i] = s := ⟨_, rfl⟩
        have HX : Aside0 (R = (b1 && b2 && !(decide (t0 ≤ p0) || decide (t1 < p1)) && twinsB nm next (prv ts (j + 1)) (ts.drop (j + 1)))) := ⟨HO.out.symm.trans ((twins_at hi hlt hit hse.out hpe).trans (by rw [m1, m2]))⟩
        obtain ⟨ad3, ee, g4, g5⟩ := elemT (Kd.C_below HD.out HB.out) hit hpe
        cases ee
        clear hpe
        replace hi := Aside0.mk hi
        have q0 : decide (0 < (j : Int)) = true := decide_eq_true (by have := hi.out; omega)
        have q1 : decide (0 < j) = true := decide_eq_true (by have := hi.out; omega)
        have q2 : (0 : Int) < (j : Int) := by have := hi.out; omega
        have q3 : 0 < j := by have := hi.out; omega
        have q4 : (0 : Int) ≤ (i : Int) := by omega
        have q5 : (i : Int) < (ts.length : Int) := by omega
        obtain ⟨u1, u2, m3, m4⟩ : ∃ u1 u2 : Bool, decide (t0 ≤ p0) = u1 ∧ decide (t1 < p1) = u2 := ⟨_, _, rfl, rfl⟩
        rw [m3, m4] at HX
        cases b1
        case false =>
          have HF := Aside0.mk (HR.out.trans (HX.out.trans (show _ = false by simp)))
          (go_wp2_with (go_at_call 54; refine (call_in _ _ _ _ _ (by first | exact m1 | exact m2)).mono ?_; rintro e w' ⟨rfl, ⟨_, rfl⟩⟩))
          go_ret; exact ⟨by rw [HF.out]; try rfl, by repeat (first | (with_reducible exact HB.out) | apply pw_below_drewN)⟩
        cases b2
        case false =>
          have HF := Aside0.mk (HR.out.trans (HX.out.trans (show _ = false by simp)))
          (go_wp2_with (go_at_call 54; refine (call_in _ _ _ _ _ (by first | exact m1 | exact m2)).mono ?_; rintro e w' ⟨rfl, ⟨_, rfl⟩⟩))
          go_ret; exact ⟨by rw [HF.out]; try rfl, by repeat (first | (with_reducible exact HB.out) | apply pw_below_drewN)⟩
        cases u1
        case true =>
          have HF := Aside0.mk (HR.out.trans (HX.out.trans (show _ = false by simp)))
          ((go_upto_region 9 with ((go_at_call 54; refine (call_in _ _ _ _ _ (by first | exact m1 | exact m2)).mono ?_; rintro e w' ⟨rfl, ⟨_, rfl⟩⟩))); (go_quiet (fail)); go_wp2)
          go_ret; exact ⟨by rw [HF.out]; try rfl, by repeat (first | (with_reducible exact HB.out) | apply pw_below_drewN)⟩
        cases u2
        case true =>
          have HF := Aside0.mk (HR.out.trans (HX.out.trans (show _ = false by simp)))
          ((go_upto_region 9 with ((go_at_call 54; refine (call_in _ _ _ _ _ (by first | exact m1 | exact m2)).mono ?_; rintro e w' ⟨rfl, ⟨_, rfl⟩⟩))); (go_quiet (fail)); go_wp2)
          go_ret; exact ⟨by rw [HF.out]; try rfl, by repeat (first | (with_reducible exact HB.out) | apply pw_below_drewN)⟩
        have HX2 : Aside0 (twinsB nm next (prv ts (j + 1)) (ts.drop (j + 1)) = R) := ⟨HX.out.symm ▸ (by simp)⟩
        ((go_upto_region 9 with ((go_at_call 54; refine (call_in _ _ _ _ _ (by first | exact m1 | exact m2)).mono ?_; rintro e w' ⟨rfl, ⟨_, rfl⟩⟩))); (go_quiet (fail)); go_wp2)
        go_roundg (ts.length - j)
        case measure => omega
        case rel => exact ⟨j + 1, ⟨by omega, by omega⟩, by go_num, ⟨HX2.out⟩, ⟨by first | exact A1.out | exact A1.out.drewN _⟩, ⟨by first | exact A4.out | exact A4.out.drewN _⟩, ⟨by first | exact A5.out | exact A5.out.drewN _⟩, ⟨by repeat (first | (with_reducible exact HB.out) | apply pw_below_drewN)⟩⟩
theorem impl_logr (start next roll : Int) (A : Option Addr) (c : Nat) (x : List Seg) (r : Bool) (w : World) (h : logB start next roll x = r) (hC : k125.C w A x.length x) (hc : x.length ≤ c) (hs : smL x) :
    Calls Try.prog 49 #[.agg #[.int .i64 start, .int .i64 next, .int .i64 roll, .slice A x.length c]] w fun e w' => e = .returned (.bool r) ∧ Below w.heap.size w w' := by
  subst h
  exact impl_log start next roll A c x w hC hc hs
set_option maxHeartbeats 3200000 in
set_option maxRecDepth 100000 in
theorem impl_mirror (start next roll nm : Int) (A B : Option Addr) (c d : Nat) (x : List Seg) (ts : List Twn) (w : World) (hC : k125.C w A x.length x) (hcc : x.length ≤ c) (hs : smL x) (hD : k106.C w B ts.length ts) (_ : ts.length ≤ d) (hl : ts.length ≤ 1048576) :
    Calls Try.prog 26 #[.agg #[.int .i64 start, .int .i64 next, .int .i64 roll, .slice A x.length c, .int .i64 nm, .slice B ts.length d]] w fun e w' => e = .returned (.bool (mirrorB start next roll x nm ts)) ∧ Below w.heap.size w w' := by
  have HC := Aside0.mk hC
  have HD := Aside0.mk hD
  have HS := Aside0.mk hs
  clear hC hD hs
  obtain ⟨r1, a2, a3, h1, h2, h3⟩ : ∃ r1 a2 a3 : Bool, logB start next roll x = r1 ∧ decide (0 ≤ nm ∧ nm ≤ 1000000000) = a2 ∧ decide (400 < ts.length) = a3 := ⟨_, _, _, rfl, rfl, rfl⟩
  have h3i : decide (400 < (ts.length : Int)) = a3 := by rw [← h3, Bool.eq_iff_iff]; simp; omega
  obtain ⟨p, hp⟩ : ∃ p : Bool, p = (!r1 || !a2 || a3) := ⟨_, rfl⟩
  obtain ⟨R, HL⟩ : ∃ R : Bool, twinsB nm next (prv ts 0) ts = R := ⟨_, rfl⟩
  have HR : Aside0 (mirrorB start next roll x nm ts = (!p && R)) := ⟨by unfold mirrorB; rw [h1, h2, h3, hp, HL]; cases r1 <;> cases a2 <;> cases a3 <;> simp⟩
  replace hp := Aside0.mk hp
  replace HL := Aside0.mk HL
  go_enter Try.func26, Try.ntmps26
  go_upto_region 1 with (fail)
  have BK := Aside0.mk (blk_new w (.cells #[.int .i64 start, .int .i64 next, .int .i64 roll, .slice A x.length c, .int .i64 nm, .slice B ts.length d] 39))
  have HB := Aside0.mk (bel_alloc w (.cells #[.int .i64 start, .int .i64 next, .int .i64 roll, .slice A x.length c, .int .i64 nm, .slice B ts.length d] 39))
  obtain ⟨g, hgg⟩ : ∃ g, g = w.heap.size := ⟨_, rfl⟩
  rw [← hgg] at BK
  simp only [← hgg]
  clear hgg
  generalize w.alloc (.cells #[.int .i64 start, .int .i64 next, .int .i64 roll, .slice A x.length c, .int .i64 nm, .slice B ts.length d] 39) = W at *
  have hz0 := (blk_cell BK.out 0).trans rfl
  have hz1 := (blk_cell BK.out 1).trans rfl
  have hz2 := (blk_cell BK.out 2).trans rfl
  have hz3 := (blk_cell BK.out 3).trans rfl
  have hz4 := (blk_cell BK.out 4).trans rfl
  have hz5 := (blk_cell BK.out 5).trans rfl
  have hfz0 := blk_frozen BK.out 0
  have hfz1 := blk_frozen BK.out 1
  have hfz2 := blk_frozen BK.out 2
  have hfz3 := blk_frozen BK.out 3
  have hfz4 := blk_frozen BK.out 4
  have hfz5 := blk_frozen BK.out 5
  go_cut [20] (fun v20 wc => v20 = .bool p ∧ Aside0 (wc.heap[g]? = some (.cells #[.int .i64 start, .int .i64 next, .int .i64 roll, .slice A x.length c, .int .i64 nm, .slice B ts.length d] 39 (0, 0))) ∧ Aside0 (Below w.heap.size w wc))
  case first =>
    cases r1
    case false => ((go_wp2_with (first | (go_at_call 49; refine (impl_logr start next roll _ _ x _ _ h1 (Kd.C_below HC.out (by repeat (first | (with_reducible exact HB.out) | apply pw_below_drewN))) hcc HS.out).mono ?_; rintro e w' ⟨rfl, hb⟩; replace BK := Aside0.mk (blk_below (show _ = some _ from (by (with_reducible repeat (first | refine blk_drewN ?_ _ | refine blk_drew ?_)); exact BK.out)) hb); replace HB := Aside0.mk (bel (by repeat (first | (with_reducible exact HB.out) | apply pw_below_drewN)) hb); clear hb hz0 hfz0 hz1 hfz1 hz2 hfz2 hz3 hfz3 hz4 hfz4 hz5 hfz5; have hz0 := (blk_cell BK.out 0).trans rfl; have hz1 := (blk_cell BK.out 1).trans rfl; have hz2 := (blk_cell BK.out 2).trans rfl; have hz3 := (blk_cell BK.out 3).trans rfl; have hz4 := (blk_cell BK.out 4).trans rfl; have hz5 := (blk_cell BK.out 5).trans rfl) | (go_at_call 62; refine (call_offset _ _ _ h2).mono ?_; rintro e w' ⟨rfl, ⟨_, rfl⟩⟩))); go_meet; (case rel => exact ⟨by rw [hp.out]; simp, ⟨by (with_reducible repeat (first | refine blk_drewN ?_ _ | refine blk_drew ?_)); exact BK.out⟩, ⟨by repeat (first | (with_reducible exact HB.out) | apply pw_below_drewN)⟩⟩))
    cases a2
    case false => ((go_wp2_with (first | (go_at_call 49; refine (impl_logr start next roll _ _ x _ _ h1 (Kd.C_below HC.out (by repeat (first | (with_reducible exact HB.out) | apply pw_below_drewN))) hcc HS.out).mono ?_; rintro e w' ⟨rfl, hb⟩; replace BK := Aside0.mk (blk_below (show _ = some _ from (by (with_reducible repeat (first | refine blk_drewN ?_ _ | refine blk_drew ?_)); exact BK.out)) hb); replace HB := Aside0.mk (bel (by repeat (first | (with_reducible exact HB.out) | apply pw_below_drewN)) hb); clear hb hz0 hfz0 hz1 hfz1 hz2 hfz2 hz3 hfz3 hz4 hfz4 hz5 hfz5; have hz0 := (blk_cell BK.out 0).trans rfl; have hz1 := (blk_cell BK.out 1).trans rfl; have hz2 := (blk_cell BK.out 2).trans rfl; have hz3 := (blk_cell BK.out 3).trans rfl; have hz4 := (blk_cell BK.out 4).trans rfl; have hz5 := (blk_cell BK.out 5).trans rfl) | (go_at_call 62; refine (call_offset _ _ _ h2).mono ?_; rintro e w' ⟨rfl, ⟨_, rfl⟩⟩))); go_meet; (case rel => exact ⟨by rw [hp.out]; simp, ⟨by (with_reducible repeat (first | refine blk_drewN ?_ _ | refine blk_drew ?_)); exact BK.out⟩, ⟨by repeat (first | (with_reducible exact HB.out) | apply pw_below_drewN)⟩⟩))
    cases a3
    case true => ((go_wp2_with (first | (go_at_call 49; refine (impl_logr start next roll _ _ x _ _ h1 (Kd.C_below HC.out (by repeat (first | (with_reducible exact HB.out) | apply pw_below_drewN))) hcc HS.out).mono ?_; rintro e w' ⟨rfl, hb⟩; replace BK := Aside0.mk (blk_below (show _ = some _ from (by (with_reducible repeat (first | refine blk_drewN ?_ _ | refine blk_drew ?_)); exact BK.out)) hb); replace HB := Aside0.mk (bel (by repeat (first | (with_reducible exact HB.out) | apply pw_below_drewN)) hb); clear hb hz0 hfz0 hz1 hfz1 hz2 hfz2 hz3 hfz3 hz4 hfz4 hz5 hfz5; have hz0 := (blk_cell BK.out 0).trans rfl; have hz1 := (blk_cell BK.out 1).trans rfl; have hz2 := (blk_cell BK.out 2).trans rfl; have hz3 := (blk_cell BK.out 3).trans rfl; have hz4 := (blk_cell BK.out 4).trans rfl; have hz5 := (blk_cell BK.out 5).trans rfl) | (go_at_call 62; refine (call_offset _ _ _ h2).mono ?_; rintro e w' ⟨rfl, ⟨_, rfl⟩⟩))); go_meet; (case rel => exact ⟨by rw [hp.out]; simp, ⟨by (with_reducible repeat (first | refine blk_drewN ?_ _ | refine blk_drew ?_)); exact BK.out⟩, ⟨by repeat (first | (with_reducible exact HB.out) | apply pw_below_drewN)⟩⟩))
    ((go_wp2_with (first | (go_at_call 49; refine (impl_logr start next roll _ _ x _ _ h1 (Kd.C_below HC.out (by repeat (first | (with_reducible exact HB.out) | apply pw_below_drewN))) hcc HS.out).mono ?_; rintro e w' ⟨rfl, hb⟩; replace BK := Aside0.mk (blk_below (show _ = some _ from (by (with_reducible repeat (first | refine blk_drewN ?_ _ | refine blk_drew ?_)); exact BK.out)) hb); replace HB := Aside0.mk (bel (by repeat (first | (with_reducible exact HB.out) | apply pw_below_drewN)) hb); clear hb hz0 hfz0 hz1 hfz1 hz2 hfz2 hz3 hfz3 hz4 hfz4 hz5 hfz5; have hz0 := (blk_cell BK.out 0).trans rfl; have hz1 := (blk_cell BK.out 1).trans rfl; have hz2 := (blk_cell BK.out 2).trans rfl; have hz3 := (blk_cell BK.out 3).trans rfl; have hz4 := (blk_cell BK.out 4).trans rfl; have hz5 := (blk_cell BK.out 5).trans rfl) | (go_at_call 62; refine (call_offset _ _ _ h2).mono ?_; rintro e w' ⟨rfl, ⟨_, rfl⟩⟩))); go_meet; (case rel => exact ⟨by rw [hp.out]; simp, ⟨by (with_reducible repeat (first | refine blk_drewN ?_ _ | refine blk_drew ?_)); exact BK.out⟩, ⟨by repeat (first | (with_reducible exact HB.out) | apply pw_below_drewN)⟩⟩))
  case rest =>
    clear hz0 hfz0 hz1 hfz1 hz2 hfz2 hz3 hfz3 hz4 hfz4 hz5 hfz5 BK HB
    obtain ⟨rfl, BK, HB⟩ := hcut
    have hz0 := (blk_cell BK.out 0).trans rfl
    have hz1 := (blk_cell BK.out 1).trans rfl
    have hz2 := (blk_cell BK.out 2).trans rfl
    have hz3 := (blk_cell BK.out 3).trans rfl
    have hz4 := (blk_cell BK.out 4).trans rfl
    have hz5 := (blk_cell BK.out 5).trans rfl
    have hfz0 := blk_frozen BK.out 0
    have hfz1 := blk_frozen BK.out 1
    have hfz2 := blk_frozen BK.out 2
    have hfz3 := blk_frozen BK.out 3
    have hfz4 := blk_frozen BK.out 4
    have hfz5 := blk_frozen BK.out 5
    cases p
    case true => (go_wp2; go_ret; exact ⟨by rw [HR.out]; simp, by repeat (first | (with_reducible exact HB.out) | apply pw_below_drewN)⟩)
    obtain ⟨rfl, rfl, rfl⟩ : r1 = true ∧ a2 = true ∧ a3 = false := by
      have h := hp.out
      cases r1 <;> cases a2 <;> cases a3 <;> simp at h <;> simp
    have hnx := log_in h1
    have hnm := of_decide_eq_true h2
    have wn1 : wrap64 (nm - 1) = nm - 1 := by unfold wrap64; omega
    have wn2 : wrap64 (next - 1) = next - 1 := by unfold wrap64; omega
    have wn3 : IntKind.i64.wrap (nm - 1) = nm - 1 := (i64_w _).trans wn1
    have wn4 : IntKind.i64.wrap (next - 1) = next - 1 := (i64_w _).trans wn2
    replace HR : Aside0 (mirrorB start next roll x nm ts = R) := ⟨HR.out.trans (by simp)⟩
    clear h1 h2 h3 h3i hp hnx hnm HS
    go_wp2
    have A1 : Aside0 (At wc g 1 (.int .i64 next)) := ⟨At.of BK.out rfl⟩
    have A4 : Aside0 (At wc g 4 (.int .i64 nm)) := ⟨At.of BK.out rfl⟩
    have A5 : Aside0 (At wc g 5 (.slice B ts.length d)) := ⟨At.of BK.out rfl⟩
    go_loopg [24] (ts.length + 1) (fun kq v24 wr => ∃ (j : Nat), (j + kq = ts.length + 1 ∧ j ≤ ts.length) ∧ v24 = .int .i64 (j : Int) ∧ Aside0 (twinsB nm next (prv ts j) (ts.drop j) = R) ∧ Aside0 (At wr g 1 (.int .i64 next)) ∧ Aside0 (At wr g 4 (.int .i64 nm)) ∧ Aside0 (At wr g 5 (.slice B ts.length d)) ∧ Aside0 (Below w.heap.size w wr))
    case atStart => exact ⟨0, ⟨by omega, by omega⟩, rfl, ⟨HL.out⟩, ⟨by first | exact A1.out | exact A1.out.drewN _⟩, ⟨by first | exact A4.out | exact A4.out.drewN _⟩, ⟨by first | exact A5.out | exact A5.out.drewN _⟩, ⟨by repeat (first | (with_reducible exact HB.out) | apply pw_below_drewN)⟩⟩
    case round =>
      clear hz0 hfz0 hz1 hfz1 hz2 hfz2 hz3 hfz3 hz4 hfz4 hz5 hfz5 BK A1 A4 A5 HB
      obtain ⟨j, hj, rfl, HO, A1, A4, A5, HB⟩ := hrel
      have hz1 := A1.out.2
      have hz4 := A4.out.2
      have hz5 := A5.out.2
      by_cases hlt : j < ts.length
      case neg =>
        obtain rfl : j = ts.length := by omega
        have HF := Aside0.mk (HR.out.trans (HO.out.symm.trans (twins_end nm next ts _)))
        go_wp2
        go_ret; exact ⟨by rw [HF.out]; try rfl, by repeat (first | (with_reducible exact HB.out) | apply pw_below_drewN)⟩
      obtain ⟨⟨t0, t1⟩, hse⟩ : ∃ s : Twn, ts[j] = s := ⟨_, rfl⟩
      obtain ⟨ad, ee, g0, g1⟩ := elemT (Kd.C_below HD.out HB.out) hlt hse
      cases ee
      replace hse := Aside0.mk hse
      go_upto_region 6 with (fail)
      have B2 := Aside0.mk (blk_new wr (.cells #[.int .i64 t0, .int .i64 t1] 106))
      replace A1 := Aside0.mk (A1.out.below (bel_alloc wr (.cells #[.int .i64 t0, .int .i64 t1] 106)))
      replace A4 := Aside0.mk (A4.out.below (bel_alloc wr (.cells #[.int .i64 t0, .int .i64 t1] 106)))
      replace A5 := Aside0.mk (A5.out.below (bel_alloc wr (.cells #[.int .i64 t0, .int .i64 t1] 106)))
      replace HB := Aside0.mk (bel HB.out (bel_alloc wr (.cells #[.int .i64 t0, .int .i64 t1] 106)))
      clear g0 g1 hz1 hz4 hz5
      generalize wr.alloc (.cells #[.int .i64 t0, .int .i64 t1] 106) = W2 at *
      generalize wr.heap.size = g2 at *
      clear wr
      have hy0 := (blk_cell B2.out 0).trans rfl
      have hy1 := (blk_cell B2.out 1).trans rfl
      have hz1 := A1.out.2
      have hz4 := A4.out.2
      have hz5 := A5.out.2
      clear B2
      obtain ⟨b1, b2, m1, m2⟩ : ∃ b1 b2 : Bool, decide (0 ≤ t0 ∧ t0 ≤ nm - 1) = b1 ∧ decide (0 ≤ t1 ∧ t1 ≤ next - 1) = b2 := ⟨_, _, rfl, rfl⟩
      by_cases hj0 : j = 0
      case pos =>
        have HX : Aside0 (R = (b1 && b2 && twinsB nm next (prv ts (j + 1)) (ts.drop (j + 1)))) := ⟨HO.out.symm.trans ((twins_at0 (by omega) hlt hse.out).trans (by rw [m1, m2]))⟩
        have q0 : decide (0 < (j : Int)) = false := decide_eq_false (by omega)
        have q1 : decide (0 < j) = false := decide_eq_false (by omega)
        cases b1
        case false =>
          have HF := Aside0.mk (HR.out.trans (HX.out.trans (show _ = false by simp)))
          ((go_quiet ((go_at_call 63; exact (Calls.quiet_of ((call_within _ _ _ _ _ (by first | exact m1 | exact m2)).mono (fun _ _ h => ⟨h.1, h.2.out⟩)))))); go_wp2)
          go_ret; exact ⟨by rw [HF.out]; try rfl, by repeat (first | (with_reducible exact HB.out) | apply pw_below_drewN)⟩
        cases b2
        case false =>
          have HF := Aside0.mk (HR.out.trans (HX.out.trans (show _ = false by simp)))
          ((go_quiet ((go_at_call 63; exact (Calls.quiet_of ((call_within _ _ _ _ _ (by first | exact m1 | exact m2)).mono (fun _ _ h => ⟨h.1, h.2.out⟩)))))); go_wp2)
          go_ret; exact ⟨by rw [HF.out]; try rfl, by repeat (first | (with_reducible exact HB.out) | apply pw_below_drewN)⟩
        have HX2 : Aside0 (twinsB nm next (prv ts (j + 1)) (ts.drop (j + 1)) = R) := ⟨HX.out.symm ▸ (by simp)⟩
        ((go_quiet ((go_at_call 63; exact (Calls.quiet_of ((call_within _ _ _ _ _ (by first | exact m1 | exact m2)).mono (fun _ _ h => ⟨h.1, h.2.out⟩)))))); go_wp2)
        go_roundg (ts.length - j)
        case measure => omega
        case rel => exact ⟨j + 1, ⟨by omega, by omega⟩, by go_num, ⟨HX2.out⟩, ⟨by first | exact A1.out | exact A1.out.drewN _⟩, ⟨by first | exact A4.out | exact A4.out.drewN _⟩, ⟨by first | exact A5.out | exact A5.out.drewN _⟩, ⟨by repeat (first | (with_reducible exact HB.out) | apply pw_below_drewN)⟩⟩
      case neg =>
        obtain ⟨i, hi⟩ : ∃ i : Nat, j = i + 1 := ⟨j - 1, by omega⟩
        have hit : i < ts.length := by omega
        have wj : wrap64 ((j : Int) - 1) = (i : Int) := by unfold wrap64; omega
        have wj2 : IntKind.i64.wrap ((j : Int) - 1) = (i : Int) := (i64_w _).trans wj
        obtain ⟨⟨p0, p1⟩, hpe⟩ : ∃ s : Twn, ts[i] = s := ⟨_, rfl⟩
        have HX : Aside0 (R = (b1 && b2 && !(decide (t0 ≤ p0) || decide (t1 < p1)) && twinsB nm next (prv ts (j + 1)) (ts.drop (j + 1)))) := ⟨HO.out.symm.trans ((twins_at hi hlt hit hse.out hpe).trans (by rw [m1, m2]))⟩
        obtain ⟨ad3, ee, g4, g5⟩ := elemT (Kd.C_below HD.out HB.out) hit hpe
        cases ee
        clear hpe
        replace hi := Aside0.mk hi
        have q0 : decide (0 < (j : Int)) = true := decide_eq_true (by have := hi.out; omega)
        have q1 : decide (0 < j) = true := decide_eq_true (by have := hi.out; omega)
        have q2 : (0 : Int) < (j : Int) := by have := hi.out; omega
        have q3 : 0 < j := by have := hi.out; omega
        have q4 : (0 : Int) ≤ (i : Int) := by omega
        have q5 : (i : Int) < (ts.length : Int) := by omega
        obtain ⟨u1, u2, m3, m4⟩ : ∃ u1 u2 : Bool, decide (t0 ≤ p0) = u1 ∧ decide (t1 < p1) = u2 := ⟨_, _, rfl, rfl⟩
        rw [m3, m4] at HX
        cases b1
        case false =>
          have HF := Aside0.mk (HR.out.trans (HX.out.trans (show _ = false by simp)))
          ((go_quiet ((go_at_call 63; exact (Calls.quiet_of ((call_within _ _ _ _ _ (by first | exact m1 | exact m2)).mono (fun _ _ h => ⟨h.1, h.2.out⟩)))))); go_wp2)
          go_ret; exact ⟨by rw [HF.out]; try rfl, by repeat (first | (with_reducible exact HB.out) | apply pw_below_drewN)⟩
        cases b2
        case false =>
          have HF := Aside0.mk (HR.out.trans (HX.out.trans (show _ = false by simp)))
          ((go_quiet ((go_at_call 63; exact (Calls.quiet_of ((call_within _ _ _ _ _ (by first | exact m1 | exact m2)).mono (fun _ _ h => ⟨h.1, h.2.out⟩)))))); go_wp2)
          go_ret; exact ⟨by rw [HF.out]; try rfl, by repeat (first | (with_reducible exact HB.out) | apply pw_below_drewN)⟩
        cases u1
        case true =>
          have HF := Aside0.mk (HR.out.trans (HX.out.trans (show _ = false by simp)))
          ((go_quiet ((go_at_call 63; exact (Calls.quiet_of ((call_within _ _ _ _ _ (by first | exact m1 | exact m2)).mono (fun _ _ h => ⟨h.1, h.2.out⟩)))))); go_wp2)
          go_ret; exact ⟨by rw [HF.out]; try rfl, by repeat (first | (with_reducible exact HB.out) | apply pw_below_drewN)⟩
        cases u2
        case true =>
          have HF := Aside0.mk (HR.out.trans (HX.out.trans (show _ = false by simp)))
          ((go_quiet ((go_at_call 63; exact (Calls.quiet_of ((call_within _ _ _ _ _ (by first | exact m1 | exact m2)).mono (fun _ _ h => ⟨h.1, h.2.out⟩)))))); go_wp2)
          go_ret; exact ⟨by rw [HF.out]; try rfl, by repeat (first | (with_reducible exact HB.out) | apply pw_below_drewN)⟩
        have HX2 : Aside0 (twinsB nm next (prv ts (j + 1)) (ts.drop (j + 1)) = R) := ⟨HX.out.symm ▸ (by simp)⟩
        ((go_quiet ((go_at_call 63; exact (Calls.quiet_of ((call_within _ _ _ _ _ (by first | exact m1 | exact m2)).mono (fun _ _ h => ⟨h.1, h.2.out⟩)))))); go_wp2)
        go_roundg (ts.length - j)
        case measure => omega
        case rel => exact ⟨j + 1, ⟨by omega, by omega⟩, by go_num, ⟨HX2.out⟩, ⟨by first | exact A1.out | exact A1.out.drewN _⟩, ⟨by first | exact A4.out | exact A4.out.drewN _⟩, ⟨by first | exact A5.out | exact A5.out.drewN _⟩, ⟨by repeat (first | (with_reducible exact HB.out) | apply pw_below_drewN)⟩⟩
end Go.Proofs.Ytoacdmohgohpdaa.LogK
