/- The reference's LastOffset and LogOk, called: what LogOk tells is 'logB'. -/
import Derived.Test.YtoacdmohgohpdaaK2LogBat
import Derived.Test.YtoacdmohgohpdaaK2LogSeg
namespace Go.Proofs.Ytoacdmohgohpdaa.LogK
open Go.RowKit Go.Proofs.YtoacdmohgohpdaaW.PrintWords Go.Proofs.YtoacdmohgohpdaaW.PrintLast Go.Proofs.YtoacdmohgohpdaaW.PrintMore Go.Proofs.Ytoacdmohgohpdaa.QFnExactBehind
theorem cell_lt {w : World} {a : Addr} {v : Value} (h : w.cell? a = some v) : a.block < w.heap.size := by
  rcases Nat.lt_or_ge a.block w.heap.size with h1 | h1
  · exact h1
  · exfalso
    have : w.heap[a.block]? = none := Array.getElem?_eq_none h1
    unfold World.cell? at h
    simp [this] at h
theorem up1 {w w' : World} {a : Addr} {v : Value} (hb : Below w.heap.size w w') (h : w.cell? a = some v) : w'.cell? a = some v := (hb.cell (cell_lt h)).trans h
theorem elemS {w wr : World} {A : Option Addr} {x : List Seg} (h : Kd.C k125 w A x.length x) (hb : Below w.heap.size w wr) {j : Nat} {base : Int} {bs : List Bat} (hj : j < x.length) (he : x[j] = ⟨base, bs⟩) :
    ∃ ad A7 c7, A = some ad ∧ wr.cell? (ad.add (j * 2)) = some (.int .i64 base) ∧ wr.cell? ⟨(ad.add (j * 2)).block, (ad.add (j * 2)).off + 1, none⟩ = some (.slice A7 bs.length c7) ∧ bs.length ≤ c7 ∧ k82.C w A7 bs.length bs := by
  obtain ⟨ad, A7, c7, e, h0, h1, hl, hC⟩ := at_T125 h (j : Int) (by omega) (by omega)
  rw [show rd_T125 x (j : Int) = ⟨base, bs⟩ from by rw [← he]; simp [rd_T125, hj]] at h0 h1 hl hC
  exact ⟨ad, A7, c7, e, by simpa using up1 hb h0, by simpa using up1 hb h1, hl, hC⟩
theorem elemB {w wr : World} {A : Option Addr} {x : List Bat} (h : Kd.C k82 w A x.length x) (hb : Below w.heap.size w wr) {j : Nat} {b0 b1 b2 b3 b4 b5 : Int} {rs : List Rec} (hj : j < x.length) (he : x[j] = ⟨b0, b1, b2, b3, b4, b5, rs⟩) :
    ∃ ad A6 c6, A = some ad ∧ wr.cell? (ad.add (j * 7)) = some (.int .i64 b0) ∧ wr.cell? ⟨(ad.add (j * 7)).block, (ad.add (j * 7)).off + 1, none⟩ = some (.int .i64 b1) ∧ wr.cell? ⟨(ad.add (j * 7)).block, (ad.add (j * 7)).off + 2, none⟩ = some (.int .i64 b2) ∧ wr.cell? ⟨(ad.add (j * 7)).block, (ad.add (j * 7)).off + 3, none⟩ = some (.int .i64 b3) ∧ wr.cell? ⟨(ad.add (j * 7)).block, (ad.add (j * 7)).off + 4, none⟩ = some (.int .i64 b4) ∧ wr.cell? ⟨(ad.add (j * 7)).block, (ad.add (j * 7)).off + 5, none⟩ = some (.int .i64 b5) ∧ wr.cell? ⟨(ad.add (j * 7)).block, (ad.add (j * 7)).off + 6, none⟩ = some (.slice A6 rs.length c6) ∧ rs.length ≤ c6 ∧ k158.C w A6 rs.length rs := by
  obtain ⟨ad, A6, c6, e, h0, h1, h2, h3, h4, h5, h6, hl, hC⟩ := at_T82 h (j : Int) (by omega) (by omega)
  rw [show rd_T82 x (j : Int) = ⟨b0, b1, b2, b3, b4, b5, rs⟩ from by rw [← he]; simp [rd_T82, hj]] at h0 h1 h2 h3 h4 h5 h6 hl hC
  exact ⟨ad, A6, c6, e, by simpa using up1 hb h0, by simpa using up1 hb h1, by simpa using up1 hb h2, by simpa using up1 hb h3, by simpa using up1 hb h4, by simpa using up1 hb h5, by simpa using up1 hb h6, hl, hC⟩
def smL (x : List Seg) : Prop := x.length ≤ 1048576 ∧ ∀ s ∈ x, (-9223372036854775808 ≤ s.f0 ∧ s.f0 ≤ 9223372036854775807) ∧ s.f1.length ≤ 1048576 ∧ ∀ b ∈ s.f1, smR b.f6
theorem spec_bat (b0 b1 b2 b3 b4 b5 : Int) (A : Option Addr) (c : Nat) (rs : List Rec) (r : Bool) (w : World) (h : batchB ⟨b0, b1, b2, b3, b4, b5, rs⟩ = r) (hC : k158.C w A rs.length rs) (hc : rs.length ≤ c) (hs : smR rs) :
    Calls Try.prog 90 #[.agg #[.int .i64 b0, .int .i64 b1, .int .i64 b2, .int .i64 b3, .int .i64 b4, .int .i64 b5, .slice A rs.length c]] w fun e w' => e = .returned (.bool r) ∧ Below w.heap.size w w' := by
  subst h
  exact spec_batch b0 b1 b2 b3 b4 b5 A c rs w hC hc hs
set_option maxHeartbeats 1600000 in
theorem spec_last (b0 b1 b2 b3 b4 b5 : Int) (A : Option Addr) (c : Nat) (rs : List Rec) (w : World) (h : batchB ⟨b0, b1, b2, b3, b4, b5, rs⟩ = true) (hC : k158.C w A rs.length rs) (hcc : rs.length ≤ c) (hs : smR rs) :
    Calls Try.prog 91 #[.agg #[.int .i64 b0, .int .i64 b1, .int .i64 b2, .int .i64 b3, .int .i64 b4, .int .i64 b5, .slice A rs.length c]] w fun e w' => e = .returned (.int .i64 (b0 + rs.length - 1)) ∧ Below w.heap.size w w' := by
  have HC := Aside0.mk hC
  have HS := Aside0.mk hs
  have hr := Aside0.mk h
  obtain ⟨h0, h1, h2, h3, h4⟩ := batch_in h
  clear hC hs h
  have wr1 : wrap64 (wrap64 (b0 + (rs.length : Int)) - 1) = b0 + (rs.length : Int) - 1 := by unfold wrap64; omega
  go_enter Try.func91, Try.ntmps91
  go_upto_region 1 with (fail)
  have BK := Aside0.mk (blk_new w (.cells #[.int .i64 b0, .int .i64 b1, .int .i64 b2, .int .i64 b3, .int .i64 b4, .int .i64 b5, .slice A rs.length c] 82))
  have HB := Aside0.mk (bel_alloc w (.cells #[.int .i64 b0, .int .i64 b1, .int .i64 b2, .int .i64 b3, .int .i64 b4, .int .i64 b5, .slice A rs.length c] 82))
  obtain ⟨g, hgg⟩ : ∃ g, g = w.heap.size := ⟨_, rfl⟩
  rw [← hgg] at BK
  simp only [← hgg]
  clear hgg
  generalize w.alloc (.cells #[.int .i64 b0, .int .i64 b1, .int .i64 b2, .int .i64 b3, .int .i64 b4, .int .i64 b5, .slice A rs.length c] 82) = W at *
  have hz0 := (blk_cell BK.out 0).trans rfl
  have hz1 := (blk_cell BK.out 1).trans rfl
  have hz2 := (blk_cell BK.out 2).trans rfl
  have hz3 := (blk_cell BK.out 3).trans rfl
  have hz4 := (blk_cell BK.out 4).trans rfl
  have hz5 := (blk_cell BK.out 5).trans rfl
  have hz6 := (blk_cell BK.out 6).trans rfl
  have hfz0 := blk_frozen BK.out 0
  have hfz1 := blk_frozen BK.out 1
  have hfz2 := blk_frozen BK.out 2
  have hfz3 := blk_frozen BK.out 3
  have hfz4 := blk_frozen BK.out 4
  have hfz5 := blk_frozen BK.out 5
  have hfz6 := blk_frozen BK.out 6
  go_wp2_with (go_at_call 90; refine (spec_bat b0 b1 b2 b3 b4 b5 _ _ rs true _ hr.out (Kd.C_below HC.out (by repeat (first | (with_reducible exact HB.out) | apply pw_below_drewN))) hcc HS.out).mono ?_; rintro e w' ⟨rfl, hb⟩; replace BK := Aside0.mk (blk_below (show _ = some _ from (by (with_reducible repeat (first | refine blk_drewN ?_ _ | refine blk_drew ?_)); exact BK.out)) hb); replace HB := Aside0.mk (bel (by repeat (first | (with_reducible exact HB.out) | apply pw_below_drewN)) hb); clear hb hz0 hfz0 hz1 hfz1 hz2 hfz2 hz3 hfz3 hz4 hfz4 hz5 hfz5 hz6 hfz6; have hz0 := (blk_cell BK.out 0).trans rfl; have hz1 := (blk_cell BK.out 1).trans rfl; have hz2 := (blk_cell BK.out 2).trans rfl; have hz3 := (blk_cell BK.out 3).trans rfl; have hz4 := (blk_cell BK.out 4).trans rfl; have hz5 := (blk_cell BK.out 5).trans rfl; have hz6 := (blk_cell BK.out 6).trans rfl)
  go_ret
  exact ⟨by first | rfl | simp [wr1], by repeat (first | (with_reducible exact HB.out) | apply pw_below_drewN)⟩
set_option maxHeartbeats 3200000 in
set_option maxRecDepth 100000 in
theorem spec_log (start next roll : Int) (A : Option Addr) (c : Nat) (x : List Seg) (w : World) (hC : k125.C w A x.length x) (_ : x.length ≤ c) (hs : smL x) :
    Calls Try.prog 48 #[.agg #[.int .i64 start, .int .i64 next, .int .i64 roll, .slice A x.length c]] w fun e w' => e = .returned (.bool (logB start next roll x)) ∧ Below w.heap.size w w' := by
  have HC := Aside0.mk hC
  have HS := Aside0.mk hs
  have hl := hs.1
  clear hC hs
  obtain ⟨a1, a2, a3, a4, h1, h2, h3, h4⟩ : ∃ a1 a2 a3 a4 : Bool, decide (60 < x.length) = a1 ∧ decide (1 ≤ roll ∧ roll ≤ 20000) = a2 ∧ decide (0 ≤ next ∧ next ≤ 1000000000) = a3 ∧ decide (0 ≤ start ∧ start ≤ next) = a4 := ⟨_, _, _, _, rfl, rfl, rfl, rfl⟩
  have h1i : decide (60 < (x.length : Int)) = a1 := by rw [← h1, Bool.eq_iff_iff]; simp; omega
  obtain ⟨p, hp⟩ : ∃ p : Bool, p = (a1 || !a2 || !a3 || !a4) := ⟨_, rfl⟩
  obtain ⟨R, HL⟩ : ∃ R : Bool, segsB next (-1) 0 0 x = R := ⟨_, rfl⟩
  have HR : Aside0 (logB start next roll x = (!p && R)) := ⟨by unfold logB; rw [h1, h2, h3, h4, hp, HL]; simp [Bool.and_assoc]⟩
  replace hp := Aside0.mk hp
  replace HL := Aside0.mk HL
  go_enter Try.func48, Try.ntmps48
  go_upto_region 1 with (fail)
  have BK := Aside0.mk (blk_new w (.cells #[.int .i64 start, .int .i64 next, .int .i64 roll, .slice A x.length c] 36))
  have HB := Aside0.mk (bel_alloc w (.cells #[.int .i64 start, .int .i64 next, .int .i64 roll, .slice A x.length c] 36))
  obtain ⟨g, hgg⟩ : ∃ g, g = w.heap.size := ⟨_, rfl⟩
  rw [← hgg] at BK
  simp only [← hgg]
  clear hgg
  generalize w.alloc (.cells #[.int .i64 start, .int .i64 next, .int .i64 roll, .slice A x.length c] 36) = W at *
  have hz0 := (blk_cell BK.out 0).trans rfl
  have hz1 := (blk_cell BK.out 1).trans rfl
  have hz2 := (blk_cell BK.out 2).trans rfl
  have hz3 := (blk_cell BK.out 3).trans rfl
  have hfz0 := blk_frozen BK.out 0
  have hfz1 := blk_frozen BK.out 1
  have hfz2 := blk_frozen BK.out 2
  have hfz3 := blk_frozen BK.out 3
  go_cut [33] (fun v33 wc => v33 = .bool p ∧ Aside0 (wc.heap[g]? = some (.cells #[.int .i64 start, .int .i64 next, .int .i64 roll, .slice A x.length c] 36 (0, 0))) ∧ Aside0 (Below w.heap.size w wc))
  case first =>
    cases a1
    case true => ((go_wp2_with (go_at_call 54; refine (call_in _ _ _ _ _ (by first | exact h2 | exact h3 | exact h4)).mono ?_; rintro e w' ⟨rfl, ⟨_, rfl⟩⟩)); go_meet; (case rel => exact ⟨by rw [hp.out]; simp, ⟨by (with_reducible repeat (first | refine blk_drewN ?_ _ | refine blk_drew ?_)); exact BK.out⟩, ⟨by repeat (first | (with_reducible exact HB.out) | apply pw_below_drewN)⟩⟩))
    cases a2
    case false => ((go_wp2_with (go_at_call 54; refine (call_in _ _ _ _ _ (by first | exact h2 | exact h3 | exact h4)).mono ?_; rintro e w' ⟨rfl, ⟨_, rfl⟩⟩)); go_meet; (case rel => exact ⟨by rw [hp.out]; simp, ⟨by (with_reducible repeat (first | refine blk_drewN ?_ _ | refine blk_drew ?_)); exact BK.out⟩, ⟨by repeat (first | (with_reducible exact HB.out) | apply pw_below_drewN)⟩⟩))
    cases a3
    case false => ((go_wp2_with (go_at_call 54; refine (call_in _ _ _ _ _ (by first | exact h2 | exact h3 | exact h4)).mono ?_; rintro e w' ⟨rfl, ⟨_, rfl⟩⟩)); go_meet; (case rel => exact ⟨by rw [hp.out]; simp, ⟨by (with_reducible repeat (first | refine blk_drewN ?_ _ | refine blk_drew ?_)); exact BK.out⟩, ⟨by repeat (first | (with_reducible exact HB.out) | apply pw_below_drewN)⟩⟩))
    cases a4
    case false => ((go_wp2_with (go_at_call 54; refine (call_in _ _ _ _ _ (by first | exact h2 | exact h3 | exact h4)).mono ?_; rintro e w' ⟨rfl, ⟨_, rfl⟩⟩)); go_meet; (case rel => exact ⟨by rw [hp.out]; simp, ⟨by (with_reducible repeat (first | refine blk_drewN ?_ _ | refine blk_drew ?_)); exact BK.out⟩, ⟨by repeat (first | (with_reducible exact HB.out) | apply pw_below_drewN)⟩⟩))
    ((go_wp2_with (go_at_call 54; refine (call_in _ _ _ _ _ (by first | exact h2 | exact h3 | exact h4)).mono ?_; rintro e w' ⟨rfl, ⟨_, rfl⟩⟩)); go_meet; (case rel => exact ⟨by rw [hp.out]; simp, ⟨by (with_reducible repeat (first | refine blk_drewN ?_ _ | refine blk_drew ?_)); exact BK.out⟩, ⟨by repeat (first | (with_reducible exact HB.out) | apply pw_below_drewN)⟩⟩))
  case rest =>
    clear hz0 hfz0 hz1 hfz1 hz2 hfz2 hz3 hfz3 BK HB
    obtain ⟨rfl, BK, HB⟩ := hcut
    have hz0 := (blk_cell BK.out 0).trans rfl
    have hz1 := (blk_cell BK.out 1).trans rfl
    have hz2 := (blk_cell BK.out 2).trans rfl
    have hz3 := (blk_cell BK.out 3).trans rfl
    have hfz0 := blk_frozen BK.out 0
    have hfz1 := blk_frozen BK.out 1
    have hfz2 := blk_frozen BK.out 2
    have hfz3 := blk_frozen BK.out 3
    cases p
    case true => (go_wp2; go_ret; exact ⟨by rw [HR.out]; simp, by repeat (first | (with_reducible exact HB.out) | apply pw_below_drewN)⟩)
    have hx : x.length ≤ 60 := by
      have h := hp.out
      cases a1
      · exact Nat.le_of_not_lt (of_decide_eq_false h1)
      · simp at h
    replace HR : Aside0 (logB start next roll x = R) := ⟨HR.out.trans (by simp)⟩
    clear h1 h2 h3 h4 h1i hp
    have wx : wrap64 ((x.length : Int) - 1) = (x.length : Int) - 1 := by unfold wrap64; omega
    go_wp2
    have A1 : Aside0 (At wc g 1 (.int .i64 next)) := ⟨At.of BK.out rfl⟩
    have A3 : Aside0 (At wc g 3 (.slice A x.length c)) := ⟨At.of BK.out rfl⟩
    go_loopg [3, 4, 5, 6] (x.length + 1) (fun kq v3 v4 v5 v6 wr => ∃ (j : Nat) (l e n : Int), (j + kq = x.length + 1 ∧ j ≤ x.length) ∧ v3 = .int .i64 l ∧ v4 = .int .i64 e ∧ v5 = .int .i64 n ∧ v6 = .int .i64 (j : Int) ∧ (0 ≤ n ∧ n ≤ j * 1048576) ∧ Aside0 (segsB next l e n (x.drop j) = R) ∧ Aside0 (At wr g 1 (.int .i64 next)) ∧ Aside0 (At wr g 3 (.slice A x.length c)) ∧ Aside0 (Below w.heap.size w wr))
    case atStart => exact ⟨0, -1, 0, 0, ⟨by omega, by omega⟩, rfl, rfl, rfl, rfl, ⟨by omega, by omega⟩, ⟨HL.out⟩, ⟨by first | exact A1.out | exact A1.out.drewN _⟩, ⟨by first | exact A3.out | exact A3.out.drewN _⟩, ⟨by repeat (first | (with_reducible exact HB.out) | apply pw_below_drewN)⟩⟩
    case round =>
      clear hz0 hfz0 hz1 hfz1 hz2 hfz2 hz3 hfz3 BK A1 A3 HB
      obtain ⟨j, l, e, n, hj, rfl, rfl, rfl, rfl, hn, HO, A1, A3, HB⟩ := hrel
      have hz1 := A1.out.2
      have hz3 := A3.out.2
      by_cases hlt : j < x.length
      case neg =>
        obtain rfl : j = x.length := by omega
        have HF := Aside0.mk (HR.out.trans (HO.out.symm.trans (segs_end next l e n x)))
        obtain ⟨d1, d2, k1, k2⟩ : ∃ d1 d2 : Bool, decide (l < next) = d1 ∧ decide (n ≤ 400) = d2 := ⟨_, _, rfl, rfl⟩
        rw [k1, k2] at HF
        cases d1
        case false => (go_wp2; go_ret; exact ⟨by rw [HF.out]; try rfl, by repeat (first | (with_reducible exact HB.out) | apply pw_below_drewN)⟩)
        go_wp2
        go_ret; exact ⟨by rw [HF.out]; try rfl, by repeat (first | (with_reducible exact HB.out) | apply pw_below_drewN)⟩
      obtain ⟨⟨base, bs⟩, hse⟩ : ∃ s : Seg, x[j] = s := ⟨_, rfl⟩
      have hsm := HS.out.2 _ (List.getElem_mem hlt)
      rw [hse] at hsm
      obtain ⟨hs0, hs1, hs2⟩ := hsm
      have hs1 : bs.length ≤ 1048576 := hs1
      have hs0 : -9223372036854775808 ≤ base ∧ base ≤ 9223372036854775807 := hs0
      have HS2 : Aside0 (∀ b ∈ bs, smR b.f6) := ⟨hs2⟩
      clear hs2
      have HX := Aside0.mk (HO.out.symm.trans (segs_step (next := next) (l := l) (e := e) (n := n) hlt hse))
      obtain ⟨ad, A7, c7, ee, g0, g1, hl7, hC7⟩ := elemS HC.out HB.out hlt hse
      cases ee
      replace hse := Aside0.mk hse
      have HJ7 := Aside0.mk hC7
      clear hC7 HO
      go_upto_region 10 with (fail)
      have B2 := Aside0.mk (blk_new wr (.cells #[.int .i64 base, .slice A7 bs.length c7] 125))
      replace A1 := Aside0.mk (A1.out.below (bel_alloc wr (.cells #[.int .i64 base, .slice A7 bs.length c7] 125)))
      replace A3 := Aside0.mk (A3.out.below (bel_alloc wr (.cells #[.int .i64 base, .slice A7 bs.length c7] 125)))
      replace HB := Aside0.mk (bel HB.out (bel_alloc wr (.cells #[.int .i64 base, .slice A7 bs.length c7] 125)))
      clear g0 g1 hz1 hz3
      generalize wr.alloc (.cells #[.int .i64 base, .slice A7 bs.length c7] 125) = W2 at *
      generalize wr.heap.size = g2 at *
      clear wr
      have hy0 := (blk_cell B2.out 0).trans rfl
      have hy1 := (blk_cell B2.out 1).trans rfl
      have D0 : Aside0 (At W2 g2 0 (.int .i64 base)) := ⟨At.of B2.out rfl⟩
      have D1 : Aside0 (At W2 g2 1 (.slice A7 bs.length c7)) := ⟨At.of B2.out rfl⟩
      have hz1 := A1.out.2
      have hz3 := A3.out.2
      clear B2
      obtain ⟨t1, t2, t3, t4, m1, m2, m3, m4⟩ : ∃ t1 t2 t3 t4 : Bool, decide (base ≤ l) = t1 ∧ decide (base < 0) = t2 ∧ ((bs.length : Int) == 0) = t3 ∧ decide ((j : Int) < (x.length : Int) - 1) = t4 := ⟨_, _, _, _, rfl, rfl, rfl, rfl⟩
      rw [m1, m2, m3, m4] at HX
      obtain ⟨q, hq⟩ : ∃ q : Bool, q = (t1 || t2 || t3 && t4) := ⟨_, rfl⟩
      rw [← hq] at HX
      replace hq := Aside0.mk hq
      go_cut [68] (fun v68 wc => v68 = .bool q ∧ Aside0 (At wc g 1 (.int .i64 next)) ∧ Aside0 (At wc g 3 (.slice (some ad) x.length c)) ∧ Aside0 (At wc g2 0 (.int .i64 base)) ∧ Aside0 (At wc g2 1 (.slice A7 bs.length c7)) ∧ Aside0 (Below w.heap.size w wc))
      case first =>
        cases t1
        case true => (go_wp2; go_meet; (case rel => exact ⟨by rw [hq.out]; simp, ⟨by first | exact A1.out | exact A1.out.drewN _⟩, ⟨by first | exact A3.out | exact A3.out.drewN _⟩, ⟨by first | exact D0.out | exact D0.out.drewN _⟩, ⟨by first | exact D1.out | exact D1.out.drewN _⟩, ⟨by repeat (first | (with_reducible exact HB.out) | apply pw_below_drewN)⟩⟩))
        cases t2
        case true => (go_wp2; go_meet; (case rel => exact ⟨by rw [hq.out]; simp, ⟨by first | exact A1.out | exact A1.out.drewN _⟩, ⟨by first | exact A3.out | exact A3.out.drewN _⟩, ⟨by first | exact D0.out | exact D0.out.drewN _⟩, ⟨by first | exact D1.out | exact D1.out.drewN _⟩, ⟨by repeat (first | (with_reducible exact HB.out) | apply pw_below_drewN)⟩⟩))
        cases t3
        case false => (go_wp2; go_meet; (case rel => exact ⟨by rw [hq.out]; simp, ⟨by first | exact A1.out | exact A1.out.drewN _⟩, ⟨by first | exact A3.out | exact A3.out.drewN _⟩, ⟨by first | exact D0.out | exact D0.out.drewN _⟩, ⟨by first | exact D1.out | exact D1.out.drewN _⟩, ⟨by repeat (first | (with_reducible exact HB.out) | apply pw_below_drewN)⟩⟩))
        cases t4 <;> (go_wp2; go_meet; (case rel => exact ⟨by rw [hq.out]; simp, ⟨by first | exact A1.out | exact A1.out.drewN _⟩, ⟨by first | exact A3.out | exact A3.out.drewN _⟩, ⟨by first | exact D0.out | exact D0.out.drewN _⟩, ⟨by first | exact D1.out | exact D1.out.drewN _⟩, ⟨by repeat (first | (with_reducible exact HB.out) | apply pw_below_drewN)⟩⟩))
      case rest =>
        clear hy0 hy1 hz1 hz3 A1 A3 D0 D1 HB
        obtain ⟨rfl, A1, A3, D0, D1, HB⟩ := hcut
        have hy0 := D0.out.2
        have hy1 := D1.out.2
        have hz1 := A1.out.2
        have hz3 := A3.out.2
        cases q
        case true =>
          have HF := Aside0.mk (HR.out.trans (HX.out.trans (show _ = false by simp)))
          (go_wp2; go_ret; exact ⟨by rw [HF.out]; try rfl, by repeat (first | (with_reducible exact HB.out) | apply pw_below_drewN)⟩)
        have hb0 : 0 ≤ base := by
          have h := hq.out
          cases t2
          · exact Int.not_lt.mp (of_decide_eq_false m2)
          · simp at h
        replace HX : Aside0 (restB next base (n + bs.length) (x.drop (j + 1)) l e bs = R) := ⟨HX.out.symm ▸ (by simp)⟩
        clear m1 m2 m3 m4 hq t1 t2 t3 t4
        have wb : wrap64 (base - 1) = base - 1 := by unfold wrap64; omega
        go_wp2
        go_loopg [3, 4, 5, 8] (bs.length + 1) (fun kq v3 v4 v5 v8 wr => ∃ (k : Nat) (l e : Int), (k + kq = bs.length + 1 ∧ k ≤ bs.length) ∧ v3 = .int .i64 l ∧ v4 = .int .i64 e ∧ v5 = .int .i64 (n + k) ∧ v8 = .int .i64 (k : Int) ∧ Aside0 (restB next base (n + bs.length) (x.drop (j + 1)) l e (bs.drop k) = R) ∧ Aside0 (At wr g 1 (.int .i64 next)) ∧ Aside0 (At wr g 3 (.slice (some ad) x.length c)) ∧ Aside0 (At wr g2 0 (.int .i64 base)) ∧ Aside0 (At wr g2 1 (.slice A7 bs.length c7)) ∧ Aside0 (Below w.heap.size w wr))
        case atStart => exact ⟨0, l, e, ⟨by omega, by omega⟩, rfl, rfl, by simp, rfl, ⟨HX.out⟩, ⟨by first | exact A1.out | exact A1.out.drewN _⟩, ⟨by first | exact A3.out | exact A3.out.drewN _⟩, ⟨by first | exact D0.out | exact D0.out.drewN _⟩, ⟨by first | exact D1.out | exact D1.out.drewN _⟩, ⟨by repeat (first | (with_reducible exact HB.out) | apply pw_below_drewN)⟩⟩
        case round =>
          clear hy0 hy1 hz1 hz3 A1 A3 D0 D1 HB HX
          obtain ⟨k, l, e, hk, rfl, rfl, rfl, rfl, HX, A1, A3, D0, D1, HB⟩ := hrel
          have hy0 := D0.out.2
          have hy1 := D1.out.2
          have hz1 := A1.out.2
          have hz3 := A3.out.2
          by_cases hkt : k < bs.length
          case neg =>
            obtain rfl : k = bs.length := by omega
            have HE := Aside0.mk ((rest_end next base (n + bs.length) (x.drop (j + 1)) l e bs).symm.trans HX.out)
            by_cases hlb : l < base - 1
            · have HE2 : Aside0 (segsB next (base - 1) e (n + bs.length) (x.drop (j + 1)) = R) := ⟨by have h := HE.out; rwa [if_pos hlb] at h⟩
              go_wp2
              go_roundg (x.length - j)
              case measure => omega
              case rel => exact ⟨j + 1, base - 1, e, n + bs.length, ⟨by omega, by omega⟩, by go_num, rfl, rfl, by go_num, ⟨by omega, by omega⟩, ⟨HE2.out⟩, ⟨by first | exact A1.out | exact A1.out.drewN _⟩, ⟨by first | exact A3.out | exact A3.out.drewN _⟩, ⟨by repeat (first | (with_reducible exact HB.out) | apply pw_below_drewN)⟩⟩
            · have HE2 : Aside0 (segsB next l e (n + bs.length) (x.drop (j + 1)) = R) := ⟨by have h := HE.out; rwa [if_neg hlb] at h⟩
              go_wp2
              go_roundg (x.length - j)
              case measure => omega
              case rel => exact ⟨j + 1, l, e, n + bs.length, ⟨by omega, by omega⟩, rfl, rfl, rfl, by go_num, ⟨by omega, by omega⟩, ⟨HE2.out⟩, ⟨by first | exact A1.out | exact A1.out.drewN _⟩, ⟨by first | exact A3.out | exact A3.out.drewN _⟩, ⟨by repeat (first | (with_reducible exact HB.out) | apply pw_below_drewN)⟩⟩
          obtain ⟨⟨b0, b1, b2, b3, b4, b5, rs⟩, hbe⟩ : ∃ b : Bat, bs[k] = b := ⟨_, rfl⟩
          have HS6 : Aside0 (smR rs) := ⟨by have h := HS2.out _ (List.getElem_mem hkt); rw [hbe] at h; exact h⟩
          replace HX := Aside0.mk (HX.out.symm.trans (rest_step hkt hbe))
          obtain ⟨ad2, A6, c6, ee, g0, g1, g2', g3, g4, g5, g6, hl6, hC6⟩ := elemB HJ7.out HB.out hkt hbe
          cases ee
          clear hbe
          have HJ := Aside0.mk hC6
          clear hC6
          go_upto_region 16 with (fail)
          have B3 := Aside0.mk (blk_new wr (.cells #[.int .i64 b0, .int .i64 b1, .int .i64 b2, .int .i64 b3, .int .i64 b4, .int .i64 b5, .slice A6 rs.length c6] 82))
          have hb := bel_alloc wr (.cells #[.int .i64 b0, .int .i64 b1, .int .i64 b2, .int .i64 b3, .int .i64 b4, .int .i64 b5, .slice A6 rs.length c6] 82)
          replace A1 := Aside0.mk (At.below (by first | exact A1.out | exact A1.out.drewN _) hb)
          replace A3 := Aside0.mk (At.below (by first | exact A3.out | exact A3.out.drewN _) hb)
          replace D0 := Aside0.mk (At.below (by first | exact D0.out | exact D0.out.drewN _) hb)
          replace D1 := Aside0.mk (At.below (by first | exact D1.out | exact D1.out.drewN _) hb)
          replace HB := Aside0.mk (bel (by repeat (first | (with_reducible exact HB.out) | apply pw_below_drewN)) hb)
          clear g0 g1 g2' g3 g4 g5 g6 hz1 hz3 hy0 hy1 hb
          generalize wr.alloc (.cells #[.int .i64 b0, .int .i64 b1, .int .i64 b2, .int .i64 b3, .int .i64 b4, .int .i64 b5, .slice A6 rs.length c6] 82) = W3 at *
          generalize wr.heap.size = g3 at *
          clear wr
          have hx0 := (blk_cell B3.out 0).trans rfl
          have hx1 := (blk_cell B3.out 1).trans rfl
          have hx2 := (blk_cell B3.out 2).trans rfl
          have hx3 := (blk_cell B3.out 3).trans rfl
          have hx4 := (blk_cell B3.out 4).trans rfl
          have hx5 := (blk_cell B3.out 5).trans rfl
          have hx6 := (blk_cell B3.out 6).trans rfl
          have hy0 := D0.out.2
          have hy1 := D1.out.2
          have hz1 := A1.out.2
          have hz3 := A3.out.2
          cases hr : batchB ⟨b0, b1, b2, b3, b4, b5, rs⟩
          case false =>
            have HF := Aside0.mk (HR.out.trans (HX.out.trans (show _ = false by rw [hr]; rfl)))
            (go_wp2_with ((first | (go_at_call 90; refine (spec_bat b0 b1 b2 b3 b4 b5 _ _ rs false _ hr (Kd.C_below HJ.out (by repeat (first | (with_reducible exact HB.out) | apply pw_below_drewN))) hl6 HS6.out).mono ?_) | (go_at_call 91; refine (spec_last b0 b1 b2 b3 b4 b5 _ _ rs _ hr (Kd.C_below HJ.out (by repeat (first | (with_reducible exact HB.out) | apply pw_below_drewN))) hl6 HS6.out).mono ?_)); rintro e w' ⟨rfl, hb⟩; replace A1 := Aside0.mk (At.below (by first | exact A1.out | exact A1.out.drewN _) hb); replace A3 := Aside0.mk (At.below (by first | exact A3.out | exact A3.out.drewN _) hb); replace D0 := Aside0.mk (At.below (by first | exact D0.out | exact D0.out.drewN _) hb); replace D1 := Aside0.mk (At.below (by first | exact D1.out | exact D1.out.drewN _) hb); replace B3 := Aside0.mk (blk_below (show _ = some _ from (by (with_reducible repeat (first | refine blk_drewN ?_ _ | refine blk_drew ?_)); exact B3.out)) hb); replace HB := Aside0.mk (bel (by repeat (first | (with_reducible exact HB.out) | apply pw_below_drewN)) hb); clear hb hx0 hx1 hx2 hx3 hx4 hx5 hx6; have hx0 := (blk_cell B3.out 0).trans rfl; have hx1 := (blk_cell B3.out 1).trans rfl; have hx2 := (blk_cell B3.out 2).trans rfl; have hx3 := (blk_cell B3.out 3).trans rfl; have hx4 := (blk_cell B3.out 4).trans rfl; have hx5 := (blk_cell B3.out 5).trans rfl; have hx6 := (blk_cell B3.out 6).trans rfl; have hy0 := D0.out.2; have hy1 := D1.out.2; have hz1 := A1.out.2; have hz3 := A3.out.2))
            go_ret; exact ⟨by rw [HF.out]; try rfl, by repeat (first | (with_reducible exact HB.out) | apply pw_below_drewN)⟩
          obtain ⟨u1, u2, u3, m1, m2, m3⟩ : ∃ u1 u2 u3 : Bool, decide (b0 ≤ l) = u1 ∧ decide (b0 < base) = u2 ∧ decide (b1 < e) = u3 := ⟨_, _, _, rfl, rfl, rfl⟩
          replace HX : Aside0 (R = (!u1 && !u2 && !u3 && restB next base (n + bs.length) (x.drop (j + 1)) (b0 + rs.length - 1) b1 (bs.drop (k + 1)))) := ⟨by rw [HX.out, hr, ← m1, ← m2, ← m3]; simp; rfl⟩
          cases u1
          case true =>
            have HF := Aside0.mk (HR.out.trans (HX.out.trans (show _ = false by rfl)))
            (go_wp2_with ((first | (go_at_call 90; refine (spec_bat b0 b1 b2 b3 b4 b5 _ _ rs true _ hr (Kd.C_below HJ.out (by repeat (first | (with_reducible exact HB.out) | apply pw_below_drewN))) hl6 HS6.out).mono ?_) | (go_at_call 91; refine (spec_last b0 b1 b2 b3 b4 b5 _ _ rs _ hr (Kd.C_below HJ.out (by repeat (first | (with_reducible exact HB.out) | apply pw_below_drewN))) hl6 HS6.out).mono ?_)); rintro e w' ⟨rfl, hb⟩; replace A1 := Aside0.mk (At.below (by first | exact A1.out | exact A1.out.drewN _) hb); replace A3 := Aside0.mk (At.below (by first | exact A3.out | exact A3.out.drewN _) hb); replace D0 := Aside0.mk (At.below (by first | exact D0.out | exact D0.out.drewN _) hb); replace D1 := Aside0.mk (At.below (by first | exact D1.out | exact D1.out.drewN _) hb); replace B3 := Aside0.mk (blk_below (show _ = some _ from (by (with_reducible repeat (first | refine blk_drewN ?_ _ | refine blk_drew ?_)); exact B3.out)) hb); replace HB := Aside0.mk (bel (by repeat (first | (with_reducible exact HB.out) | apply pw_below_drewN)) hb); clear hb hx0 hx1 hx2 hx3 hx4 hx5 hx6; have hx0 := (blk_cell B3.out 0).trans rfl; have hx1 := (blk_cell B3.out 1).trans rfl; have hx2 := (blk_cell B3.out 2).trans rfl; have hx3 := (blk_cell B3.out 3).trans rfl; have hx4 := (blk_cell B3.out 4).trans rfl; have hx5 := (blk_cell B3.out 5).trans rfl; have hx6 := (blk_cell B3.out 6).trans rfl; have hy0 := D0.out.2; have hy1 := D1.out.2; have hz1 := A1.out.2; have hz3 := A3.out.2))
            go_ret; exact ⟨by rw [HF.out]; try rfl, by repeat (first | (with_reducible exact HB.out) | apply pw_below_drewN)⟩
          cases u2
          case true =>
            have HF := Aside0.mk (HR.out.trans (HX.out.trans (show _ = false by rfl)))
            (go_wp2_with ((first | (go_at_call 90; refine (spec_bat b0 b1 b2 b3 b4 b5 _ _ rs true _ hr (Kd.C_below HJ.out (by repeat (first | (with_reducible exact HB.out) | apply pw_below_drewN))) hl6 HS6.out).mono ?_) | (go_at_call 91; refine (spec_last b0 b1 b2 b3 b4 b5 _ _ rs _ hr (Kd.C_below HJ.out (by repeat (first | (with_reducible exact HB.out) | apply pw_below_drewN))) hl6 HS6.out).mono ?_)); rintro e w' ⟨rfl, hb⟩; replace A1 := Aside0.mk (At.below (by first | exact A1.out | exact A1.out.drewN _) hb); replace A3 := Aside0.mk (At.below (by first | exact A3.out | exact A3.out.drewN _) hb); replace D0 := Aside0.mk (At.below (by first | exact D0.out | exact D0.out.drewN _) hb); replace D1 := Aside0.mk (At.below (by first | exact D1.out | exact D1.out.drewN _) hb); replace B3 := Aside0.mk (blk_below (show _ = some _ from (by (with_reducible repeat (first | refine blk_drewN ?_ _ | refine blk_drew ?_)); exact B3.out)) hb); replace HB := Aside0.mk (bel (by repeat (first | (with_reducible exact HB.out) | apply pw_below_drewN)) hb); clear hb hx0 hx1 hx2 hx3 hx4 hx5 hx6; have hx0 := (blk_cell B3.out 0).trans rfl; have hx1 := (blk_cell B3.out 1).trans rfl; have hx2 := (blk_cell B3.out 2).trans rfl; have hx3 := (blk_cell B3.out 3).trans rfl; have hx4 := (blk_cell B3.out 4).trans rfl; have hx5 := (blk_cell B3.out 5).trans rfl; have hx6 := (blk_cell B3.out 6).trans rfl; have hy0 := D0.out.2; have hy1 := D1.out.2; have hz1 := A1.out.2; have hz3 := A3.out.2))
            go_ret; exact ⟨by rw [HF.out]; try rfl, by repeat (first | (with_reducible exact HB.out) | apply pw_below_drewN)⟩
          cases u3
          case true =>
            have HF := Aside0.mk (HR.out.trans (HX.out.trans (show _ = false by rfl)))
            (go_wp2_with ((first | (go_at_call 90; refine (spec_bat b0 b1 b2 b3 b4 b5 _ _ rs true _ hr (Kd.C_below HJ.out (by repeat (first | (with_reducible exact HB.out) | apply pw_below_drewN))) hl6 HS6.out).mono ?_) | (go_at_call 91; refine (spec_last b0 b1 b2 b3 b4 b5 _ _ rs _ hr (Kd.C_below HJ.out (by repeat (first | (with_reducible exact HB.out) | apply pw_below_drewN))) hl6 HS6.out).mono ?_)); rintro e w' ⟨rfl, hb⟩; replace A1 := Aside0.mk (At.below (by first | exact A1.out | exact A1.out.drewN _) hb); replace A3 := Aside0.mk (At.below (by first | exact A3.out | exact A3.out.drewN _) hb); replace D0 := Aside0.mk (At.below (by first | exact D0.out | exact D0.out.drewN _) hb); replace D1 := Aside0.mk (At.below (by first | exact D1.out | exact D1.out.drewN _) hb); replace B3 := Aside0.mk (blk_below (show _ = some _ from (by (with_reducible repeat (first | refine blk_drewN ?_ _ | refine blk_drew ?_)); exact B3.out)) hb); replace HB := Aside0.mk (bel (by repeat (first | (with_reducible exact HB.out) | apply pw_below_drewN)) hb); clear hb hx0 hx1 hx2 hx3 hx4 hx5 hx6; have hx0 := (blk_cell B3.out 0).trans rfl; have hx1 := (blk_cell B3.out 1).trans rfl; have hx2 := (blk_cell B3.out 2).trans rfl; have hx3 := (blk_cell B3.out 3).trans rfl; have hx4 := (blk_cell B3.out 4).trans rfl; have hx5 := (blk_cell B3.out 5).trans rfl; have hx6 := (blk_cell B3.out 6).trans rfl; have hy0 := D0.out.2; have hy1 := D1.out.2; have hz1 := A1.out.2; have hz3 := A3.out.2))
            go_ret; exact ⟨by rw [HF.out]; try rfl, by repeat (first | (with_reducible exact HB.out) | apply pw_below_drewN)⟩
          go_wp2_with ((first | (go_at_call 90; refine (spec_bat b0 b1 b2 b3 b4 b5 _ _ rs true _ hr (Kd.C_below HJ.out (by repeat (first | (with_reducible exact HB.out) | apply pw_below_drewN))) hl6 HS6.out).mono ?_) | (go_at_call 91; refine (spec_last b0 b1 b2 b3 b4 b5 _ _ rs _ hr (Kd.C_below HJ.out (by repeat (first | (with_reducible exact HB.out) | apply pw_below_drewN))) hl6 HS6.out).mono ?_)); rintro e w' ⟨rfl, hb⟩; replace A1 := Aside0.mk (At.below (by first | exact A1.out | exact A1.out.drewN _) hb); replace A3 := Aside0.mk (At.below (by first | exact A3.out | exact A3.out.drewN _) hb); replace D0 := Aside0.mk (At.below (by first | exact D0.out | exact D0.out.drewN _) hb); replace D1 := Aside0.mk (At.below (by first | exact D1.out | exact D1.out.drewN _) hb); replace B3 := Aside0.mk (blk_below (show _ = some _ from (by (with_reducible repeat (first | refine blk_drewN ?_ _ | refine blk_drew ?_)); exact B3.out)) hb); replace HB := Aside0.mk (bel (by repeat (first | (with_reducible exact HB.out) | apply pw_below_drewN)) hb); clear hb hx0 hx1 hx2 hx3 hx4 hx5 hx6; have hx0 := (blk_cell B3.out 0).trans rfl; have hx1 := (blk_cell B3.out 1).trans rfl; have hx2 := (blk_cell B3.out 2).trans rfl; have hx3 := (blk_cell B3.out 3).trans rfl; have hx4 := (blk_cell B3.out 4).trans rfl; have hx5 := (blk_cell B3.out 5).trans rfl; have hx6 := (blk_cell B3.out 6).trans rfl; have hy0 := D0.out.2; have hy1 := D1.out.2; have hz1 := A1.out.2; have hz3 := A3.out.2)
          go_roundg (bs.length - k)
          case measure => omega
          case rel => exact ⟨k + 1, b0 + rs.length - 1, b1, ⟨by omega, by omega⟩, rfl, rfl, by go_num, by go_num, ⟨HX.out.symm.trans (by simp)⟩, ⟨by first | exact A1.out | exact A1.out.drewN _⟩, ⟨by first | exact A3.out | exact A3.out.drewN _⟩, ⟨by first | exact D0.out | exact D0.out.drewN _⟩, ⟨by first | exact D1.out | exact D1.out.drewN _⟩, ⟨by repeat (first | (with_reducible exact HB.out) | apply pw_below_drewN)⟩⟩
end Go.Proofs.Ytoacdmohgohpdaa.LogK
