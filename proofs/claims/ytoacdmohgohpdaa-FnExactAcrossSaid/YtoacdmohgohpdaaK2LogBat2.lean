/- The program's BatchOk, called: what it tells is 'batchB'. -/
import Derived.Test.YtoacdmohgohpdaaK2LogBat
namespace Go.Proofs.Ytoacdmohgohpdaa.LogK
open Go.RowKit Go.Proofs.YtoacdmohgohpdaaW.PrintWords Go.Proofs.YtoacdmohgohpdaaW.PrintLast Go.Proofs.YtoacdmohgohpdaaW.PrintMore Go.Proofs.Ytoacdmohgohpdaa.QFnExactBehind
theorem impl_recs (A : Option Addr) (c : Nat) (rs : List Rec) (r : Bool) (w : World) (h : rs.all recordB = r) (hC : k158.C w A rs.length rs) (hc : rs.length ≤ c) (hs : smR rs) :
    Calls Try.prog 119 #[.slice A rs.length c] w fun e w' => e = .returned (.bool r) ∧ Below w.heap.size w w' := by
  subst h
  exact impl_records A c rs w hC hc hs
set_option maxHeartbeats 3200000 in
set_option maxRecDepth 100000 in
theorem impl_batch (b0 b1 b2 b3 b4 b5 : Int) (A : Option Addr) (c : Nat) (rs : List Rec) (w : World) (hC : k158.C w A rs.length rs) (hcc : rs.length ≤ c) (hs : smR rs) :
    Calls Try.prog 92 #[.agg #[.int .i64 b0, .int .i64 b1, .int .i64 b2, .int .i64 b3, .int .i64 b4, .int .i64 b5, .slice A rs.length c]] w fun e w' => e = .returned (.bool (batchB ⟨b0, b1, b2, b3, b4, b5, rs⟩)) ∧ Below w.heap.size w w' := by
  have HC := Aside0.mk hC
  have HS := Aside0.mk hs
  have hl := hs.1
  clear hC hs
  obtain ⟨i0, i1, i2, i3, i4, i5, h0, h1, h2, h3, h4, h5⟩ : ∃ i0 i1 i2 i3 i4 i5 : Bool, decide (0 ≤ b0 ∧ b0 ≤ 1000000000) = i0 ∧ decide (0 ≤ b1 ∧ b1 ≤ 1000000) = i1 ∧ decide (-1 ≤ b2 ∧ b2 ≤ 1000000000) = i2 ∧ decide (0 ≤ b3 ∧ b3 ≤ 1000) = i3 ∧ decide (0 ≤ b4 ∧ b4 ≤ 1000000000) = i4 ∧ decide (0 ≤ b5 ∧ b5 ≤ 7) = i5 := ⟨_, _, _, _, _, _, rfl, rfl, rfl, rfl, rfl, rfl⟩
  obtain ⟨ng, z3, z4, op, mk, n1, e1, e2, l1, k1, k2, k3, k4, k5, k6, k7, k8, k9⟩ : ∃ ng z3 z4 op mk n1 e1 e2 l1 : Bool, decide (b2 < 0) = ng ∧ (b3 == 0) = z3 ∧ (b4 == 0) = z4 ∧ openB b5 = op ∧ decide (4 ≤ b5) = mk ∧ decide (1 ≤ (rs.length : Int) ∧ (rs.length : Int) ≤ 40) = n1 ∧ decide (b0 + rs.length - 1 ≤ 1000000000) = e1 ∧ decide (b4 + rs.length - 1 ≤ 1000000000) = e2 ∧ decide (rs.length = 1) = l1 := ⟨_, _, _, _, _, _, _, _, _, rfl, rfl, rfl, rfl, rfl, rfl, rfl, rfl, rfl⟩
  obtain ⟨ra, hra⟩ : ∃ ra : Bool, rs.all recordB = ra := ⟨_, rfl⟩
  obtain ⟨p, q, hp, hq⟩ : ∃ p q : Bool, p = (!i0 || !i1 || !i2 || !i3 || !i4 || !i5 || !n1 || !ra) ∧ q = (!e1 || !e2 || (ng && (!z3 || !z4 || op))) := ⟨_, _, rfl, rfl⟩
  have HR : Aside0 (batchB ⟨b0, b1, b2, b3, b4, b5, rs⟩ = (!p && !q && (!mk || (op && (l1 && markB (rs.getD 0 z158)))))) := ⟨by
    have e3 : (b3 != 0) = !z3 := by rw [← k2]; rfl
    have e4 : (b4 != 0) = !z4 := by rw [← k3]; rfl
    unfold batchB; simp only [h0, h1, h2, h3, h4, h5, k1, e3, e4, k4, k5, k6, k7, k8, k9, hp, hq, hra]
    generalize markB _ = M
    cases i0 <;> cases i1 <;> cases i2 <;> cases i3 <;> cases i4 <;> cases i5 <;> (try rfl) <;> simp <;> cases n1 <;> cases ra <;> cases e1 <;> cases e2 <;> (try rfl) <;> simp <;> cases ng <;> cases z3 <;> cases z4 <;> cases op <;> cases mk <;> simp⟩
  replace hp := Aside0.mk hp
  replace hq := Aside0.mk hq
  replace k9 := Aside0.mk k9
  go_enter Try.func92, Try.ntmps92
  go_upto_region 1 with (fail)
  have BK := Aside0.mk (blk_new w (.cells #[.int .i64 b0, .int .i64 b1, .int .i64 b2, .int .i64 b3, .int .i64 b4, .int .i64 b5, .slice A rs.length c] 82))
  have HB := Aside0.mk (bel_alloc w (.cells #[.int .i64 b0, .int .i64 b1, .int .i64 b2, .int .i64 b3, .int .i64 b4, .int .i64 b5, .slice A rs.length c] 82))
  obtain ⟨g, hgg⟩ : ∃ g, g = w.heap.size := ⟨_, rfl⟩
  rw [← hgg] at BK
  simp only [← hgg]
  clear hgg
  generalize w.alloc (.cells #[.int .i64 b0, .int .i64 b1, .int .i64 b2, .int .i64 b3, .int .i64 b4, .int .i64 b5, .slice A rs.length c] 82) = W at *
  have hz0 := (blk_cell BK.out 0).trans rfl
  have hz1 := (blk_cell BK.out 1).trans rfl
  have hz2 := (blk_cell BK.out 2).trans rfl
  have hz3 := (blk_cell BK.out 3).trans rfl
  have hz4 := (blk_cell BK.out 4).trans rfl
  have hz5 := (blk_cell BK.out 5).trans rfl
  have hz6 := (blk_cell BK.out 6).trans rfl
  have hfz0 := blk_frozen BK.out 0
  have hfz1 := blk_frozen BK.out 1
  have hfz2 := blk_frozen BK.out 2
  have hfz3 := blk_frozen BK.out 3
  have hfz4 := blk_frozen BK.out 4
  have hfz5 := blk_frozen BK.out 5
  have hfz6 := blk_frozen BK.out 6
  go_upto_region 2 with (fail)
  go_cut [52] (fun v52 wc => v52 = .bool p ∧ Aside0 (wc.heap[g]? = some (.cells #[.int .i64 b0, .int .i64 b1, .int .i64 b2, .int .i64 b3, .int .i64 b4, .int .i64 b5, .slice A rs.length c] 82 (0, 0))) ∧ Aside0 (Below w.heap.size w wc))
  case first =>
    cases i0
    case false => ((go_wp2_with (first | (go_at_call 63; refine (call_within _ _ _ _ _ (by first | exact h0 | exact h1 | exact h2 | exact h3 | exact h4 | exact h5 | exact k6 | exact k7d | exact k8d)).mono ?_; rintro e w' ⟨rfl, ⟨_, rfl⟩⟩) | (go_at_call 62; refine (call_offset _ _ _ (by first | exact h0 | exact h1 | exact h2 | exact h3 | exact h4 | exact h5 | exact k6 | exact k7d | exact k8d)).mono ?_; rintro e w' ⟨rfl, ⟨_, rfl⟩⟩) | (go_at_call 119; refine (impl_recs _ _ _ _ _ hra (Kd.C_below HC.out (by repeat (first | (with_reducible exact HB.out) | apply pw_below_drewN))) hcc HS.out).mono ?_; rintro e w' ⟨rfl, hb⟩; replace BK := Aside0.mk (blk_below (show _ = some _ from (by (with_reducible repeat (first | refine blk_drewN ?_ _ | refine blk_drew ?_)); exact BK.out)) hb); replace HB := Aside0.mk (bel (by repeat (first | (with_reducible exact HB.out) | apply pw_below_drewN)) hb); clear hb))); go_meet; (case rel => exact ⟨by rw [hp.out]; simp, ⟨by (with_reducible repeat (first | refine blk_drewN ?_ _ | refine blk_drew ?_)); exact BK.out⟩, ⟨by repeat (first | (with_reducible exact HB.out) | apply pw_below_drewN)⟩⟩))
    cases i1
    case false => ((go_wp2_with (first | (go_at_call 63; refine (call_within _ _ _ _ _ (by first | exact h0 | exact h1 | exact h2 | exact h3 | exact h4 | exact h5 | exact k6 | exact k7d | exact k8d)).mono ?_; rintro e w' ⟨rfl, ⟨_, rfl⟩⟩) | (go_at_call 62; refine (call_offset _ _ _ (by first | exact h0 | exact h1 | exact h2 | exact h3 | exact h4 | exact h5 | exact k6 | exact k7d | exact k8d)).mono ?_; rintro e w' ⟨rfl, ⟨_, rfl⟩⟩) | (go_at_call 119; refine (impl_recs _ _ _ _ _ hra (Kd.C_below HC.out (by repeat (first | (with_reducible exact HB.out) | apply pw_below_drewN))) hcc HS.out).mono ?_; rintro e w' ⟨rfl, hb⟩; replace BK := Aside0.mk (blk_below (show _ = some _ from (by (with_reducible repeat (first | refine blk_drewN ?_ _ | refine blk_drew ?_)); exact BK.out)) hb); replace HB := Aside0.mk (bel (by repeat (first | (with_reducible exact HB.out) | apply pw_below_drewN)) hb); clear hb))); go_meet; (case rel => exact ⟨by rw [hp.out]; simp, ⟨by (with_reducible repeat (first | refine blk_drewN ?_ _ | refine blk_drew ?_)); exact BK.out⟩, ⟨by repeat (first | (with_reducible exact HB.out) | apply pw_below_drewN)⟩⟩))
    cases i2
    case false => ((go_wp2_with (first | (go_at_call 63; refine (call_within _ _ _ _ _ (by first | exact h0 | exact h1 | exact h2 | exact h3 | exact h4 | exact h5 | exact k6 | exact k7d | exact k8d)).mono ?_; rintro e w' ⟨rfl, ⟨_, rfl⟩⟩) | (go_at_call 62; refine (call_offset _ _ _ (by first | exact h0 | exact h1 | exact h2 | exact h3 | exact h4 | exact h5 | exact k6 | exact k7d | exact k8d)).mono ?_; rintro e w' ⟨rfl, ⟨_, rfl⟩⟩) | (go_at_call 119; refine (impl_recs _ _ _ _ _ hra (Kd.C_below HC.out (by repeat (first | (with_reducible exact HB.out) | apply pw_below_drewN))) hcc HS.out).mono ?_; rintro e w' ⟨rfl, hb⟩; replace BK := Aside0.mk (blk_below (show _ = some _ from (by (with_reducible repeat (first | refine blk_drewN ?_ _ | refine blk_drew ?_)); exact BK.out)) hb); replace HB := Aside0.mk (bel (by repeat (first | (with_reducible exact HB.out) | apply pw_below_drewN)) hb); clear hb))); go_meet; (case rel => exact ⟨by rw [hp.out]; simp, ⟨by (with_reducible repeat (first | refine blk_drewN ?_ _ | refine blk_drew ?_)); exact BK.out⟩, ⟨by repeat (first | (with_reducible exact HB.out) | apply pw_below_drewN)⟩⟩))
    cases i3
    case false => ((go_wp2_with (first | (go_at_call 63; refine (call_within _ _ _ _ _ (by first | exact h0 | exact h1 | exact h2 | exact h3 | exact h4 | exact h5 | exact k6 | exact k7d | exact k8d)).mono ?_; rintro e w' ⟨rfl, ⟨_, rfl⟩⟩) | (go_at_call 62; refine (call_offset _ _ _ (by first | exact h0 | exact h1 | exact h2 | exact h3 | exact h4 | exact h5 | exact k6 | exact k7d | exact k8d)).mono ?_; rintro e w' ⟨rfl, ⟨_, rfl⟩⟩) | (go_at_call 119; refine (impl_recs _ _ _ _ _ hra (Kd.C_below HC.out (by repeat (first | (with_reducible exact HB.out) | apply pw_below_drewN))) hcc HS.out).mono ?_; rintro e w' ⟨rfl, hb⟩; replace BK := Aside0.mk (blk_below (show _ = some _ from (by (with_reducible repeat (first | refine blk_drewN ?_ _ | refine blk_drew ?_)); exact BK.out)) hb); replace HB := Aside0.mk (bel (by repeat (first | (with_reducible exact HB.out) | apply pw_below_drewN)) hb); clear hb))); go_meet; (case rel => exact ⟨by rw [hp.out]; simp, ⟨by (with_reducible repeat (first | refine blk_drewN ?_ _ | refine blk_drew ?_)); exact BK.out⟩, ⟨by repeat (first | (with_reducible exact HB.out) | apply pw_below_drewN)⟩⟩))
    cases i4
    case false => ((go_wp2_with (first | (go_at_call 63; refine (call_within _ _ _ _ _ (by first | exact h0 | exact h1 | exact h2 | exact h3 | exact h4 | exact h5 | exact k6 | exact k7d | exact k8d)).mono ?_; rintro e w' ⟨rfl, ⟨_, rfl⟩⟩) | (go_at_call 62; refine (call_offset _ _ _ (by first | exact h0 | exact h1 | exact h2 | exact h3 | exact h4 | exact h5 | exact k6 | exact k7d | exact k8d)).mono ?_; rintro e w' ⟨rfl, ⟨_, rfl⟩⟩) | (go_at_call 119; refine (impl_recs _ _ _ _ _ hra (Kd.C_below HC.out (by repeat (first | (with_reducible exact HB.out) | apply pw_below_drewN))) hcc HS.out).mono ?_; rintro e w' ⟨rfl, hb⟩; replace BK := Aside0.mk (blk_below (show _ = some _ from (by (with_reducible repeat (first | refine blk_drewN ?_ _ | refine blk_drew ?_)); exact BK.out)) hb); replace HB := Aside0.mk (bel (by repeat (first | (with_reducible exact HB.out) | apply pw_below_drewN)) hb); clear hb))); go_meet; (case rel => exact ⟨by rw [hp.out]; simp, ⟨by (with_reducible repeat (first | refine blk_drewN ?_ _ | refine blk_drew ?_)); exact BK.out⟩, ⟨by repeat (first | (with_reducible exact HB.out) | apply pw_below_drewN)⟩⟩))
    cases i5
    case false => ((go_wp2_with (first | (go_at_call 63; refine (call_within _ _ _ _ _ (by first | exact h0 | exact h1 | exact h2 | exact h3 | exact h4 | exact h5 | exact k6 | exact k7d | exact k8d)).mono ?_; rintro e w' ⟨rfl, ⟨_, rfl⟩⟩) | (go_at_call 62; refine (call_offset _ _ _ (by first | exact h0 | exact h1 | exact h2 | exact h3 | exact h4 | exact h5 | exact k6 | exact k7d | exact k8d)).mono ?_; rintro e w' ⟨rfl, ⟨_, rfl⟩⟩) | (go_at_call 119; refine (impl_recs _ _ _ _ _ hra (Kd.C_below HC.out (by repeat (first | (with_reducible exact HB.out) | apply pw_below_drewN))) hcc HS.out).mono ?_; rintro e w' ⟨rfl, hb⟩; replace BK := Aside0.mk (blk_below (show _ = some _ from (by (with_reducible repeat (first | refine blk_drewN ?_ _ | refine blk_drew ?_)); exact BK.out)) hb); replace HB := Aside0.mk (bel (by repeat (first | (with_reducible exact HB.out) | apply pw_below_drewN)) hb); clear hb))); go_meet; (case rel => exact ⟨by rw [hp.out]; simp, ⟨by (with_reducible repeat (first | refine blk_drewN ?_ _ | refine blk_drew ?_)); exact BK.out⟩, ⟨by repeat (first | (with_reducible exact HB.out) | apply pw_below_drewN)⟩⟩))
    cases n1
    case false => ((go_wp2_with (first | (go_at_call 63; refine (call_within _ _ _ _ _ (by first | exact h0 | exact h1 | exact h2 | exact h3 | exact h4 | exact h5 | exact k6 | exact k7d | exact k8d)).mono ?_; rintro e w' ⟨rfl, ⟨_, rfl⟩⟩) | (go_at_call 62; refine (call_offset _ _ _ (by first | exact h0 | exact h1 | exact h2 | exact h3 | exact h4 | exact h5 | exact k6 | exact k7d | exact k8d)).mono ?_; rintro e w' ⟨rfl, ⟨_, rfl⟩⟩) | (go_at_call 119; refine (impl_recs _ _ _ _ _ hra (Kd.C_below HC.out (by repeat (first | (with_reducible exact HB.out) | apply pw_below_drewN))) hcc HS.out).mono ?_; rintro e w' ⟨rfl, hb⟩; replace BK := Aside0.mk (blk_below (show _ = some _ from (by (with_reducible repeat (first | refine blk_drewN ?_ _ | refine blk_drew ?_)); exact BK.out)) hb); replace HB := Aside0.mk (bel (by repeat (first | (with_reducible exact HB.out) | apply pw_below_drewN)) hb); clear hb))); go_meet; (case rel => exact ⟨by rw [hp.out]; simp, ⟨by (with_reducible repeat (first | refine blk_drewN ?_ _ | refine blk_drew ?_)); exact BK.out⟩, ⟨by repeat (first | (with_reducible exact HB.out) | apply pw_below_drewN)⟩⟩))
    cases ra
    case false => ((go_wp2_with (first | (go_at_call 63; refine (call_within _ _ _ _ _ (by first | exact h0 | exact h1 | exact h2 | exact h3 | exact h4 | exact h5 | exact k6 | exact k7d | exact k8d)).mono ?_; rintro e w' ⟨rfl, ⟨_, rfl⟩⟩) | (go_at_call 62; refine (call_offset _ _ _ (by first | exact h0 | exact h1 | exact h2 | exact h3 | exact h4 | exact h5 | exact k6 | exact k7d | exact k8d)).mono ?_; rintro e w' ⟨rfl, ⟨_, rfl⟩⟩) | (go_at_call 119; refine (impl_recs _ _ _ _ _ hra (Kd.C_below HC.out (by repeat (first | (with_reducible exact HB.out) | apply pw_below_drewN))) hcc HS.out).mono ?_; rintro e w' ⟨rfl, hb⟩; replace BK := Aside0.mk (blk_below (show _ = some _ from (by (with_reducible repeat (first | refine blk_drewN ?_ _ | refine blk_drew ?_)); exact BK.out)) hb); replace HB := Aside0.mk (bel (by repeat (first | (with_reducible exact HB.out) | apply pw_below_drewN)) hb); clear hb))); go_meet; (case rel => exact ⟨by rw [hp.out]; simp, ⟨by (with_reducible repeat (first | refine blk_drewN ?_ _ | refine blk_drew ?_)); exact BK.out⟩, ⟨by repeat (first | (with_reducible exact HB.out) | apply pw_below_drewN)⟩⟩))
    ((go_wp2_with (first | (go_at_call 63; refine (call_within _ _ _ _ _ (by first | exact h0 | exact h1 | exact h2 | exact h3 | exact h4 | exact h5 | exact k6 | exact k7d | exact k8d)).mono ?_; rintro e w' ⟨rfl, ⟨_, rfl⟩⟩) | (go_at_call 62; refine (call_offset _ _ _ (by first | exact h0 | exact h1 | exact h2 | exact h3 | exact h4 | exact h5 | exact k6 | exact k7d | exact k8d)).mono ?_; rintro e w' ⟨rfl, ⟨_, rfl⟩⟩) | (go_at_call 119; refine (impl_recs _ _ _ _ _ hra (Kd.C_below HC.out (by repeat (first | (with_reducible exact HB.out) | apply pw_below_drewN))) hcc HS.out).mono ?_; rintro e w' ⟨rfl, hb⟩; replace BK := Aside0.mk (blk_below (show _ = some _ from (by (with_reducible repeat (first | refine blk_drewN ?_ _ | refine blk_drew ?_)); exact BK.out)) hb); replace HB := Aside0.mk (bel (by repeat (first | (with_reducible exact HB.out) | apply pw_below_drewN)) hb); clear hb))); go_meet; (case rel => exact ⟨by rw [hp.out]; simp, ⟨by (with_reducible repeat (first | refine blk_drewN ?_ _ | refine blk_drew ?_)); exact BK.out⟩, ⟨by repeat (first | (with_reducible exact HB.out) | apply pw_below_drewN)⟩⟩))
  case rest =>
    clear hz0 hfz0 hz1 hfz1 hz2 hfz2 hz3 hfz3 hz4 hfz4 hz5 hfz5 hz6 hfz6 BK HB
    obtain ⟨rfl, BK, HB⟩ := hcut
    have hz0 := (blk_cell BK.out 0).trans rfl
    have hz1 := (blk_cell BK.out 1).trans rfl
    have hz2 := (blk_cell BK.out 2).trans rfl
    have hz3 := (blk_cell BK.out 3).trans rfl
    have hz4 := (blk_cell BK.out 4).trans rfl
    have hz5 := (blk_cell BK.out 5).trans rfl
    have hz6 := (blk_cell BK.out 6).trans rfl
    have hfz0 := blk_frozen BK.out 0
    have hfz1 := blk_frozen BK.out 1
    have hfz2 := blk_frozen BK.out 2
    have hfz3 := blk_frozen BK.out 3
    have hfz4 := blk_frozen BK.out 4
    have hfz5 := blk_frozen BK.out 5
    have hfz6 := blk_frozen BK.out 6
    cases p
    case true => (go_wp2; go_ret; exact ⟨by rw [HR.out]; simp, by repeat (first | (with_reducible exact HB.out) | apply pw_below_drewN)⟩)
    obtain ⟨rfl, rfl, rfl, rfl, rfl, rfl, rfl, rfl⟩ : i0 = true ∧ i1 = true ∧ i2 = true ∧ i3 = true ∧ i4 = true ∧ i5 = true ∧ n1 = true ∧ ra = true := by
      have h := hp.out
      cases i0 <;> cases i1 <;> cases i2 <;> cases i3 <;> cases i4 <;> cases i5 <;> cases n1 <;> cases ra <;> simp at h <;> simp
    have hb0 := of_decide_eq_true h0
    have hb4 := of_decide_eq_true h4
    have hb2 := of_decide_eq_true h2
    have hn6 := of_decide_eq_true k6
    have FL := flags b5 (of_decide_eq_true h5)
    rw [k4, k5] at FL
    obtain ⟨f1, f2, f3, f4, f5, f6⟩ := FL
    have k1i : (b2 == -1) = ng := by rw [← k1, Bool.eq_iff_iff]; simp; omega
    have k2i : (b3 != 0) = !z3 := by rw [← k2]; rfl
    have k3i : (b4 != 0) = !z4 := by rw [← k3]; rfl
    have hb01 := hb0.1
    have hb02 := hb0.2
    have hb41 := hb4.1
    have hb42 := hb4.2
    have k7d : decide (0 ≤ b0 + (rs.length : Int) - 1 ∧ b0 + (rs.length : Int) - 1 ≤ 1000000000) = e1 := by rw [← k7, Bool.eq_iff_iff]; simp; omega
    have k8d : decide (0 ≤ b4 + (rs.length : Int) - 1 ∧ b4 + (rs.length : Int) - 1 ≤ 1000000000) = e2 := by rw [← k8, Bool.eq_iff_iff]; simp; omega
    have wr1 : wrap64 (wrap64 (b0 + (rs.length : Int)) - 1) = b0 + (rs.length : Int) - 1 := by unfold wrap64; omega
    have wr2 : wrap64 (wrap64 (b4 + (rs.length : Int)) - 1) = b4 + (rs.length : Int) - 1 := by unfold wrap64; omega
    have hn : 1 ≤ rs.length := by omega
    clear h0 h1 h2 h3 h4 h5 hb0 hb4 hb2 hn6 hp k6 k7 k8 hra f1 f2
    go_upto_region 4 with (fail)
    go_cut [89] (fun v89 wc => v89 = .bool q ∧ Aside0 (wc.heap[g]? = some (.cells #[.int .i64 b0, .int .i64 b1, .int .i64 b2, .int .i64 b3, .int .i64 b4, .int .i64 b5, .slice A rs.length c] 82 (0, 0))) ∧ Aside0 (Below w.heap.size w wc))
    case first =>
      cases e1
      case false => ((go_wp2_with (go_at_call 62; refine (call_offset _ _ _ (by first | exact k7d | exact k8d)).mono ?_; rintro e w' ⟨rfl, ⟨_, rfl⟩⟩)); go_meet; (case rel => exact ⟨by rw [hq.out]; simp, ⟨by (with_reducible repeat (first | refine blk_drewN ?_ _ | refine blk_drew ?_)); exact BK.out⟩, ⟨by repeat (first | (with_reducible exact HB.out) | apply pw_below_drewN)⟩⟩))
      cases e2
      case false => ((go_wp2_with (go_at_call 62; refine (call_offset _ _ _ (by first | exact k7d | exact k8d)).mono ?_; rintro e w' ⟨rfl, ⟨_, rfl⟩⟩)); go_meet; (case rel => exact ⟨by rw [hq.out]; simp, ⟨by (with_reducible repeat (first | refine blk_drewN ?_ _ | refine blk_drew ?_)); exact BK.out⟩, ⟨by repeat (first | (with_reducible exact HB.out) | apply pw_below_drewN)⟩⟩))
      cases ng
      case false => ((go_wp2_with (go_at_call 62; refine (call_offset _ _ _ (by first | exact k7d | exact k8d)).mono ?_; rintro e w' ⟨rfl, ⟨_, rfl⟩⟩)); go_meet; (case rel => exact ⟨by rw [hq.out]; simp, ⟨by (with_reducible repeat (first | refine blk_drewN ?_ _ | refine blk_drew ?_)); exact BK.out⟩, ⟨by repeat (first | (with_reducible exact HB.out) | apply pw_below_drewN)⟩⟩))
      cases z3
      case false => ((go_wp2_with (go_at_call 62; refine (call_offset _ _ _ (by first | exact k7d | exact k8d)).mono ?_; rintro e w' ⟨rfl, ⟨_, rfl⟩⟩)); go_meet; (case rel => exact ⟨by rw [hq.out]; simp, ⟨by (with_reducible repeat (first | refine blk_drewN ?_ _ | refine blk_drew ?_)); exact BK.out⟩, ⟨by repeat (first | (with_reducible exact HB.out) | apply pw_below_drewN)⟩⟩))
      cases z4
      case false => ((go_wp2_with (go_at_call 62; refine (call_offset _ _ _ (by first | exact k7d | exact k8d)).mono ?_; rintro e w' ⟨rfl, ⟨_, rfl⟩⟩)); go_meet; (case rel => exact ⟨by rw [hq.out]; simp, ⟨by (with_reducible repeat (first | refine blk_drewN ?_ _ | refine blk_drew ?_)); exact BK.out⟩, ⟨by repeat (first | (with_reducible exact HB.out) | apply pw_below_drewN)⟩⟩))
      cases op <;> ((go_wp2_with (go_at_call 62; refine (call_offset _ _ _ (by first | exact k7d | exact k8d)).mono ?_; rintro e w' ⟨rfl, ⟨_, rfl⟩⟩)); go_meet; (case rel => exact ⟨by rw [hq.out]; simp, ⟨by (with_reducible repeat (first | refine blk_drewN ?_ _ | refine blk_drew ?_)); exact BK.out⟩, ⟨by repeat (first | (with_reducible exact HB.out) | apply pw_below_drewN)⟩⟩))
    case rest =>
      clear hz0 hfz0 hz1 hfz1 hz2 hfz2 hz3 hfz3 hz4 hfz4 hz5 hfz5 hz6 hfz6 BK HB
      obtain ⟨rfl, BK, HB⟩ := hcut
      have hz0 := (blk_cell BK.out 0).trans rfl
      have hz1 := (blk_cell BK.out 1).trans rfl
      have hz2 := (blk_cell BK.out 2).trans rfl
      have hz3 := (blk_cell BK.out 3).trans rfl
      have hz4 := (blk_cell BK.out 4).trans rfl
      have hz5 := (blk_cell BK.out 5).trans rfl
      have hz6 := (blk_cell BK.out 6).trans rfl
      have hfz0 := blk_frozen BK.out 0
      have hfz1 := blk_frozen BK.out 1
      have hfz2 := blk_frozen BK.out 2
      have hfz3 := blk_frozen BK.out 3
      have hfz4 := blk_frozen BK.out 4
      have hfz5 := blk_frozen BK.out 5
      have hfz6 := blk_frozen BK.out 6
      cases q
      case true => (go_wp2; go_ret; exact ⟨by rw [HR.out]; simp, by repeat (first | (with_reducible exact HB.out) | apply pw_below_drewN)⟩)
      clear k7d k8d wr1 wr2 k1 k1i k2 k3 k2i k3i hq
      have HA : Aside0 (batchB ⟨b0, b1, b2, b3, b4, b5, rs⟩ = (!mk || (op && (l1 && markB (rs.getD 0 z158))))) := ⟨HR.out.trans (by simp)⟩
      cases mk
      case false =>
        have HF := HA
        (go_wp2; go_ret; exact ⟨by rw [HF.out]; simp, by repeat (first | (with_reducible exact HB.out) | apply pw_below_drewN)⟩)
      obtain ⟨ad, A0, c0, e, g0, g1, g2, g3, g4, g5, hl5, hC5⟩ := elemR0 (Kd.C_below HC.out HB.out) (by omega)
      have q0 : (0 < rs.length) = True := eq_true (by omega)
      have q1 : ((0 : Int) < (rs.length : Int)) = True := eq_true (by omega)
      have q2 : decide (0 < (rs.length : Int)) = true := decide_eq_true (by omega)
      have q3 : decide (0 < rs.length) = true := decide_eq_true (by omega)
      cases e
      clear hC5
      go_upto_region 8 with (fail)
      have A5 : Aside0 (At wc g 5 (.int .i64 b5)) := ⟨At.of BK.out rfl⟩
      have B2 := Aside0.mk (blk_new wc (.cells #[.int .i64 rs[0].f0, .bool rs[0].f1, .string rs[0].f2, .bool rs[0].f3, .string rs[0].f4, .slice A0 rs[0].f5.length c0] 158))
      replace A5 := Aside0.mk (A5.out.below (bel_alloc wc (.cells #[.int .i64 rs[0].f0, .bool rs[0].f1, .string rs[0].f2, .bool rs[0].f3, .string rs[0].f4, .slice A0 rs[0].f5.length c0] 158)))
      replace HB := Aside0.mk (bel HB.out (bel_alloc wc (.cells #[.int .i64 rs[0].f0, .bool rs[0].f1, .string rs[0].f2, .bool rs[0].f3, .string rs[0].f4, .slice A0 rs[0].f5.length c0] 158)))
      clear g0 g1 g2 g3 g4 g5 hz0 hfz0 hz1 hfz1 hz2 hfz2 hz3 hfz3 hz4 hfz4 hz5 hfz5 hz6 hfz6 BK
      generalize wc.alloc (.cells #[.int .i64 rs[0].f0, .bool rs[0].f1, .string rs[0].f2, .bool rs[0].f3, .string rs[0].f4, .slice A0 rs[0].f5.length c0] 158) = W2 at *
      generalize wc.heap.size = g2 at *
      have hy0 := (blk_cell B2.out 0).trans rfl
      have hy1 := (blk_cell B2.out 1).trans rfl
      have hy2 := (blk_cell B2.out 2).trans rfl
      have hy3 := (blk_cell B2.out 3).trans rfl
      have hy4 := (blk_cell B2.out 4).trans rfl
      have hy5 := (blk_cell B2.out 5).trans rfl
      have hfy0 := blk_frozen B2.out 0
      have hfy1 := blk_frozen B2.out 1
      have hfy2 := blk_frozen B2.out 2
      have hfy3 := blk_frozen B2.out 3
      have hfy4 := blk_frozen B2.out 4
      have hfy5 := blk_frozen B2.out 5
      have hz5 := A5.out.2
      cases op
      case false =>
        have HF := HA
        (go_wp2; go_ret; exact ⟨by rw [HF.out]; simp, by repeat (first | (with_reducible exact HB.out) | apply pw_below_drewN)⟩)
      replace HA : Aside0 (batchB ⟨b0, b1, b2, b3, b4, b5, rs⟩ = (!true || (l1 && markB (rs.getD 0 z158)))) := ⟨HA.out.trans (by simp)⟩
      obtain ⟨kd, gn, s1, s2, v0, m1, m2, m3, m4, m5⟩ : ∃ kd gn s1 s2 v0 : Bool, rs[0].f1 = kd ∧ rs[0].f3 = gn ∧ (rs[0].f2.toList == ([99, 111, 109, 109, 105, 116] : List UInt8)) = s1 ∧ (rs[0].f2.toList == ([97, 98, 111, 114, 116] : List UInt8)) = s2 ∧ (rs[0].f4.toList == ([] : List UInt8)) = v0 := ⟨_, _, _, _, _, rfl, rfl, rfl, rfl, rfl⟩
      obtain ⟨y0, m6⟩ : ∃ y0 : Bool, ((rs[0].f5.length : Int) == 0) = y0 := ⟨_, rfl⟩
      rw [m1] at hy1
      rw [m2] at hy3
      have HF : Aside0 (batchB ⟨b0, b1, b2, b3, b4, b5, rs⟩ = (l1 && (kd && (s1 || s2) && !gn && v0 && y0))) := ⟨by
        have e5 : decide (rs[0].f5.length = 0) = y0 := by rw [← m6, Bool.eq_iff_iff]; simp
        rw [HA.out]; unfold markB; rw [show rs.getD 0 z158 = rs[0] from by simp [show 0 < rs.length by omega], m1, m2, m3, m4, m5, e5]; simp⟩
      have l1i : ((rs.length : Int) == 1) = l1 := by rw [← k9.out, Bool.eq_iff_iff]; simp; omega
      clear m1 m2
      cases l1
      case false => (go_wp2; go_ret; exact ⟨by rw [HF.out]; simp, by repeat (first | (with_reducible exact HB.out) | apply pw_below_drewN)⟩)
      cases kd
      case false => (go_wp2; go_ret; exact ⟨by rw [HF.out]; simp, by repeat (first | (with_reducible exact HB.out) | apply pw_below_drewN)⟩)
      cases s1
      case true =>
        cases gn
        case true => (go_wp2; go_ret; exact ⟨by rw [HF.out]; simp, by repeat (first | (with_reducible exact HB.out) | apply pw_below_drewN)⟩)
        cases v0
        case false => (go_wp2; go_ret; exact ⟨by rw [HF.out]; simp, by repeat (first | (with_reducible exact HB.out) | apply pw_below_drewN)⟩)
        (go_wp2; go_ret; exact ⟨by rw [HF.out]; simp, by repeat (first | (with_reducible exact HB.out) | apply pw_below_drewN)⟩)
      cases s2
      case false => (go_wp2; go_ret; exact ⟨by rw [HF.out]; simp, by repeat (first | (with_reducible exact HB.out) | apply pw_below_drewN)⟩)
      cases gn
      case true => (go_wp2; go_ret; exact ⟨by rw [HF.out]; simp, by repeat (first | (with_reducible exact HB.out) | apply pw_below_drewN)⟩)
      cases v0
      case false => (go_wp2; go_ret; exact ⟨by rw [HF.out]; simp, by repeat (first | (with_reducible exact HB.out) | apply pw_below_drewN)⟩)
      (go_wp2; go_ret; exact ⟨by rw [HF.out]; simp, by repeat (first | (with_reducible exact HB.out) | apply pw_below_drewN)⟩)
end Go.Proofs.Ytoacdmohgohpdaa.LogK
