/- BatchOk, called: what reference and program tell is 'batchB'. -/
import Derived.Test.YtoacdmohgohpdaaK2LogRec
namespace Go.Proofs.Ytoacdmohgohpdaa.LogK
open Go.RowKit Go.Proofs.YtoacdmohgohpdaaW.PrintWords Go.Proofs.YtoacdmohgohpdaaW.PrintLast Go.Proofs.YtoacdmohgohpdaaW.PrintMore Go.Proofs.Ytoacdmohgohpdaa.QFnExactBehind
theorem spec_rec (x : Rec) (A : Option Addr) (c : Nat) (r : Bool) (w : World) (h : recordB x = r) (hC : k177.C w A x.f5.length x.f5) (hc : x.f5.length ≤ c) (hl : x.f5.length ≤ 1048576) :
    Calls Try.prog 118 #[.agg #[.int .i64 x.f0, .bool x.f1, .string x.f2, .bool x.f3, .string x.f4, .slice A x.f5.length c]] w fun e w' => e = .returned (.bool r) ∧ Below w.heap.size w w' := by
  subst h
  exact spec_record x.f0 x.f1 x.f2 x.f3 x.f4 A c x.f5 w hC hc hl
theorem impl_rec (x : Rec) (A : Option Addr) (c : Nat) (r : Bool) (w : World) (h : recordB x = r) (hC : k177.C w A x.f5.length x.f5) (hc : x.f5.length ≤ c) (hl : x.f5.length ≤ 1048576) :
    Calls Try.prog 137 #[.agg #[.int .i64 x.f0, .bool x.f1, .string x.f2, .bool x.f3, .string x.f4, .slice A x.f5.length c]] w fun e w' => e = .returned (.bool r) ∧ Below w.heap.size w w' := by
  subst h
  exact impl_record x.f0 x.f1 x.f2 x.f3 x.f4 A c x.f5 w hC hc hl
theorem elemR {W : World} {A : Option Addr} {y : List Rec} (h : Kd.C k158 W A y.length y) (j : Nat) (hj : j < y.length) :
    ∃ ad A5 c5, A = some ad ∧ W.cell? (ad.add (j * 6)) = some (.int .i64 y[j].f0) ∧ W.cell? ⟨(ad.add (j * 6)).block, (ad.add (j * 6)).off + 1, none⟩ = some (.bool y[j].f1) ∧ W.cell? ⟨(ad.add (j * 6)).block, (ad.add (j * 6)).off + 2, none⟩ = some (.string y[j].f2) ∧ W.cell? ⟨(ad.add (j * 6)).block, (ad.add (j * 6)).off + 3, none⟩ = some (.bool y[j].f3) ∧ W.cell? ⟨(ad.add (j * 6)).block, (ad.add (j * 6)).off + 4, none⟩ = some (.string y[j].f4) ∧ W.cell? ⟨(ad.add (j * 6)).block, (ad.add (j * 6)).off + 5, none⟩ = some (.slice A5 y[j].f5.length c5) ∧ y[j].f5.length ≤ c5 ∧ k177.C W A5 y[j].f5.length y[j].f5 := by
  obtain ⟨ad, A5, c5, e, h0, h1, h2, h3, h4, h5, hl, hC⟩ := at_T158 h (j : Int) (by omega) (by omega)
  rw [show rd_T158 y (j : Int) = y[j] from by simp [rd_T158, hj]] at h0 h1 h2 h3 h4 h5 hl hC
  exact ⟨ad, A5, c5, e, by simpa using h0, by simpa using h1, by simpa using h2, by simpa using h3, by simpa using h4, by simpa using h5, hl, hC⟩
theorem elemR0 {W : World} {A : Option Addr} {y : List Rec} (h : Kd.C k158 W A y.length y) (hj : 0 < y.length) :
    ∃ ad A5 c5, A = some ad ∧ W.cell? ad = some (.int .i64 y[0].f0) ∧ W.cell? ⟨ad.block, ad.off + 1, none⟩ = some (.bool y[0].f1) ∧ W.cell? ⟨ad.block, ad.off + 2, none⟩ = some (.string y[0].f2) ∧ W.cell? ⟨ad.block, ad.off + 3, none⟩ = some (.bool y[0].f3) ∧ W.cell? ⟨ad.block, ad.off + 4, none⟩ = some (.string y[0].f4) ∧ W.cell? ⟨ad.block, ad.off + 5, none⟩ = some (.slice A5 y[0].f5.length c5) ∧ y[0].f5.length ≤ c5 ∧ k177.C W A5 y[0].f5.length y[0].f5 := by
  have H := elemR h 0 hj
  rw [show (0 * 6 : Nat) = 0 from rfl] at H
  simp only [Addr.add_zero'] at H
  exact H
def smR (l : List Rec) : Prop := l.length ≤ 1048576 ∧ ∀ x ∈ l, x.f5.length ≤ 1048576
set_option maxHeartbeats 1600000 in
theorem impl_records (A : Option Addr) (c : Nat) (rs : List Rec) (w : World) (hC : k158.C w A rs.length rs) (_ : rs.length ≤ c) (hs : smR rs) :
    Calls Try.prog 119 #[.slice A rs.length c] w fun e w' => e = .returned (.bool (rs.all recordB)) ∧ Below w.heap.size w w' := by
  have HC := Aside0.mk hC
  have HS := Aside0.mk hs
  have hl := hs.1
  clear hC hs
  go_enter Try.func119, Try.ntmps119
  go_wp2
  go_loopg [7] (rs.length + 1) (fun kq v7 wr => ∃ j : Nat, (j + kq = rs.length + 1 ∧ j ≤ rs.length) ∧ v7 = .int .i64 (j : Int) ∧ Aside0 ((rs.drop j).all recordB = rs.all recordB) ∧ Aside0 (Below w.heap.size w wr))
  case atStart => exact ⟨0, ⟨by omega, by omega⟩, rfl, ⟨by simp⟩, ⟨by first | exact Below.refl _ _ | exact pw_below_drewN (Below.refl _ _) _⟩⟩
  case round =>
    obtain ⟨j, hj, rfl, HO, HB⟩ := hrel
    by_cases hlt : j < rs.length
    case neg =>
      obtain rfl : j = rs.length := by omega
      have HF := Aside0.mk (HO.out.symm.trans (show _ = true by simp))
      go_wp2
      go_ret
      exact ⟨by rw [HF.out]; try rfl, by repeat (first | (with_reducible exact HB.out) | apply pw_below_drewN)⟩
    obtain ⟨ad, A5, c5, e, g0, g1, g2, g3, g4, g5, hl5, hC5⟩ := elemR (Kd.C_below HC.out HB.out) j hlt
    cases e
    have hs5 := HS.out.2 _ (List.getElem_mem hlt)
    have HJ := Aside0.mk hC5
    clear hC5
    go_upto_region 4 with (fail)
    have B2 := Aside0.mk (blk_new wr (.cells #[.int .i64 rs[j].f0, .bool rs[j].f1, .string rs[j].f2, .bool rs[j].f3, .string rs[j].f4, .slice A5 rs[j].f5.length c5] 158))
    replace HB := Aside0.mk (bel HB.out (bel_alloc wr (.cells #[.int .i64 rs[j].f0, .bool rs[j].f1, .string rs[j].f2, .bool rs[j].f3, .string rs[j].f4, .slice A5 rs[j].f5.length c5] 158)))
    replace HJ := Aside0.mk (Kd.C_below HJ.out (bel_alloc wr (.cells #[.int .i64 rs[j].f0, .bool rs[j].f1, .string rs[j].f2, .bool rs[j].f3, .string rs[j].f4, .slice A5 rs[j].f5.length c5] 158)))
    clear g0 g1 g2 g3 g4 g5
    generalize wr.alloc (.cells #[.int .i64 rs[j].f0, .bool rs[j].f1, .string rs[j].f2, .bool rs[j].f3, .string rs[j].f4, .slice A5 rs[j].f5.length c5] 158) = W2 at *
    generalize wr.heap.size = g at *
    clear wr
    have hy0 := (blk_cell B2.out 0).trans rfl
    have hy1 := (blk_cell B2.out 1).trans rfl
    have hy2 := (blk_cell B2.out 2).trans rfl
    have hy3 := (blk_cell B2.out 3).trans rfl
    have hy4 := (blk_cell B2.out 4).trans rfl
    have hy5 := (blk_cell B2.out 5).trans rfl
    have hfy0 := blk_frozen B2.out 0
    have hfy1 := blk_frozen B2.out 1
    have hfy2 := blk_frozen B2.out 2
    have hfy3 := blk_frozen B2.out 3
    have hfy4 := blk_frozen B2.out 4
    have hfy5 := blk_frozen B2.out 5
    have HX := Aside0.mk (HO.out.symm.trans ((congrArg (List.all · recordB) (List.drop_eq_getElem_cons hlt)).trans List.all_cons))
    cases hr : recordB rs[j]
    case false =>
      have HF := Aside0.mk (HX.out.trans (show _ = false by rw [hr]; rfl))
      (go_wp2_with (go_at_call 137; refine (impl_rec rs[j] _ _ _ _ hr HJ.out hl5 hs5).mono ?_; rintro e w' ⟨rfl, hb⟩; replace HB := Aside0.mk (bel HB.out hb); clear hb)); go_ret; exact ⟨by rw [HF.out]; try rfl, by repeat (first | (with_reducible exact HB.out) | apply pw_below_drewN)⟩
    have HF := Aside0.mk (HX.out.trans (show _ = (rs.drop (j + 1)).all recordB by rw [hr]; rfl))
    go_wp2_with (go_at_call 137; refine (impl_rec rs[j] _ _ _ _ hr HJ.out hl5 hs5).mono ?_; rintro e w' ⟨rfl, hb⟩; replace HB := Aside0.mk (bel HB.out hb); clear hb)
    go_roundg (rs.length - j)
    case measure => omega
    case rel => exact ⟨j + 1, ⟨by omega, by omega⟩, by go_num, ⟨HF.out.symm⟩, ⟨by repeat (first | (with_reducible exact HB.out) | apply pw_below_drewN)⟩⟩
set_option maxHeartbeats 3200000 in
set_option maxRecDepth 100000 in
theorem spec_batch (b0 b1 b2 b3 b4 b5 : Int) (A : Option Addr) (c : Nat) (rs : List Rec) (w : World) (hC : k158.C w A rs.length rs) (_ : rs.length ≤ c) (hs : smR rs) :
    Calls Try.prog 90 #[.agg #[.int .i64 b0, .int .i64 b1, .int .i64 b2, .int .i64 b3, .int .i64 b4, .int .i64 b5, .slice A rs.length c]] w fun e w' => e = .returned (.bool (batchB ⟨b0, b1, b2, b3, b4, b5, rs⟩)) ∧ Below w.heap.size w w' := by
  have HC := Aside0.mk hC
  have HS := Aside0.mk hs
  have hl := hs.1
  clear hC hs
  obtain ⟨i0, i1, i2, i3, i4, i5, h0, h1, h2, h3, h4, h5⟩ : ∃ i0 i1 i2 i3 i4 i5 : Bool, decide (0 ≤ b0 ∧ b0 ≤ 1000000000) = i0 ∧ decide (0 ≤ b1 ∧ b1 ≤ 1000000) = i1 ∧ decide (-1 ≤ b2 ∧ b2 ≤ 1000000000) = i2 ∧ decide (0 ≤ b3 ∧ b3 ≤ 1000) = i3 ∧ decide (0 ≤ b4 ∧ b4 ≤ 1000000000) = i4 ∧ decide (0 ≤ b5 ∧ b5 ≤ 7) = i5 := ⟨_, _, _, _, _, _, rfl, rfl, rfl, rfl, rfl, rfl⟩
  obtain ⟨ng, z3, z4, op, mk, n1, e1, e2, l1, k1, k2, k3, k4, k5, k6, k7, k8, k9⟩ : ∃ ng z3 z4 op mk n1 e1 e2 l1 : Bool, decide (b2 < 0) = ng ∧ (b3 == 0) = z3 ∧ (b4 == 0) = z4 ∧ openB b5 = op ∧ decide (4 ≤ b5) = mk ∧ decide (1 ≤ (rs.length : Int) ∧ (rs.length : Int) ≤ 40) = n1 ∧ decide (b0 + rs.length - 1 ≤ 1000000000) = e1 ∧ decide (b4 + rs.length - 1 ≤ 1000000000) = e2 ∧ decide (rs.length = 1) = l1 := ⟨_, _, _, _, _, _, _, _, _, rfl, rfl, rfl, rfl, rfl, rfl, rfl, rfl, rfl⟩
  obtain ⟨p, q, r, hp, hq, hr⟩ : ∃ p q r : Bool, p = (!i0 || !i1 || !i2 || !i3 || !i4 || !i5) ∧ q = ((ng && (!z3 || !z4 || op)) || (mk && !op)) ∧ r = (!n1 || !e1 || !e2) := ⟨_, _, _, rfl, rfl, rfl⟩
  have HR : Aside0 (batchB ⟨b0, b1, b2, b3, b4, b5, rs⟩ = (!p && !q && !r && rs.all recordB && (!mk || (l1 && markB (rs.getD 0 z158))))) := ⟨by
    have e3 : (b3 != 0) = !z3 := by rw [← k2]; rfl
    have e4 : (b4 != 0) = !z4 := by rw [← k3]; rfl
    unfold batchB; simp only [h0, h1, h2, h3, h4, h5, k1, e3, e4, k4, k5, k6, k7, k8, k9, hp, hq, hr]
    cases i0 <;> cases i1 <;> cases i2 <;> cases i3 <;> cases i4 <;> cases i5 <;> simp [Bool.and_assoc]⟩
  replace hp := Aside0.mk hp
  replace hq := Aside0.mk hq
  replace hr := Aside0.mk hr
  replace k9 := Aside0.mk k9
  go_enter Try.func90, Try.ntmps90
  go_upto_region 1 with (fail)
  have BK := Aside0.mk (blk_new w (.cells #[.int .i64 b0, .int .i64 b1, .int .i64 b2, .int .i64 b3, .int .i64 b4, .int .i64 b5, .slice A rs.length c] 82))
  have HB := Aside0.mk (bel_alloc w (.cells #[.int .i64 b0, .int .i64 b1, .int .i64 b2, .int .i64 b3, .int .i64 b4, .int .i64 b5, .slice A rs.length c] 82))
  obtain ⟨g, hgg⟩ : ∃ g, g = w.heap.size := ⟨_, rfl⟩
  rw [← hgg] at BK
  simp only [← hgg]
  clear hgg
  generalize w.alloc (.cells #[.int .i64 b0, .int .i64 b1, .int .i64 b2, .int .i64 b3, .int .i64 b4, .int .i64 b5, .slice A rs.length c] 82) = W at *
  have hz0 := (blk_cell BK.out 0).trans rfl
  have hz1 := (blk_cell BK.out 1).trans rfl
  have hz2 := (blk_cell BK.out 2).trans rfl
  have hz3 := (blk_cell BK.out 3).trans rfl
  have hz4 := (blk_cell BK.out 4).trans rfl
  have hz5 := (blk_cell BK.out 5).trans rfl
  have hz6 := (blk_cell BK.out 6).trans rfl
  have hfz0 := blk_frozen BK.out 0
  have hfz1 := blk_frozen BK.out 1
  have hfz2 := blk_frozen BK.out 2
  have hfz3 := blk_frozen BK.out 3
  have hfz4 := blk_frozen BK.out 4
  have hfz5 := blk_frozen BK.out 5
  have hfz6 := blk_frozen BK.out 6
  go_cut [38] (fun v38 wc => v38 = .bool p ∧ Aside0 (wc.heap[g]? = some (.cells #[.int .i64 b0, .int .i64 b1, .int .i64 b2, .int .i64 b3, .int .i64 b4, .int .i64 b5, .slice A rs.length c] 82 (0, 0))) ∧ Aside0 (Below w.heap.size w wc))
  case first =>
    cases i0
    case false => ((go_wp2_with (go_at_call 54; refine (call_in _ _ _ _ _ (by first | exact h0 | exact h1 | exact h2 | exact h3 | exact h4 | exact h5 | exact k6)).mono ?_; rintro e w' ⟨rfl, ⟨_, rfl⟩⟩)); go_meet; (case rel => exact ⟨by rw [hp.out]; simp, ⟨by (with_reducible repeat (first | refine blk_drewN ?_ _ | refine blk_drew ?_)); exact BK.out⟩, ⟨by repeat (first | (with_reducible exact HB.out) | apply pw_below_drewN)⟩⟩))
    cases i1
    case false => ((go_wp2_with (go_at_call 54; refine (call_in _ _ _ _ _ (by first | exact h0 | exact h1 | exact h2 | exact h3 | exact h4 | exact h5 | exact k6)).mono ?_; rintro e w' ⟨rfl, ⟨_, rfl⟩⟩)); go_meet; (case rel => exact ⟨by rw [hp.out]; simp, ⟨by (with_reducible repeat (first | refine blk_drewN ?_ _ | refine blk_drew ?_)); exact BK.out⟩, ⟨by repeat (first | (with_reducible exact HB.out) | apply pw_below_drewN)⟩⟩))
    cases i2
    case false => ((go_wp2_with (go_at_call 54; refine (call_in _ _ _ _ _ (by first | exact h0 | exact h1 | exact h2 | exact h3 | exact h4 | exact h5 | exact k6)).mono ?_; rintro e w' ⟨rfl, ⟨_, rfl⟩⟩)); go_meet; (case rel => exact ⟨by rw [hp.out]; simp, ⟨by (with_reducible repeat (first | refine blk_drewN ?_ _ | refine blk_drew ?_)); exact BK.out⟩, ⟨by repeat (first | (with_reducible exact HB.out) | apply pw_below_drewN)⟩⟩))
    cases i3
    case false => ((go_wp2_with (go_at_call 54; refine (call_in _ _ _ _ _ (by first | exact h0 | exact h1 | exact h2 | exact h3 | exact h4 | exact h5 | exact k6)).mono ?_; rintro e w' ⟨rfl, ⟨_, rfl⟩⟩)); go_meet; (case rel => exact ⟨by rw [hp.out]; simp, ⟨by (with_reducible repeat (first | refine blk_drewN ?_ _ | refine blk_drew ?_)); exact BK.out⟩, ⟨by repeat (first | (with_reducible exact HB.out) | apply pw_below_drewN)⟩⟩))
    cases i4
    case false => ((go_wp2_with (go_at_call 54; refine (call_in _ _ _ _ _ (by first | exact h0 | exact h1 | exact h2 | exact h3 | exact h4 | exact h5 | exact k6)).mono ?_; rintro e w' ⟨rfl, ⟨_, rfl⟩⟩)); go_meet; (case rel => exact ⟨by rw [hp.out]; simp, ⟨by (with_reducible repeat (first | refine blk_drewN ?_ _ | refine blk_drew ?_)); exact BK.out⟩, ⟨by repeat (first | (with_reducible exact HB.out) | apply pw_below_drewN)⟩⟩))
    cases i5
    case false => ((go_wp2_with (go_at_call 54; refine (call_in _ _ _ _ _ (by first | exact h0 | exact h1 | exact h2 | exact h3 | exact h4 | exact h5 | exact k6)).mono ?_; rintro e w' ⟨rfl, ⟨_, rfl⟩⟩)); go_meet; (case rel => exact ⟨by rw [hp.out]; simp, ⟨by (with_reducible repeat (first | refine blk_drewN ?_ _ | refine blk_drew ?_)); exact BK.out⟩, ⟨by repeat (first | (with_reducible exact HB.out) | apply pw_below_drewN)⟩⟩))
    ((go_wp2_with (go_at_call 54; refine (call_in _ _ _ _ _ (by first | exact h0 | exact h1 | exact h2 | exact h3 | exact h4 | exact h5 | exact k6)).mono ?_; rintro e w' ⟨rfl, ⟨_, rfl⟩⟩)); go_meet; (case rel => exact ⟨by rw [hp.out]; simp, ⟨by (with_reducible repeat (first | refine blk_drewN ?_ _ | refine blk_drew ?_)); exact BK.out⟩, ⟨by repeat (first | (with_reducible exact HB.out) | apply pw_below_drewN)⟩⟩))
  case rest =>
    clear hz0 hfz0 hz1 hfz1 hz2 hfz2 hz3 hfz3 hz4 hfz4 hz5 hfz5 hz6 hfz6 BK HB
    obtain ⟨rfl, BK, HB⟩ := hcut
    have hz0 := (blk_cell BK.out 0).trans rfl
    have hz1 := (blk_cell BK.out 1).trans rfl
    have hz2 := (blk_cell BK.out 2).trans rfl
    have hz3 := (blk_cell BK.out 3).trans rfl
    have hz4 := (blk_cell BK.out 4).trans rfl
    have hz5 := (blk_cell BK.out 5).trans rfl
    have hz6 := (blk_cell BK.out 6).trans rfl
    have hfz0 := blk_frozen BK.out 0
    have hfz1 := blk_frozen BK.out 1
    have hfz2 := blk_frozen BK.out 2
    have hfz3 := blk_frozen BK.out 3
    have hfz4 := blk_frozen BK.out 4
    have hfz5 := blk_frozen BK.out 5
    have hfz6 := blk_frozen BK.out 6
    cases p
    case true => (go_wp2; go_ret; exact ⟨by rw [HR.out]; simp, by repeat (first | (with_reducible exact HB.out) | apply pw_below_drewN)⟩)
    obtain ⟨rfl, rfl, rfl, rfl, rfl, rfl⟩ : i0 = true ∧ i1 = true ∧ i2 = true ∧ i3 = true ∧ i4 = true ∧ i5 = true := by
      have h := hp.out
      cases i0 <;> cases i1 <;> cases i2 <;> cases i3 <;> cases i4 <;> cases i5 <;> simp at h <;> simp
    have hb0 := of_decide_eq_true h0
    have hb4 := of_decide_eq_true h4
    have FL := flags b5 (of_decide_eq_true h5)
    rw [k4, k5] at FL
    obtain ⟨f1, f2, f3, f4, f5, f6⟩ := FL
    have k2i : (b3 != 0) = !z3 := by rw [← k2]; rfl
    have k3i : (b4 != 0) = !z4 := by rw [← k3]; rfl
    have hb01 := hb0.1
    have hb02 := hb0.2
    have hb41 := hb4.1
    have hb42 := hb4.2
    replace h0 := Aside0.mk h0
    clear h1 h2 h3 h4 h5 hb0 hb4 hp
    go_upto_region 3 with (fail)
    go_cut [70] (fun v70 wc => v70 = .bool q ∧ Aside0 (wc.heap[g]? = some (.cells #[.int .i64 b0, .int .i64 b1, .int .i64 b2, .int .i64 b3, .int .i64 b4, .int .i64 b5, .slice A rs.length c] 82 (0, 0))) ∧ Aside0 (Below w.heap.size w wc))
    case first =>
      cases ng
      case false =>
        cases mk
        case false => ((go_wp2_with fail); go_meet; (case rel => exact ⟨by rw [hq.out]; simp, ⟨by (with_reducible repeat (first | refine blk_drewN ?_ _ | refine blk_drew ?_)); exact BK.out⟩, ⟨by repeat (first | (with_reducible exact HB.out) | apply pw_below_drewN)⟩⟩))
        cases op <;> ((go_wp2_with fail); go_meet; (case rel => exact ⟨by rw [hq.out]; simp, ⟨by (with_reducible repeat (first | refine blk_drewN ?_ _ | refine blk_drew ?_)); exact BK.out⟩, ⟨by repeat (first | (with_reducible exact HB.out) | apply pw_below_drewN)⟩⟩))
      cases z3
      case false => ((go_wp2_with fail); go_meet; (case rel => exact ⟨by rw [hq.out]; simp, ⟨by (with_reducible repeat (first | refine blk_drewN ?_ _ | refine blk_drew ?_)); exact BK.out⟩, ⟨by repeat (first | (with_reducible exact HB.out) | apply pw_below_drewN)⟩⟩))
      cases z4
      case false => ((go_wp2_with fail); go_meet; (case rel => exact ⟨by rw [hq.out]; simp, ⟨by (with_reducible repeat (first | refine blk_drewN ?_ _ | refine blk_drew ?_)); exact BK.out⟩, ⟨by repeat (first | (with_reducible exact HB.out) | apply pw_below_drewN)⟩⟩))
      cases op
      case true => ((go_wp2_with fail); go_meet; (case rel => exact ⟨by rw [hq.out]; simp, ⟨by (with_reducible repeat (first | refine blk_drewN ?_ _ | refine blk_drew ?_)); exact BK.out⟩, ⟨by repeat (first | (with_reducible exact HB.out) | apply pw_below_drewN)⟩⟩))
      cases mk <;> ((go_wp2_with fail); go_meet; (case rel => exact ⟨by rw [hq.out]; simp, ⟨by (with_reducible repeat (first | refine blk_drewN ?_ _ | refine blk_drew ?_)); exact BK.out⟩, ⟨by repeat (first | (with_reducible exact HB.out) | apply pw_below_drewN)⟩⟩))
    case rest =>
      clear hz0 hfz0 hz1 hfz1 hz2 hfz2 hz3 hfz3 hz4 hfz4 hz5 hfz5 hz6 hfz6 BK HB
      obtain ⟨rfl, BK, HB⟩ := hcut
      have hz0 := (blk_cell BK.out 0).trans rfl
      have hz1 := (blk_cell BK.out 1).trans rfl
      have hz2 := (blk_cell BK.out 2).trans rfl
      have hz3 := (blk_cell BK.out 3).trans rfl
      have hz4 := (blk_cell BK.out 4).trans rfl
      have hz5 := (blk_cell BK.out 5).trans rfl
      have hz6 := (blk_cell BK.out 6).trans rfl
      have hfz0 := blk_frozen BK.out 0
      have hfz1 := blk_frozen BK.out 1
      have hfz2 := blk_frozen BK.out 2
      have hfz3 := blk_frozen BK.out 3
      have hfz4 := blk_frozen BK.out 4
      have hfz5 := blk_frozen BK.out 5
      have hfz6 := blk_frozen BK.out 6
      cases q
      case true => (go_wp2; go_ret; exact ⟨by rw [HR.out]; simp, by repeat (first | (with_reducible exact HB.out) | apply pw_below_drewN)⟩)
      clear k1 k2 k3 k2i k3i f1 f2 f3 f4 f5 f6 hq
      have k7i : decide (1000000000 < b0 + (rs.length : Int) - 1) = !e1 := by rw [← k7, Bool.eq_iff_iff]; simp
      have k8i : decide (1000000000 < b4 + (rs.length : Int) - 1) = !e2 := by rw [← k8, Bool.eq_iff_iff]; simp
      have wr1 : wrap64 (wrap64 (b0 + (rs.length : Int)) - 1) = b0 + (rs.length : Int) - 1 := by unfold wrap64; omega
      have wr2 : wrap64 (wrap64 (b4 + (rs.length : Int)) - 1) = b4 + (rs.length : Int) - 1 := by unfold wrap64; omega
      go_upto_region 5 with (fail)
      go_cut [95] (fun v95 wc => v95 = .bool r ∧ Aside0 (wc.heap[g]? = some (.cells #[.int .i64 b0, .int .i64 b1, .int .i64 b2, .int .i64 b3, .int .i64 b4, .int .i64 b5, .slice A rs.length c] 82 (0, 0))) ∧ Aside0 (Below w.heap.size w wc))
      case first =>
        cases n1
        case false => ((go_wp2_with (go_at_call 54; refine (call_in _ _ _ _ _ (by first | exact h0 | exact h1 | exact h2 | exact h3 | exact h4 | exact h5 | exact k6)).mono ?_; rintro e w' ⟨rfl, ⟨_, rfl⟩⟩)); go_meet; (case rel => exact ⟨by rw [hr.out]; simp, ⟨by (with_reducible repeat (first | refine blk_drewN ?_ _ | refine blk_drew ?_)); exact BK.out⟩, ⟨by repeat (first | (with_reducible exact HB.out) | apply pw_below_drewN)⟩⟩))
        cases e1
        case false => ((go_wp2_with (go_at_call 54; refine (call_in _ _ _ _ _ (by first | exact h0 | exact h1 | exact h2 | exact h3 | exact h4 | exact h5 | exact k6)).mono ?_; rintro e w' ⟨rfl, ⟨_, rfl⟩⟩)); go_meet; (case rel => exact ⟨by rw [hr.out]; simp, ⟨by (with_reducible repeat (first | refine blk_drewN ?_ _ | refine blk_drew ?_)); exact BK.out⟩, ⟨by repeat (first | (with_reducible exact HB.out) | apply pw_below_drewN)⟩⟩))
        cases e2
        case false => ((go_wp2_with (go_at_call 54; refine (call_in _ _ _ _ _ (by first | exact h0 | exact h1 | exact h2 | exact h3 | exact h4 | exact h5 | exact k6)).mono ?_; rintro e w' ⟨rfl, ⟨_, rfl⟩⟩)); go_meet; (case rel => exact ⟨by rw [hr.out]; simp, ⟨by (with_reducible repeat (first | refine blk_drewN ?_ _ | refine blk_drew ?_)); exact BK.out⟩, ⟨by repeat (first | (with_reducible exact HB.out) | apply pw_below_drewN)⟩⟩))
        ((go_wp2_with (go_at_call 54; refine (call_in _ _ _ _ _ (by first | exact h0 | exact h1 | exact h2 | exact h3 | exact h4 | exact h5 | exact k6)).mono ?_; rintro e w' ⟨rfl, ⟨_, rfl⟩⟩)); go_meet; (case rel => exact ⟨by rw [hr.out]; simp, ⟨by (with_reducible repeat (first | refine blk_drewN ?_ _ | refine blk_drew ?_)); exact BK.out⟩, ⟨by repeat (first | (with_reducible exact HB.out) | apply pw_below_drewN)⟩⟩))
      case rest =>
        clear hz0 hfz0 hz1 hfz1 hz2 hfz2 hz3 hfz3 hz4 hfz4 hz5 hfz5 hz6 hfz6 BK HB
        obtain ⟨rfl, BK, HB⟩ := hcut
        have hz0 := (blk_cell BK.out 0).trans rfl
        have hz1 := (blk_cell BK.out 1).trans rfl
        have hz2 := (blk_cell BK.out 2).trans rfl
        have hz3 := (blk_cell BK.out 3).trans rfl
        have hz4 := (blk_cell BK.out 4).trans rfl
        have hz5 := (blk_cell BK.out 5).trans rfl
        have hz6 := (blk_cell BK.out 6).trans rfl
        have hfz0 := blk_frozen BK.out 0
        have hfz1 := blk_frozen BK.out 1
        have hfz2 := blk_frozen BK.out 2
        have hfz3 := blk_frozen BK.out 3
        have hfz4 := blk_frozen BK.out 4
        have hfz5 := blk_frozen BK.out 5
        have hfz6 := blk_frozen BK.out 6
        cases r
        case true => (go_wp2; go_ret; exact ⟨by rw [HR.out]; simp, by repeat (first | (with_reducible exact HB.out) | apply pw_below_drewN)⟩)
        obtain rfl : n1 = true := by
          have h := hr.out
          cases n1 <;> simp at h <;> simp
        have hn : 1 ≤ rs.length := by have := of_decide_eq_true k6; omega
        clear k6 k7 k8 k7i k8i wr1 wr2 hr
        have HL : Aside0 (batchB ⟨b0, b1, b2, b3, b4, b5, rs⟩ = (rs.all recordB && (!mk || (l1 && markB (rs.getD 0 z158))))) := ⟨HR.out.trans (by simp)⟩
        go_wp2
        have A5 : Aside0 (At wc g 5 (.int .i64 b5)) := ⟨At.of BK.out rfl⟩
        have A6 : Aside0 (At wc g 6 (.slice A rs.length c)) := ⟨At.of BK.out rfl⟩
        go_loopg [3] (rs.length + 1) (fun kq v3 wr => ∃ j : Nat, (j + kq = rs.length + 1 ∧ j ≤ rs.length) ∧ v3 = .int .i64 (j : Int) ∧ Aside0 ((rs.drop j).all recordB = rs.all recordB) ∧ Aside0 (At wr g 5 (.int .i64 b5)) ∧ Aside0 (At wr g 6 (.slice A rs.length c)) ∧ Aside0 (Below w.heap.size w wr))
        case atStart => exact ⟨0, ⟨by omega, by omega⟩, rfl, ⟨by simp⟩, ⟨by first | exact A5.out | exact A5.out.drewN _⟩, ⟨by first | exact A6.out | exact A6.out.drewN _⟩, ⟨by repeat (first | (with_reducible exact HB.out) | apply pw_below_drewN)⟩⟩
        case round =>
          clear hz0 hfz0 hz1 hfz1 hz2 hfz2 hz3 hfz3 hz4 hfz4 hz5 hfz5 hz6 hfz6 BK A5 A6 HB HR
          obtain ⟨j, hj, rfl, HO, A5, A6, HB⟩ := hrel
          have hz5 := A5.out.2
          have hz6 := A6.out.2
          by_cases hlt : j < rs.length
          case neg =>
            obtain rfl : j = rs.length := by omega
            have HA : Aside0 (batchB ⟨b0, b1, b2, b3, b4, b5, rs⟩ = (!mk || (l1 && markB (rs.getD 0 z158)))) := ⟨by rw [HL.out, HO.out.symm.trans (show _ = true by simp)]; simp⟩
            cases mk
            case false =>
              have HF := HA
              (go_wp2; go_ret; exact ⟨by rw [HF.out]; simp, by repeat (first | (with_reducible exact HB.out) | apply pw_below_drewN)⟩)
            obtain ⟨ad, A0, c0, e, g0, g1, g2, g3, g4, g5, hl5, hC5⟩ := elemR0 (Kd.C_below HC.out HB.out) (by omega)
            have q0 : (0 < rs.length) = True := eq_true (by omega)
            have q1 : ((0 : Int) < (rs.length : Int)) = True := eq_true (by omega)
            have q2 : decide (0 < (rs.length : Int)) = true := decide_eq_true (by omega)
            have q3 : decide (0 < rs.length) = true := decide_eq_true (by omega)
            cases e
            clear hC5
            go_upto_region 14 with (fail)
            have B2 := Aside0.mk (blk_new wr (.cells #[.int .i64 rs[0].f0, .bool rs[0].f1, .string rs[0].f2, .bool rs[0].f3, .string rs[0].f4, .slice A0 rs[0].f5.length c0] 158))
            replace A6 := Aside0.mk (A6.out.below (bel_alloc wr (.cells #[.int .i64 rs[0].f0, .bool rs[0].f1, .string rs[0].f2, .bool rs[0].f3, .string rs[0].f4, .slice A0 rs[0].f5.length c0] 158)))
            replace HB := Aside0.mk (bel HB.out (bel_alloc wr (.cells #[.int .i64 rs[0].f0, .bool rs[0].f1, .string rs[0].f2, .bool rs[0].f3, .string rs[0].f4, .slice A0 rs[0].f5.length c0] 158)))
            clear g0 g1 g2 g3 g4 g5 hz5 hz6 A5
            generalize wr.alloc (.cells #[.int .i64 rs[0].f0, .bool rs[0].f1, .string rs[0].f2, .bool rs[0].f3, .string rs[0].f4, .slice A0 rs[0].f5.length c0] 158) = W2 at *
            generalize wr.heap.size = g2 at *
            have hy0 := (blk_cell B2.out 0).trans rfl
            have hy1 := (blk_cell B2.out 1).trans rfl
            have hy2 := (blk_cell B2.out 2).trans rfl
            have hy3 := (blk_cell B2.out 3).trans rfl
            have hy4 := (blk_cell B2.out 4).trans rfl
            have hy5 := (blk_cell B2.out 5).trans rfl
            have hfy0 := blk_frozen B2.out 0
            have hfy1 := blk_frozen B2.out 1
            have hfy2 := blk_frozen B2.out 2
            have hfy3 := blk_frozen B2.out 3
            have hfy4 := blk_frozen B2.out 4
            have hfy5 := blk_frozen B2.out 5
            have hz6 := A6.out.2
            obtain ⟨kd, gn, s1, s2, v0, m1, m2, m3, m4, m5⟩ : ∃ kd gn s1 s2 v0 : Bool, rs[0].f1 = kd ∧ rs[0].f3 = gn ∧ (rs[0].f2.toList == ([99, 111, 109, 109, 105, 116] : List UInt8)) = s1 ∧ (rs[0].f2.toList == ([97, 98, 111, 114, 116] : List UInt8)) = s2 ∧ (rs[0].f4.toList == ([] : List UInt8)) = v0 := ⟨_, _, _, _, _, rfl, rfl, rfl, rfl, rfl⟩
            obtain ⟨y0, m6⟩ : ∃ y0 : Bool, ((rs[0].f5.length : Int) == 0) = y0 := ⟨_, rfl⟩
            rw [m1] at hy1
            rw [m2] at hy3
            have HF : Aside0 (batchB ⟨b0, b1, b2, b3, b4, b5, rs⟩ = (l1 && (kd && (s1 || s2) && !gn && v0 && y0))) := ⟨by
              have e5 : decide (rs[0].f5.length = 0) = y0 := by rw [← m6, Bool.eq_iff_iff]; simp
              rw [HA.out]; unfold markB; rw [show rs.getD 0 z158 = rs[0] from by simp [show 0 < rs.length by omega], m1, m2, m3, m4, m5, e5]; simp⟩
            have l1i : ((rs.length : Int) == 1) = l1 := by rw [← k9.out, Bool.eq_iff_iff]; simp; omega
            clear m1 m2
            cases l1
            case false => (go_wp2; go_ret; exact ⟨by rw [HF.out]; simp, by repeat (first | (with_reducible exact HB.out) | apply pw_below_drewN)⟩)
            cases kd
            case false => (go_wp2; go_ret; exact ⟨by rw [HF.out]; simp, by repeat (first | (with_reducible exact HB.out) | apply pw_below_drewN)⟩)
            cases s1
            case true =>
              cases gn
              case true => (go_wp2; go_ret; exact ⟨by rw [HF.out]; simp, by repeat (first | (with_reducible exact HB.out) | apply pw_below_drewN)⟩)
              cases v0
              case false => (go_wp2; go_ret; exact ⟨by rw [HF.out]; simp, by repeat (first | (with_reducible exact HB.out) | apply pw_below_drewN)⟩)
              (go_wp2; go_ret; exact ⟨by rw [HF.out]; simp, by repeat (first | (with_reducible exact HB.out) | apply pw_below_drewN)⟩)
            cases s2
            case false => (go_wp2; go_ret; exact ⟨by rw [HF.out]; simp, by repeat (first | (with_reducible exact HB.out) | apply pw_below_drewN)⟩)
            cases gn
            case true => (go_wp2; go_ret; exact ⟨by rw [HF.out]; simp, by repeat (first | (with_reducible exact HB.out) | apply pw_below_drewN)⟩)
            cases v0
            case false => (go_wp2; go_ret; exact ⟨by rw [HF.out]; simp, by repeat (first | (with_reducible exact HB.out) | apply pw_below_drewN)⟩)
            (go_wp2; go_ret; exact ⟨by rw [HF.out]; simp, by repeat (first | (with_reducible exact HB.out) | apply pw_below_drewN)⟩)
          obtain ⟨ad, A9, c9, e, g0, g1, g2, g3, g4, g5, hl5, hC5⟩ := elemR (Kd.C_below HC.out HB.out) j hlt
          cases e
          have hs5 := HS.out.2 _ (List.getElem_mem hlt)
          have HJ := Aside0.mk hC5
          clear hC5
          have HX := Aside0.mk (HO.out.symm.trans ((congrArg (List.all · recordB) (List.drop_eq_getElem_cons hlt)).trans List.all_cons))
          cases hr : recordB rs[j]
          case false =>
            have HF : Aside0 (batchB ⟨b0, b1, b2, b3, b4, b5, rs⟩ = false) := ⟨by rw [HL.out, HX.out, hr]; simp⟩
            (go_wp2_with (go_at_call 118; refine (spec_rec rs[j] _ _ _ _ hr HJ.out hl5 hs5).mono ?_; rintro e w' ⟨rfl, hb⟩; replace HB := Aside0.mk (bel HB.out hb); replace A6 := Aside0.mk (A6.out.below hb); replace A5 := Aside0.mk (A5.out.below hb); clear hb)); go_ret; exact ⟨by rw [HF.out]; try rfl, by repeat (first | (with_reducible exact HB.out) | apply pw_below_drewN)⟩
          have HF := Aside0.mk (HX.out.trans (show _ = (rs.drop (j + 1)).all recordB by rw [hr]; rfl))
          go_wp2_with (go_at_call 118; refine (spec_rec rs[j] _ _ _ _ hr HJ.out hl5 hs5).mono ?_; rintro e w' ⟨rfl, hb⟩; replace HB := Aside0.mk (bel HB.out hb); replace A6 := Aside0.mk (A6.out.below hb); replace A5 := Aside0.mk (A5.out.below hb); clear hb)
          go_roundg (rs.length - j)
          case measure => omega
          case rel => exact ⟨j + 1, ⟨by omega, by omega⟩, by go_num, ⟨HF.out.symm⟩, ⟨by first | exact A5.out | exact A5.out.drewN _⟩, ⟨by first | exact A6.out | exact A6.out.drewN _⟩, ⟨by repeat (first | (with_reducible exact HB.out) | apply pw_below_drewN)⟩⟩
end Go.Proofs.Ytoacdmohgohpdaa.LogK
