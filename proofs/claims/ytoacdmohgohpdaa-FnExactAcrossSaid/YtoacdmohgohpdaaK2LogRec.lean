/- RecordOk, called: what reference and program tell is 'recordB'. -/
import Derived.Test.YtoacdmohgohpdaaK2LogPure
import Derived.Test.YtoacdmohgohpdaaK2QFnExactBehindx7
namespace Go.Proofs.Ytoacdmohgohpdaa.LogK
open Go.RowKit Go.Proofs.YtoacdmohgohpdaaW.PrintWords Go.Proofs.YtoacdmohgohpdaaW.PrintLast Go.Proofs.YtoacdmohgohpdaaW.PrintMore Go.Proofs.Ytoacdmohgohpdaa.QFnExactBehind
theorem bel {w w1 w2 : World} (h : Below w.heap.size w w1) (h2 : Below w1.heap.size w1 w2) : Below w.heap.size w w2 := h.trans (h2.mono h.size)
theorem bel_alloc (w : World) (o : Obj) : Below w.heap.size w (w.alloc o) := below_alloc (Below.refl _ _) o
theorem in_f (a b c : Int) : spec_l1In.f a b c = some (decide (b ≤ a ∧ a ≤ c)) := by
  unfold spec_l1In.f
  by_cases h : a ≥ b
  · rw [if_pos h]; simp [show b ≤ a from h]
  · rw [if_neg h]; simp [show ¬ b ≤ a from h]
theorem within_f (a b c : Int) : impl_within.f a b c = some (decide (b ≤ a ∧ a ≤ c)) := by
  unfold impl_within.f
  by_cases h : a ≥ b
  · rw [if_pos h]; simp [show b ≤ a from h]
  · rw [if_neg h]; simp [show ¬ b ≤ a from h]
theorem offset_f (a : Int) : impl_offsetOk.f a = some (decide (0 ≤ a ∧ a ≤ 1000000000)) := by
  unfold impl_offsetOk.f
  by_cases h : a ≥ 0
  · rw [if_pos h]; simp [show 0 ≤ a from h]
  · rw [if_neg h]; simp [show ¬ 0 ≤ a from h]
theorem time_f (a : Int) : impl_timeOk.f a = some (decide (0 ≤ a ∧ a ≤ 1000000000000)) := by
  unfold impl_timeOk.f
  by_cases h : a ≥ 0
  · rw [if_pos h]; simp [show 0 ≤ a from h]
  · rw [if_neg h]; simp [show ¬ 0 ≤ a from h]
theorem call_in (a b c : Int) (r : Bool) (W : World) (h : decide (b ≤ a ∧ a ≤ c) = r) : Calls Try.prog 54 #[.int .i64 a, .int .i64 b, .int .i64 c] W fun e w' => e = .returned (.bool r) ∧ Drawn0 W w' :=
  spec_l1In.calls a b c r W (by rw [in_f, h])
theorem call_within (a b c : Int) (r : Bool) (W : World) (h : decide (b ≤ a ∧ a ≤ c) = r) : Calls Try.prog 63 #[.int .i64 a, .int .i64 b, .int .i64 c] W fun e w' => e = .returned (.bool r) ∧ Drawn0 W w' :=
  impl_within.calls a b c r W (by rw [within_f, h])
theorem call_offset (a : Int) (r : Bool) (W : World) (h : decide (0 ≤ a ∧ a ≤ 1000000000) = r) : Calls Try.prog 62 #[.int .i64 a] W fun e w' => e = .returned (.bool r) ∧ Drawn0 W w' :=
  impl_offsetOk.calls a r W (by rw [offset_f, h])
theorem call_time (a : Int) (r : Bool) (W : World) (h : decide (0 ≤ a ∧ a ≤ 1000000000000) = r) : Calls Try.prog 102 #[.int .i64 a] W fun e w' => e = .returned (.bool r) ∧ Drawn0 W w' :=
  impl_timeOk.calls a r W (by rw [time_f, h])
theorem call_textT (a : ByteArray) (W : World) (h : decide (100 < a.size) = false) : Calls Try.prog 150 #[.string a] W fun e w' => e = .returned (.bool true) ∧ Drawn0 W w' :=
  impl_textOk.calls a true W (by rw [show impl_textOk.f a = some (decide ((a.size : Int) ≤ 100)) from rfl]; simp at h ⊢; omega)
theorem call_textF (a : ByteArray) (W : World) (h : decide (100 < a.size) = true) : Calls Try.prog 150 #[.string a] W fun e w' => e = .returned (.bool false) ∧ Drawn0 W w' :=
  impl_textOk.calls a false W (by rw [show impl_textOk.f a = some (decide ((a.size : Int) ≤ 100)) from rfl]; simp at h ⊢; omega)
theorem elemH {W : World} {A : Option Addr} {y : List Hd} (h : Kd.C k177 W A y.length y) (j : Nat) (hj : j < y.length) :
    ∃ ad, A = some ad ∧ W.cell? (ad.add (j * 2)) = some (.string y[j].f0) ∧ W.cell? ⟨(ad.add (j * 2)).block, (ad.add (j * 2)).off + 1, none⟩ = some (.string y[j].f1) := by
  obtain ⟨ad, e, h0, h1⟩ := at_T177 h (j : Int) (by omega) (by omega)
  rw [show rd_T177 y (j : Int) = y[j] from by simp [rd_T177, hj]] at h0 h1
  exact ⟨ad, e, by simpa using h0, by simpa using h1⟩
def At (w : World) (g i : Nat) (v : Value) : Prop := g < w.heap.size ∧ w.cell? ⟨g, i, none⟩ = some v
theorem At.below {w w' : World} {g i : Nat} {v : Value} (h : At w g i v) (hb : Below w.heap.size w w') : At w' g i v := ⟨Nat.lt_of_lt_of_le h.1 hb.size, (hb.cell h.1).trans h.2⟩
theorem At.drewN {w : World} {g i : Nat} {v : Value} (h : At w g i v) (n : Nat) : At (w.drewN n) g i v := h
theorem At.of {w : World} {g i : Nat} {v : Value} {cs : Array Value} {t : TypeId} (h : w.heap[g]? = some (.cells cs t (0, 0))) (hc : cs[i]? = some v) : At w g i v := ⟨blk_lt h, (blk_cell h i).trans hc⟩
set_option maxHeartbeats 1600000 in
theorem spec_record (t : Int) (kd : Bool) (ky : ByteArray) (gn : Bool) (vl : ByteArray) (A : Option Addr) (c : Nat) (hs : List Hd) (w : World) (hC : k177.C w A hs.length hs) (_ : hs.length ≤ c) (hl : hs.length ≤ 1048576) :
    Calls Try.prog 118 #[.agg #[.int .i64 t, .bool kd, .string ky, .bool gn, .string vl, .slice A hs.length c]] w fun e w' => e = .returned (.bool (recordB ⟨t, kd, ky, gn, vl, hs⟩)) ∧ Below w.heap.size w w' := by
  have HC := Aside0.mk hC
  clear hC
  obtain ⟨b1, x2, x3, x4, b5, b6, h1, h2, h3, h4, h5, h6⟩ : ∃ b1 x2 x3 x4 b5 b6 : Bool, decide (0 ≤ t ∧ t ≤ 1000000000000) = b1 ∧ decide (100 < ky.size) = x2 ∧ decide (100 < vl.size) = x3 ∧ decide (3 < hs.length) = x4 ∧ (ky.toList == ([] : List UInt8)) = b5 ∧ (vl.toList == ([] : List UInt8)) = b6 := ⟨_, _, _, _, _, _, rfl, rfl, rfl, rfl, rfl, rfl⟩
  have h2i : decide (100 < (ky.size : Int)) = x2 := by rw [← h2, Bool.eq_iff_iff]; simp; omega
  have h3i : decide (100 < (vl.size : Int)) = x3 := by rw [← h3, Bool.eq_iff_iff]; simp; omega
  have h4i : decide (3 < (hs.length : Int)) = x4 := by rw [← h4, Bool.eq_iff_iff]; simp; omega
  have h5i : (ky.toList != ([] : List UInt8)) = !b5 := by rw [← h5]; rfl
  have h6i : (vl.toList != ([] : List UInt8)) = !b6 := by rw [← h6]; rfl
  obtain ⟨p, q, hp, hq⟩ : ∃ p q : Bool, p = (!b1 || x2 || x3 || x4) ∧ q = (!(kd || b5) || !(!gn || b6)) := ⟨_, _, rfl, rfl⟩
  have HR : Aside0 (recordB ⟨t, kd, ky, gn, vl, hs⟩ = (!p && !q && hs.all headB)) := ⟨by unfold recordB; simp only [h1, h2, h3, h4, h5, h6, hp, hq]; cases b1 <;> cases x2 <;> cases x3 <;> cases x4 <;> cases (kd || b5) <;> cases (!gn || b6) <;> rfl⟩
  replace hp := Aside0.mk hp
  replace hq := Aside0.mk hq
  go_enter Try.func118, Try.ntmps118
  go_upto_region 1 with (fail)
  have BK := Aside0.mk (blk_new w (.cells #[.int .i64 t, .bool kd, .string ky, .bool gn, .string vl, .slice A hs.length c] 158))
  have HB := Aside0.mk (bel_alloc w (.cells #[.int .i64 t, .bool kd, .string ky, .bool gn, .string vl, .slice A hs.length c] 158))
  obtain ⟨g, hgg⟩ : ∃ g, g = w.heap.size := ⟨_, rfl⟩
  rw [← hgg] at BK
  simp only [← hgg]
  clear hgg
  generalize w.alloc (.cells #[.int .i64 t, .bool kd, .string ky, .bool gn, .string vl, .slice A hs.length c] 158) = W at *
  have hz0 := (blk_cell BK.out 0).trans rfl
  have hz1 := (blk_cell BK.out 1).trans rfl
  have hz2 := (blk_cell BK.out 2).trans rfl
  have hz3 := (blk_cell BK.out 3).trans rfl
  have hz4 := (blk_cell BK.out 4).trans rfl
  have hz5 := (blk_cell BK.out 5).trans rfl
  have hfz0 := blk_frozen BK.out 0
  have hfz1 := blk_frozen BK.out 1
  have hfz2 := blk_frozen BK.out 2
  have hfz3 := blk_frozen BK.out 3
  have hfz4 := blk_frozen BK.out 4
  have hfz5 := blk_frozen BK.out 5
  go_cut [26] (fun v26 wc => v26 = .bool p ∧ Aside0 (wc.heap[g]? = some (.cells #[.int .i64 t, .bool kd, .string ky, .bool gn, .string vl, .slice A hs.length c] 158 (0, 0))) ∧ Aside0 (Below w.heap.size w wc))
  case first =>
    cases b1
    case false => (go_wp2_with (go_at_call 54; refine (call_in _ _ _ _ _ h1).mono ?_; rintro e w' ⟨rfl, ⟨_, rfl⟩⟩)); go_meet; (case rel => exact ⟨by rw [hp.out]; simp, ⟨by (with_reducible repeat (first | refine blk_drewN ?_ _ | refine blk_drew ?_)); exact BK.out⟩, ⟨by repeat (first | (with_reducible exact HB.out) | apply pw_below_drewN)⟩⟩)
    cases x2
    case true => (go_wp2_with (go_at_call 54; refine (call_in _ _ _ _ _ h1).mono ?_; rintro e w' ⟨rfl, ⟨_, rfl⟩⟩)); go_meet; (case rel => exact ⟨by rw [hp.out]; simp, ⟨by (with_reducible repeat (first | refine blk_drewN ?_ _ | refine blk_drew ?_)); exact BK.out⟩, ⟨by repeat (first | (with_reducible exact HB.out) | apply pw_below_drewN)⟩⟩)
    cases x3
    case true => (go_wp2_with (go_at_call 54; refine (call_in _ _ _ _ _ h1).mono ?_; rintro e w' ⟨rfl, ⟨_, rfl⟩⟩)); go_meet; (case rel => exact ⟨by rw [hp.out]; simp, ⟨by (with_reducible repeat (first | refine blk_drewN ?_ _ | refine blk_drew ?_)); exact BK.out⟩, ⟨by repeat (first | (with_reducible exact HB.out) | apply pw_below_drewN)⟩⟩)
    cases x4
    case true => (go_wp2_with (go_at_call 54; refine (call_in _ _ _ _ _ h1).mono ?_; rintro e w' ⟨rfl, ⟨_, rfl⟩⟩)); go_meet; (case rel => exact ⟨by rw [hp.out]; simp, ⟨by (with_reducible repeat (first | refine blk_drewN ?_ _ | refine blk_drew ?_)); exact BK.out⟩, ⟨by repeat (first | (with_reducible exact HB.out) | apply pw_below_drewN)⟩⟩)
    (go_wp2_with (go_at_call 54; refine (call_in _ _ _ _ _ h1).mono ?_; rintro e w' ⟨rfl, ⟨_, rfl⟩⟩)); go_meet; (case rel => exact ⟨by rw [hp.out]; simp, ⟨by (with_reducible repeat (first | refine blk_drewN ?_ _ | refine blk_drew ?_)); exact BK.out⟩, ⟨by repeat (first | (with_reducible exact HB.out) | apply pw_below_drewN)⟩⟩)
  case rest =>
    clear hz0 hfz0 hz1 hfz1 hz2 hfz2 hz3 hfz3 hz4 hfz4 hz5 hfz5 BK HB
    obtain ⟨rfl, BK, HB⟩ := hcut
    have hz0 := (blk_cell BK.out 0).trans rfl
    have hz1 := (blk_cell BK.out 1).trans rfl
    have hz2 := (blk_cell BK.out 2).trans rfl
    have hz3 := (blk_cell BK.out 3).trans rfl
    have hz4 := (blk_cell BK.out 4).trans rfl
    have hz5 := (blk_cell BK.out 5).trans rfl
    have hfz0 := blk_frozen BK.out 0
    have hfz1 := blk_frozen BK.out 1
    have hfz2 := blk_frozen BK.out 2
    have hfz3 := blk_frozen BK.out 3
    have hfz4 := blk_frozen BK.out 4
    have hfz5 := blk_frozen BK.out 5
    cases p
    case true => go_wp2; go_ret; exact ⟨by rw [HR.out]; simp, by repeat (first | (with_reducible exact HB.out) | apply pw_below_drewN)⟩
    go_upto_region 3 with (fail)
    go_cut [43] (fun v43 wc => v43 = .bool q ∧ Aside0 (wc.heap[g]? = some (.cells #[.int .i64 t, .bool kd, .string ky, .bool gn, .string vl, .slice A hs.length c] 158 (0, 0))) ∧ Aside0 (Below w.heap.size w wc))
    case first =>
      by_cases hqb5 : (kd || b5) = true
      case neg =>
        obtain ⟨rfl, rfl⟩ : kd = false ∧ b5 = false := by simpa using hqb5
        (go_wp2_with fail); go_meet; (case rel => exact ⟨by rw [hq.out]; simp, ⟨by (with_reducible repeat (first | refine blk_drewN ?_ _ | refine blk_drew ?_)); exact BK.out⟩, ⟨by repeat (first | (with_reducible exact HB.out) | apply pw_below_drewN)⟩⟩)
      have hib5 : kd = false → b5 = true := by intro h; rw [h] at hqb5; simpa using hqb5
      clear hqb5
      (cases kd) <;> (try (have eb5 := hib5 rfl; subst eb5))
      all_goals
        by_cases hqb6 : (!gn || b6) = true
        case neg =>
          obtain ⟨rfl, rfl⟩ : gn = true ∧ b6 = false := by simpa using hqb6
          (go_wp2_with fail); go_meet; (case rel => exact ⟨by rw [hq.out]; simp, ⟨by (with_reducible repeat (first | refine blk_drewN ?_ _ | refine blk_drew ?_)); exact BK.out⟩, ⟨by repeat (first | (with_reducible exact HB.out) | apply pw_below_drewN)⟩⟩)
        have hib6 : gn = true → b6 = true := by intro h; rw [h] at hqb6; simpa using hqb6
        clear hqb6
        (cases gn) <;> (try (have eb6 := hib6 rfl; subst eb6))
        all_goals
          (go_wp2_with fail); go_meet; (case rel => exact ⟨by rw [hq.out]; simp, ⟨by (with_reducible repeat (first | refine blk_drewN ?_ _ | refine blk_drew ?_)); exact BK.out⟩, ⟨by repeat (first | (with_reducible exact HB.out) | apply pw_below_drewN)⟩⟩)
    case rest =>
      clear hz0 hfz0 hz1 hfz1 hz2 hfz2 hz3 hfz3 hz4 hfz4 hz5 hfz5 BK HB
      obtain ⟨rfl, BK, HB⟩ := hcut
      have hz0 := (blk_cell BK.out 0).trans rfl
      have hz1 := (blk_cell BK.out 1).trans rfl
      have hz2 := (blk_cell BK.out 2).trans rfl
      have hz3 := (blk_cell BK.out 3).trans rfl
      have hz4 := (blk_cell BK.out 4).trans rfl
      have hz5 := (blk_cell BK.out 5).trans rfl
      have hfz0 := blk_frozen BK.out 0
      have hfz1 := blk_frozen BK.out 1
      have hfz2 := blk_frozen BK.out 2
      have hfz3 := blk_frozen BK.out 3
      have hfz4 := blk_frozen BK.out 4
      have hfz5 := blk_frozen BK.out 5
      cases q
      case true => go_wp2; go_ret; exact ⟨by rw [HR.out]; simp, by repeat (first | (with_reducible exact HB.out) | apply pw_below_drewN)⟩
      have HL := Aside0.mk (HR.out.trans (show _ = hs.all headB by simp))
      go_wp2
      have A5 : Aside0 (At wc g 5 (.slice A hs.length c)) := ⟨At.of BK.out rfl⟩
      go_loopg [3] (hs.length + 1) (fun kq v3 wr => ∃ j : Nat, (j + kq = hs.length + 1 ∧ j ≤ hs.length) ∧ v3 = .int .i64 (j : Int) ∧ Aside0 ((hs.drop j).all headB = hs.all headB) ∧ Aside0 (At wr g 5 (.slice A hs.length c)) ∧ Aside0 (Below w.heap.size w wr))
      case atStart => exact ⟨0, ⟨by omega, by omega⟩, rfl, ⟨by simp⟩, ⟨by first | exact A5.out | exact A5.out.drewN _⟩, ⟨by repeat (first | (with_reducible exact HB.out) | apply pw_below_drewN)⟩⟩
      case round =>
        clear hz0 hfz0 hz1 hfz1 hz2 hfz2 hz3 hfz3 hz4 hfz4 hz5 hfz5 BK A5 HB HR h1 h2 h3 h4 h5 h6 h2i h3i h4i h5i h6i
        obtain ⟨j, hj, rfl, HO, A5, HB⟩ := hrel
        have hz5 := A5.out.2
        by_cases hlt : j < hs.length
        case neg =>
          obtain rfl : j = hs.length := by omega
          have HF := Aside0.mk (HL.out.trans (HO.out.symm.trans (show _ = true by simp)))
          go_wp2
          go_ret
          exact ⟨by rw [HF.out]; try rfl, by repeat (first | (with_reducible exact HB.out) | apply pw_below_drewN)⟩
        obtain ⟨ad, e, g0, g1⟩ := elemH (Kd.C_below HC.out HB.out) j hlt
        cases e
        go_upto_region 9 with (fail)
        have B2 := Aside0.mk (blk_new wr (.cells #[.string hs[j].f0, .string hs[j].f1] 177))
        replace A5 := Aside0.mk (A5.out.below (bel_alloc wr (.cells #[.string hs[j].f0, .string hs[j].f1] 177)))
        replace HB := Aside0.mk (bel HB.out (bel_alloc wr (.cells #[.string hs[j].f0, .string hs[j].f1] 177)))
        clear g0 g1 hz5
        generalize wr.alloc (.cells #[.string hs[j].f0, .string hs[j].f1] 177) = W2 at *
        generalize wr.heap.size = g2 at *
        clear wr
        have hy0 := (blk_cell B2.out 0).trans rfl
        have hy1 := (blk_cell B2.out 1).trans rfl
        have HS := Aside0.mk (HO.out.symm.trans ((congrArg (List.all · headB) (List.drop_eq_getElem_cons hlt)).trans List.all_cons))
        obtain ⟨x1, y2, y3, n1, n2, n3⟩ : ∃ x1 y2 y3 : Bool, (hs[j].f0.toList == ([] : List UInt8)) = x1 ∧ decide (100 < hs[j].f0.size) = y2 ∧ decide (100 < hs[j].f1.size) = y3 := ⟨_, _, _, rfl, rfl, rfl⟩
        have n2i : decide (100 < (hs[j].f0.size : Int)) = y2 := by rw [← n2, Bool.eq_iff_iff]; simp; omega
        have n3i : decide (100 < (hs[j].f1.size : Int)) = y3 := by rw [← n3, Bool.eq_iff_iff]; simp; omega
        have n1i : (hs[j].f0.toList != ([] : List UInt8)) = !x1 := by rw [← n1]; rfl
        have HH : Aside0 (headB hs[j] = (!x1 && !y2 && !y3)) := ⟨by unfold headB; simp only [n1, n2, n3]⟩
        cases x1
        case true => (go_wp2_with fail); go_ret; exact ⟨by rw [HL.out, HS.out, HH.out]; simp, by repeat (first | (with_reducible exact HB.out) | apply pw_below_drewN)⟩
        cases y2
        case true => (go_wp2_with fail); go_ret; exact ⟨by rw [HL.out, HS.out, HH.out]; simp, by repeat (first | (with_reducible exact HB.out) | apply pw_below_drewN)⟩
        cases y3
        case true => (go_wp2_with fail); go_ret; exact ⟨by rw [HL.out, HS.out, HH.out]; simp, by repeat (first | (with_reducible exact HB.out) | apply pw_below_drewN)⟩
        go_wp2_with fail
        go_roundg (hs.length - j)
        case measure => omega
        case rel => exact ⟨j + 1, ⟨by omega, by omega⟩, by go_num, ⟨by rw [HS.out, HH.out]; simp⟩, ⟨by first | exact A5.out | exact A5.out.drewN _⟩, ⟨by repeat (first | (with_reducible exact HB.out) | apply pw_below_drewN)⟩⟩
set_option maxHeartbeats 1600000 in
theorem impl_record (t : Int) (kd : Bool) (ky : ByteArray) (gn : Bool) (vl : ByteArray) (A : Option Addr) (c : Nat) (hs : List Hd) (w : World) (hC : k177.C w A hs.length hs) (_ : hs.length ≤ c) (hl : hs.length ≤ 1048576) :
    Calls Try.prog 137 #[.agg #[.int .i64 t, .bool kd, .string ky, .bool gn, .string vl, .slice A hs.length c]] w fun e w' => e = .returned (.bool (recordB ⟨t, kd, ky, gn, vl, hs⟩)) ∧ Below w.heap.size w w' := by
  have HC := Aside0.mk hC
  clear hC
  obtain ⟨b1, x2, x3, x4, b5, b6, h1, h2, h3, h4, h5, h6⟩ : ∃ b1 x2 x3 x4 b5 b6 : Bool, decide (0 ≤ t ∧ t ≤ 1000000000000) = b1 ∧ decide (100 < ky.size) = x2 ∧ decide (100 < vl.size) = x3 ∧ decide (3 < hs.length) = x4 ∧ (ky.toList == ([] : List UInt8)) = b5 ∧ (vl.toList == ([] : List UInt8)) = b6 := ⟨_, _, _, _, _, _, rfl, rfl, rfl, rfl, rfl, rfl⟩
  have h2i : decide (100 < (ky.size : Int)) = x2 := by rw [← h2, Bool.eq_iff_iff]; simp; omega
  have h3i : decide (100 < (vl.size : Int)) = x3 := by rw [← h3, Bool.eq_iff_iff]; simp; omega
  have h4i : decide (3 < (hs.length : Int)) = x4 := by rw [← h4, Bool.eq_iff_iff]; simp; omega
  have h5i : (ky.toList != ([] : List UInt8)) = !b5 := by rw [← h5]; rfl
  have h6i : (vl.toList != ([] : List UInt8)) = !b6 := by rw [← h6]; rfl
  obtain ⟨r, hr⟩ : ∃ r : Bool, r = (!b1 || !(kd || b5) || !(!gn || b6) || x2 || x3 || x4) := ⟨_, rfl⟩
  have HR : Aside0 (recordB ⟨t, kd, ky, gn, vl, hs⟩ = (!r && hs.all headB)) := ⟨by unfold recordB; simp only [h1, h2, h3, h4, h5, h6, hr]; cases b1 <;> cases x2 <;> cases x3 <;> cases x4 <;> cases (kd || b5) <;> cases (!gn || b6) <;> rfl⟩
  replace hr := Aside0.mk hr
  go_enter Try.func137, Try.ntmps137
  go_upto_region 1 with (fail)
  have BK := Aside0.mk (blk_new w (.cells #[.int .i64 t, .bool kd, .string ky, .bool gn, .string vl, .slice A hs.length c] 158))
  have HB := Aside0.mk (bel_alloc w (.cells #[.int .i64 t, .bool kd, .string ky, .bool gn, .string vl, .slice A hs.length c] 158))
  obtain ⟨g, hgg⟩ : ∃ g, g = w.heap.size := ⟨_, rfl⟩
  rw [← hgg] at BK
  simp only [← hgg]
  clear hgg
  generalize w.alloc (.cells #[.int .i64 t, .bool kd, .string ky, .bool gn, .string vl, .slice A hs.length c] 158) = W at *
  have hz0 := (blk_cell BK.out 0).trans rfl
  have hz1 := (blk_cell BK.out 1).trans rfl
  have hz2 := (blk_cell BK.out 2).trans rfl
  have hz3 := (blk_cell BK.out 3).trans rfl
  have hz4 := (blk_cell BK.out 4).trans rfl
  have hz5 := (blk_cell BK.out 5).trans rfl
  have hfz0 := blk_frozen BK.out 0
  have hfz1 := blk_frozen BK.out 1
  have hfz2 := blk_frozen BK.out 2
  have hfz3 := blk_frozen BK.out 3
  have hfz4 := blk_frozen BK.out 4
  have hfz5 := blk_frozen BK.out 5
  go_cut [45] (fun v45 wc => v45 = .bool r ∧ Aside0 (wc.heap[g]? = some (.cells #[.int .i64 t, .bool kd, .string ky, .bool gn, .string vl, .slice A hs.length c] 158 (0, 0))) ∧ Aside0 (Below w.heap.size w wc))
  case first =>
    cases b1
    case false => (go_wp2_with ((first | (go_at_call 102; refine (call_time _ _ _ h1).mono ?_) | (go_at_call 150; first | refine (call_textT _ _ (by first | exact h2 | exact h3)).mono ?_ | refine (call_textF _ _ (by first | exact h2 | exact h3)).mono ?_)); rintro e w' ⟨rfl, ⟨_, rfl⟩⟩)); go_meet; (case rel => exact ⟨by rw [hr.out]; simp, ⟨by (with_reducible repeat (first | refine blk_drewN ?_ _ | refine blk_drew ?_)); exact BK.out⟩, ⟨by repeat (first | (with_reducible exact HB.out) | apply pw_below_drewN)⟩⟩)
    by_cases hqb5 : (kd || b5) = true
    case neg =>
      obtain ⟨rfl, rfl⟩ : kd = false ∧ b5 = false := by simpa using hqb5
      (go_wp2_with ((first | (go_at_call 102; refine (call_time _ _ _ h1).mono ?_) | (go_at_call 150; first | refine (call_textT _ _ (by first | exact h2 | exact h3)).mono ?_ | refine (call_textF _ _ (by first | exact h2 | exact h3)).mono ?_)); rintro e w' ⟨rfl, ⟨_, rfl⟩⟩)); go_meet; (case rel => exact ⟨by rw [hr.out]; simp, ⟨by (with_reducible repeat (first | refine blk_drewN ?_ _ | refine blk_drew ?_)); exact BK.out⟩, ⟨by repeat (first | (with_reducible exact HB.out) | apply pw_below_drewN)⟩⟩)
    have hib5 : kd = false → b5 = true := by intro h; rw [h] at hqb5; simpa using hqb5
    clear hqb5
    (cases kd) <;> (try (have eb5 := hib5 rfl; subst eb5))
    all_goals
      by_cases hqb6 : (!gn || b6) = true
      case neg =>
        obtain ⟨rfl, rfl⟩ : gn = true ∧ b6 = false := by simpa using hqb6
        (go_wp2_with ((first | (go_at_call 102; refine (call_time _ _ _ h1).mono ?_) | (go_at_call 150; first | refine (call_textT _ _ (by first | exact h2 | exact h3)).mono ?_ | refine (call_textF _ _ (by first | exact h2 | exact h3)).mono ?_)); rintro e w' ⟨rfl, ⟨_, rfl⟩⟩)); go_meet; (case rel => exact ⟨by rw [hr.out]; simp, ⟨by (with_reducible repeat (first | refine blk_drewN ?_ _ | refine blk_drew ?_)); exact BK.out⟩, ⟨by repeat (first | (with_reducible exact HB.out) | apply pw_below_drewN)⟩⟩)
      have hib6 : gn = true → b6 = true := by intro h; rw [h] at hqb6; simpa using hqb6
      clear hqb6
      (cases gn) <;> (try (have eb6 := hib6 rfl; subst eb6))
      all_goals
        cases x2
        case true => (go_wp2_with ((first | (go_at_call 102; refine (call_time _ _ _ h1).mono ?_) | (go_at_call 150; first | refine (call_textT _ _ (by first | exact h2 | exact h3)).mono ?_ | refine (call_textF _ _ (by first | exact h2 | exact h3)).mono ?_)); rintro e w' ⟨rfl, ⟨_, rfl⟩⟩)); go_meet; (case rel => exact ⟨by rw [hr.out]; simp, ⟨by (with_reducible repeat (first | refine blk_drewN ?_ _ | refine blk_drew ?_)); exact BK.out⟩, ⟨by repeat (first | (with_reducible exact HB.out) | apply pw_below_drewN)⟩⟩)
        cases x3
        case true => (go_wp2_with ((first | (go_at_call 102; refine (call_time _ _ _ h1).mono ?_) | (go_at_call 150; first | refine (call_textT _ _ (by first | exact h2 | exact h3)).mono ?_ | refine (call_textF _ _ (by first | exact h2 | exact h3)).mono ?_)); rintro e w' ⟨rfl, ⟨_, rfl⟩⟩)); go_meet; (case rel => exact ⟨by rw [hr.out]; simp, ⟨by (with_reducible repeat (first | refine blk_drewN ?_ _ | refine blk_drew ?_)); exact BK.out⟩, ⟨by repeat (first | (with_reducible exact HB.out) | apply pw_below_drewN)⟩⟩)
        cases x4
        case true => (go_wp2_with ((first | (go_at_call 102; refine (call_time _ _ _ h1).mono ?_) | (go_at_call 150; first | refine (call_textT _ _ (by first | exact h2 | exact h3)).mono ?_ | refine (call_textF _ _ (by first | exact h2 | exact h3)).mono ?_)); rintro e w' ⟨rfl, ⟨_, rfl⟩⟩)); go_meet; (case rel => exact ⟨by rw [hr.out]; simp, ⟨by (with_reducible repeat (first | refine blk_drewN ?_ _ | refine blk_drew ?_)); exact BK.out⟩, ⟨by repeat (first | (with_reducible exact HB.out) | apply pw_below_drewN)⟩⟩)
        (go_wp2_with ((first | (go_at_call 102; refine (call_time _ _ _ h1).mono ?_) | (go_at_call 150; first | refine (call_textT _ _ (by first | exact h2 | exact h3)).mono ?_ | refine (call_textF _ _ (by first | exact h2 | exact h3)).mono ?_)); rintro e w' ⟨rfl, ⟨_, rfl⟩⟩)); go_meet; (case rel => exact ⟨by rw [hr.out]; simp, ⟨by (with_reducible repeat (first | refine blk_drewN ?_ _ | refine blk_drew ?_)); exact BK.out⟩, ⟨by repeat (first | (with_reducible exact HB.out) | apply pw_below_drewN)⟩⟩)
  case rest =>
    clear hz0 hfz0 hz1 hfz1 hz2 hfz2 hz3 hfz3 hz4 hfz4 hz5 hfz5 BK HB
    obtain ⟨rfl, BK, HB⟩ := hcut
    have hz0 := (blk_cell BK.out 0).trans rfl
    have hz1 := (blk_cell BK.out 1).trans rfl
    have hz2 := (blk_cell BK.out 2).trans rfl
    have hz3 := (blk_cell BK.out 3).trans rfl
    have hz4 := (blk_cell BK.out 4).trans rfl
    have hz5 := (blk_cell BK.out 5).trans rfl
    have hfz0 := blk_frozen BK.out 0
    have hfz1 := blk_frozen BK.out 1
    have hfz2 := blk_frozen BK.out 2
    have hfz3 := blk_frozen BK.out 3
    have hfz4 := blk_frozen BK.out 4
    have hfz5 := blk_frozen BK.out 5
    cases r
    case true => go_wp2; go_ret; exact ⟨by rw [HR.out]; simp, by repeat (first | (with_reducible exact HB.out) | apply pw_below_drewN)⟩
    have HL := Aside0.mk (HR.out.trans (show _ = hs.all headB by simp))
    go_wp2
    have A5 : Aside0 (At wc g 5 (.slice A hs.length c)) := ⟨At.of BK.out rfl⟩
    go_loopg [49] (hs.length + 1) (fun kq v49 wr => ∃ j : Nat, (j + kq = hs.length + 1 ∧ j ≤ hs.length) ∧ v49 = .int .i64 (j : Int) ∧ Aside0 ((hs.drop j).all headB = hs.all headB) ∧ Aside0 (At wr g 5 (.slice A hs.length c)) ∧ Aside0 (Below w.heap.size w wr))
    case atStart => exact ⟨0, ⟨by omega, by omega⟩, rfl, ⟨by simp⟩, ⟨by first | exact A5.out | exact A5.out.drewN _⟩, ⟨by repeat (first | (with_reducible exact HB.out) | apply pw_below_drewN)⟩⟩
    case round =>
      clear hz0 hfz0 hz1 hfz1 hz2 hfz2 hz3 hfz3 hz4 hfz4 hz5 hfz5 BK A5 HB HR h1 h2 h3 h4 h5 h6 h2i h3i h4i h5i h6i
      obtain ⟨j, hj, rfl, HO, A5, HB⟩ := hrel
      have hz5 := A5.out.2
      by_cases hlt : j < hs.length
      case neg =>
        obtain rfl : j = hs.length := by omega
        have HF := Aside0.mk (HL.out.trans (HO.out.symm.trans (show _ = true by simp)))
        go_wp2
        go_ret
        exact ⟨by rw [HF.out]; try rfl, by repeat (first | (with_reducible exact HB.out) | apply pw_below_drewN)⟩
      obtain ⟨ad, e, g0, g1⟩ := elemH (Kd.C_below HC.out HB.out) j hlt
      cases e
      go_upto_region 6 with (fail)
      have B2 := Aside0.mk (blk_new wr (.cells #[.string hs[j].f0, .string hs[j].f1] 177))
      replace A5 := Aside0.mk (A5.out.below (bel_alloc wr (.cells #[.string hs[j].f0, .string hs[j].f1] 177)))
      replace HB := Aside0.mk (bel HB.out (bel_alloc wr (.cells #[.string hs[j].f0, .string hs[j].f1] 177)))
      clear g0 g1 hz5
      generalize wr.alloc (.cells #[.string hs[j].f0, .string hs[j].f1] 177) = W2 at *
      generalize wr.heap.size = g2 at *
      clear wr
      have hy0 := (blk_cell B2.out 0).trans rfl
      have hy1 := (blk_cell B2.out 1).trans rfl
      have HS := Aside0.mk (HO.out.symm.trans ((congrArg (List.all · headB) (List.drop_eq_getElem_cons hlt)).trans List.all_cons))
      obtain ⟨x1, y2, y3, n1, n2, n3⟩ : ∃ x1 y2 y3 : Bool, (hs[j].f0.toList == ([] : List UInt8)) = x1 ∧ decide (100 < hs[j].f0.size) = y2 ∧ decide (100 < hs[j].f1.size) = y3 := ⟨_, _, _, rfl, rfl, rfl⟩
      have n2i : decide (100 < (hs[j].f0.size : Int)) = y2 := by rw [← n2, Bool.eq_iff_iff]; simp; omega
      have n3i : decide (100 < (hs[j].f1.size : Int)) = y3 := by rw [← n3, Bool.eq_iff_iff]; simp; omega
      have n1i : (hs[j].f0.toList != ([] : List UInt8)) = !x1 := by rw [← n1]; rfl
      have HH : Aside0 (headB hs[j] = (!x1 && !y2 && !y3)) := ⟨by unfold headB; simp only [n1, n2, n3]⟩
      cases x1
      case true => (go_wp2_with (go_at_call 150; (first | refine (call_textT _ _ (by first | exact n2 | exact n3)).mono ?_ | refine (call_textF _ _ (by first | exact n2 | exact n3)).mono ?_); rintro e w' ⟨rfl, ⟨_, rfl⟩⟩)); go_ret; exact ⟨by rw [HL.out, HS.out, HH.out]; simp, by repeat (first | (with_reducible exact HB.out) | apply pw_below_drewN)⟩
      cases y2
      case true => (go_wp2_with (go_at_call 150; (first | refine (call_textT _ _ (by first | exact n2 | exact n3)).mono ?_ | refine (call_textF _ _ (by first | exact n2 | exact n3)).mono ?_); rintro e w' ⟨rfl, ⟨_, rfl⟩⟩)); go_ret; exact ⟨by rw [HL.out, HS.out, HH.out]; simp, by repeat (first | (with_reducible exact HB.out) | apply pw_below_drewN)⟩
      cases y3
      case true => (go_wp2_with (go_at_call 150; (first | refine (call_textT _ _ (by first | exact n2 | exact n3)).mono ?_ | refine (call_textF _ _ (by first | exact n2 | exact n3)).mono ?_); rintro e w' ⟨rfl, ⟨_, rfl⟩⟩)); go_ret; exact ⟨by rw [HL.out, HS.out, HH.out]; simp, by repeat (first | (with_reducible exact HB.out) | apply pw_below_drewN)⟩
      go_wp2_with (go_at_call 150; (first | refine (call_textT _ _ (by first | exact n2 | exact n3)).mono ?_ | refine (call_textF _ _ (by first | exact n2 | exact n3)).mono ?_); rintro e w' ⟨rfl, ⟨_, rfl⟩⟩)
      go_roundg (hs.length - j)
      case measure => omega
      case rel => exact ⟨j + 1, ⟨by omega, by omega⟩, by go_num, ⟨by rw [HS.out, HH.out]; simp⟩, ⟨by first | exact A5.out | exact A5.out.drewN _⟩, ⟨by repeat (first | (with_reducible exact HB.out) | apply pw_below_drewN)⟩⟩
end Go.Proofs.Ytoacdmohgohpdaa.LogK
