/- Behind, called: what reference and program tell is 'behB'. -/
import Derived.Test.YtoacdmohgohpdaaK2LogMir
import Derived.Test.YtoacdmohgohpdaaK2BehBat
namespace Go.Proofs.Ytoacdmohgohpdaa.LogK
open Go.RowKit Go.Proofs.YtoacdmohgohpdaaW.PrintWords Go.Proofs.YtoacdmohgohpdaaW.PrintLast Go.Proofs.YtoacdmohgohpdaaW.PrintMore Go.Proofs.Ytoacdmohgohpdaa.QFnExactBehind
theorem spec_mirr (start next roll nm : Int) (A B : Option Addr) (c d : Nat) (x : List Seg) (ts : List Twn) (r : Bool) (w : World) (h : mirrorB start next roll x nm ts = r) (hC : k125.C w A x.length x) (hcc : x.length ≤ c) (hs : smL x) (hD : k106.C w B ts.length ts) (hd : ts.length ≤ d) (hl : ts.length ≤ 1048576) :
    Calls Try.prog 24 #[.agg #[.int .i64 start, .int .i64 next, .int .i64 roll, .slice A x.length c, .int .i64 nm, .slice B ts.length d]] w fun e w' => e = .returned (.bool r) ∧ Below w.heap.size w w' := by
  subst h
  exact spec_mirror start next roll nm A B c d x ts w hC hcc hs hD hd hl
set_option maxHeartbeats 3200000 in
set_option maxRecDepth 100000 in
theorem spec_behind (s0 n0 r0 : Int) (A0 : Option Addr) (c0 : Nat) (x0 : List Seg) (start next roll nm : Int) (A B : Option Addr) (c d : Nat) (x : List Seg) (ts : List Twn) (w : World) (hC0 : k125.C w A0 x0.length x0) (hc0 : x0.length ≤ c0) (hs0 : smL x0) (hC : k125.C w A x.length x) (hcc : x.length ≤ c) (hs : smL x) (hD : k106.C w B ts.length ts) (hd : ts.length ≤ d) (hl : ts.length ≤ 1048576) (V : Int) (hV : behB s0 n0 r0 x0 (mirrorB start next roll x nm ts) nm = V) :
    Calls Try.prog 28 #[.agg #[.int .i64 s0, .int .i64 n0, .int .i64 r0, .slice A0 x0.length c0], .agg #[.int .i64 start, .int .i64 next, .int .i64 roll, .slice A x.length c, .int .i64 nm, .slice B ts.length d]] w fun e w' => e = .returned (.int .i64 V) ∧ Below w.heap.size w w' := by
  have HC0 := Aside0.mk hC0
  have HC := Aside0.mk hC
  have HD := Aside0.mk hD
  have HS := Aside0.mk hs
  have HS0 := Aside0.mk hs0
  clear hC0 hC hD hs hs0
  obtain ⟨r1, r2, h1, h2⟩ : ∃ r1 r2 : Bool, logB s0 n0 r0 x0 = r1 ∧ mirrorB start next roll x nm ts = r2 := ⟨_, _, rfl, rfl⟩
  obtain ⟨p, hp⟩ : ∃ p : Bool, p = (!r1 || !r2) := ⟨_, rfl⟩
  obtain ⟨R, HL⟩ : ∃ R : Int, allN nm (allB x0) = R := ⟨_, rfl⟩
  have HR : Aside0 (V = if p = true then -1 else R) := ⟨by rw [← hV]; unfold behB; rw [h1, h2, hp, HL]; cases r1 <;> cases r2 <;> simp⟩
  clear hV
  replace hp := Aside0.mk hp
  replace HL := Aside0.mk HL
  go_enter Try.func28, Try.ntmps28
  go_upto_region 1 with (fail)
  obtain ⟨W, hW⟩ : ∃ W : World, W = w.alloc (.cells #[.int .i64 s0, .int .i64 n0, .int .i64 r0, .slice A0 x0.length c0] 36) := ⟨_, rfl⟩
  have BK := Aside0.mk (blk_below (blk_new w (.cells #[.int .i64 s0, .int .i64 n0, .int .i64 r0, .slice A0 x0.length c0] 36)) (bel_alloc _ (.cells #[.int .i64 start, .int .i64 next, .int .i64 roll, .slice A x.length c, .int .i64 nm, .slice B ts.length d] 39)))
  have BM := Aside0.mk (blk_new (w.alloc (.cells #[.int .i64 s0, .int .i64 n0, .int .i64 r0, .slice A0 x0.length c0] 36)) (.cells #[.int .i64 start, .int .i64 next, .int .i64 roll, .slice A x.length c, .int .i64 nm, .slice B ts.length d] 39))
  have HB := Aside0.mk (bel (bel_alloc w (.cells #[.int .i64 s0, .int .i64 n0, .int .i64 r0, .slice A0 x0.length c0] 36)) (bel_alloc _ (.cells #[.int .i64 start, .int .i64 next, .int .i64 roll, .slice A x.length c, .int .i64 nm, .slice B ts.length d] 39)))
  have hgs : (w.alloc (.cells #[.int .i64 s0, .int .i64 n0, .int .i64 r0, .slice A0 x0.length c0] 36)).heap.size = w.heap.size + 1 := by simp
  rw [hgs] at BM
  obtain ⟨g2, hgg2⟩ : ∃ g, g = w.heap.size + 1 := ⟨_, rfl⟩
  try rw [hgs]
  rw [← hgg2] at BM
  simp only [← hgg2]
  clear hgs hgg2 hW W
  obtain ⟨g, hgg⟩ : ∃ g, g = w.heap.size := ⟨_, rfl⟩
  rw [← hgg] at BK
  simp only [← hgg]
  clear hgg
  generalize (w.alloc (.cells #[.int .i64 s0, .int .i64 n0, .int .i64 r0, .slice A0 x0.length c0] 36)).alloc (.cells #[.int .i64 start, .int .i64 next, .int .i64 roll, .slice A x.length c, .int .i64 nm, .slice B ts.length d] 39) = W at *
  have hz0 := (blk_cell BK.out 0).trans rfl; have hz1 := (blk_cell BK.out 1).trans rfl; have hz2 := (blk_cell BK.out 2).trans rfl; have hz3 := (blk_cell BK.out 3).trans rfl; have hm0 := (blk_cell BM.out 0).trans rfl; have hm1 := (blk_cell BM.out 1).trans rfl; have hm2 := (blk_cell BM.out 2).trans rfl; have hm3 := (blk_cell BM.out 3).trans rfl; have hm4 := (blk_cell BM.out 4).trans rfl; have hm5 := (blk_cell BM.out 5).trans rfl
  go_cut [16] (fun v16 wc => v16 = .bool p ∧ Aside0 (wc.heap[g]? = some (.cells #[.int .i64 s0, .int .i64 n0, .int .i64 r0, .slice A0 x0.length c0] 36 (0, 0))) ∧ Aside0 (wc.heap[g2]? = some (.cells #[.int .i64 start, .int .i64 next, .int .i64 roll, .slice A x.length c, .int .i64 nm, .slice B ts.length d] 39 (0, 0))) ∧ Aside0 (Below w.heap.size w wc))
  case first =>
    cases r1
    case false => ((go_wp2_with ((first | (go_at_call 48; refine (spec_logr s0 n0 r0 _ _ x0 _ _ h1 (Kd.C_below HC0.out (by repeat (first | (with_reducible exact HB.out) | apply pw_below_drewN))) hc0 HS0.out).mono ?_) | (go_at_call 24; refine (spec_mirr start next roll nm _ _ _ _ x ts _ _ h2 (Kd.C_below HC.out (by repeat (first | (with_reducible exact HB.out) | apply pw_below_drewN))) hcc HS.out (Kd.C_below HD.out (by repeat (first | (with_reducible exact HB.out) | apply pw_below_drewN))) hd hl).mono ?_)); rintro e w' ⟨rfl, hb⟩; replace BK := Aside0.mk (blk_below (show _ = some _ from (by (with_reducible repeat (first | refine blk_drewN ?_ _ | refine blk_drew ?_)); exact BK.out)) hb); replace BM := Aside0.mk (blk_below (show _ = some _ from (by (with_reducible repeat (first | refine blk_drewN ?_ _ | refine blk_drew ?_)); exact BM.out)) hb); replace HB := Aside0.mk (bel (by repeat (first | (with_reducible exact HB.out) | apply pw_below_drewN)) hb); clear hb hz0 hz1 hz2 hz3 hm0 hm1 hm2 hm3 hm4 hm5; have hz0 := (blk_cell BK.out 0).trans rfl; have hz1 := (blk_cell BK.out 1).trans rfl; have hz2 := (blk_cell BK.out 2).trans rfl; have hz3 := (blk_cell BK.out 3).trans rfl; have hm0 := (blk_cell BM.out 0).trans rfl; have hm1 := (blk_cell BM.out 1).trans rfl; have hm2 := (blk_cell BM.out 2).trans rfl; have hm3 := (blk_cell BM.out 3).trans rfl; have hm4 := (blk_cell BM.out 4).trans rfl; have hm5 := (blk_cell BM.out 5).trans rfl)); go_meet; (case rel => exact ⟨by rw [hp.out]; simp, ⟨by (with_reducible repeat (first | refine blk_drewN ?_ _ | refine blk_drew ?_)); exact BK.out⟩, ⟨by (with_reducible repeat (first | refine blk_drewN ?_ _ | refine blk_drew ?_)); exact BM.out⟩, ⟨by repeat (first | (with_reducible exact HB.out) | apply pw_below_drewN)⟩⟩))
    cases r2
    case false => ((go_wp2_with ((first | (go_at_call 48; refine (spec_logr s0 n0 r0 _ _ x0 _ _ h1 (Kd.C_below HC0.out (by repeat (first | (with_reducible exact HB.out) | apply pw_below_drewN))) hc0 HS0.out).mono ?_) | (go_at_call 24; refine (spec_mirr start next roll nm _ _ _ _ x ts _ _ h2 (Kd.C_below HC.out (by repeat (first | (with_reducible exact HB.out) | apply pw_below_drewN))) hcc HS.out (Kd.C_below HD.out (by repeat (first | (with_reducible exact HB.out) | apply pw_below_drewN))) hd hl).mono ?_)); rintro e w' ⟨rfl, hb⟩; replace BK := Aside0.mk (blk_below (show _ = some _ from (by (with_reducible repeat (first | refine blk_drewN ?_ _ | refine blk_drew ?_)); exact BK.out)) hb); replace BM := Aside0.mk (blk_below (show _ = some _ from (by (with_reducible repeat (first | refine blk_drewN ?_ _ | refine blk_drew ?_)); exact BM.out)) hb); replace HB := Aside0.mk (bel (by repeat (first | (with_reducible exact HB.out) | apply pw_below_drewN)) hb); clear hb hz0 hz1 hz2 hz3 hm0 hm1 hm2 hm3 hm4 hm5; have hz0 := (blk_cell BK.out 0).trans rfl; have hz1 := (blk_cell BK.out 1).trans rfl; have hz2 := (blk_cell BK.out 2).trans rfl; have hz3 := (blk_cell BK.out 3).trans rfl; have hm0 := (blk_cell BM.out 0).trans rfl; have hm1 := (blk_cell BM.out 1).trans rfl; have hm2 := (blk_cell BM.out 2).trans rfl; have hm3 := (blk_cell BM.out 3).trans rfl; have hm4 := (blk_cell BM.out 4).trans rfl; have hm5 := (blk_cell BM.out 5).trans rfl)); go_meet; (case rel => exact ⟨by rw [hp.out]; simp, ⟨by (with_reducible repeat (first | refine blk_drewN ?_ _ | refine blk_drew ?_)); exact BK.out⟩, ⟨by (with_reducible repeat (first | refine blk_drewN ?_ _ | refine blk_drew ?_)); exact BM.out⟩, ⟨by repeat (first | (with_reducible exact HB.out) | apply pw_below_drewN)⟩⟩))
    ((go_wp2_with ((first | (go_at_call 48; refine (spec_logr s0 n0 r0 _ _ x0 _ _ h1 (Kd.C_below HC0.out (by repeat (first | (with_reducible exact HB.out) | apply pw_below_drewN))) hc0 HS0.out).mono ?_) | (go_at_call 24; refine (spec_mirr start next roll nm _ _ _ _ x ts _ _ h2 (Kd.C_below HC.out (by repeat (first | (with_reducible exact HB.out) | apply pw_below_drewN))) hcc HS.out (Kd.C_below HD.out (by repeat (first | (with_reducible exact HB.out) | apply pw_below_drewN))) hd hl).mono ?_)); rintro e w' ⟨rfl, hb⟩; replace BK := Aside0.mk (blk_below (show _ = some _ from (by (with_reducible repeat (first | refine blk_drewN ?_ _ | refine blk_drew ?_)); exact BK.out)) hb); replace BM := Aside0.mk (blk_below (show _ = some _ from (by (with_reducible repeat (first | refine blk_drewN ?_ _ | refine blk_drew ?_)); exact BM.out)) hb); replace HB := Aside0.mk (bel (by repeat (first | (with_reducible exact HB.out) | apply pw_below_drewN)) hb); clear hb hz0 hz1 hz2 hz3 hm0 hm1 hm2 hm3 hm4 hm5; have hz0 := (blk_cell BK.out 0).trans rfl; have hz1 := (blk_cell BK.out 1).trans rfl; have hz2 := (blk_cell BK.out 2).trans rfl; have hz3 := (blk_cell BK.out 3).trans rfl; have hm0 := (blk_cell BM.out 0).trans rfl; have hm1 := (blk_cell BM.out 1).trans rfl; have hm2 := (blk_cell BM.out 2).trans rfl; have hm3 := (blk_cell BM.out 3).trans rfl; have hm4 := (blk_cell BM.out 4).trans rfl; have hm5 := (blk_cell BM.out 5).trans rfl)); go_meet; (case rel => exact ⟨by rw [hp.out]; simp, ⟨by (with_reducible repeat (first | refine blk_drewN ?_ _ | refine blk_drew ?_)); exact BK.out⟩, ⟨by (with_reducible repeat (first | refine blk_drewN ?_ _ | refine blk_drew ?_)); exact BM.out⟩, ⟨by repeat (first | (with_reducible exact HB.out) | apply pw_below_drewN)⟩⟩))
  case rest =>
    clear hz0 hz1 hz2 hz3 hm0 hm1 hm2 hm3 hm4 hm5 BK BM HB
    obtain ⟨rfl, BK, BM, HB⟩ := hcut
    have hz0 := (blk_cell BK.out 0).trans rfl; have hz1 := (blk_cell BK.out 1).trans rfl; have hz2 := (blk_cell BK.out 2).trans rfl; have hz3 := (blk_cell BK.out 3).trans rfl; have hm0 := (blk_cell BM.out 0).trans rfl; have hm1 := (blk_cell BM.out 1).trans rfl; have hm2 := (blk_cell BM.out 2).trans rfl; have hm3 := (blk_cell BM.out 3).trans rfl; have hm4 := (blk_cell BM.out 4).trans rfl; have hm5 := (blk_cell BM.out 5).trans rfl
    cases p
    case true => (go_wp2; go_ret; exact ⟨by rw [HR.out]; simp, by repeat (first | (with_reducible exact HB.out) | apply pw_below_drewN)⟩)
    obtain ⟨rfl, rfl⟩ : r1 = true ∧ r2 = true := by
      have h := hp.out
      cases r1 <;> cases r2 <;> simp at h <;> simp
    replace HR : Aside0 (V = R) := ⟨HR.out.trans (by simp)⟩
    have hx60 := (log_in h1).2.2.2
    have hv := Aside0.mk (log_all h1)
    have hbl : Aside0 ((allB x0).length ≤ 62914560) := ⟨by have := allB_len x0 (fun s hs => (HS0.out.2 s hs).2.1); omega⟩
    have A4 : Aside0 (At wc g2 4 (.int .i64 nm)) := ⟨At.of BM.out rfl⟩
    clear h1 h2 hp HS HC HD
    (go_upto_region 5 with (go_at_call 73; refine (spec_all s0 n0 r0 _ _ x0 _ (Kd.C_below HC0.out (by repeat (first | (with_reducible exact HB.out) | apply pw_below_drewN))) hc0 HS0.out hx60).mono ?_; rintro e w' ⟨A1, c1, rfl, hl1, hC1, hb⟩; have HC1 := Aside0.mk hC1; clear hC1; replace A4 := Aside0.mk (At.below (by first | exact A4.out | exact A4.out.drewN _) hb); replace HB := Aside0.mk (bel (by repeat (first | (with_reducible exact HB.out) | apply pw_below_drewN)) hb); clear hb hz0 hz1 hz2 hz3 hm0 hm1 hm2 hm3 hm4 hm5))
    clear BK BM HC0 HS0 hx60
    generalize allB x0 = bs at *
    have hb1 : Aside0 (Below w'.heap.size w' w') := ⟨Below.refl _ _⟩
    go_wp2
    go_loopg [5, 7] (bs.length + 1) (fun kq v5 v7 wr => ∃ (i : Nat) (n : Int), (i + kq = bs.length + 1 ∧ i ≤ bs.length) ∧ v5 = .int .i64 n ∧ v7 = .int .i64 (i : Int) ∧ (0 ≤ n ∧ n ≤ i * 1048576) ∧ Aside0 (n + allN nm (bs.drop i) = R) ∧ Aside0 (Below w'.heap.size w' wr))
    case atStart => exact ⟨0, 0, ⟨by omega, by omega⟩, rfl, rfl, ⟨by omega, by omega⟩, ⟨by rw [List.drop_zero, HL.out]; omega⟩, ⟨by repeat (first | (with_reducible exact hb1.out) | apply pw_below_drewN)⟩⟩
    case round =>
      clear hb1
      obtain ⟨i, n, hi, rfl, rfl, hn, HX, hb1⟩ := hrel
      by_cases hit : i < bs.length
      case neg =>
        obtain rfl : i = bs.length := by omega
        have HF := Aside0.mk (HR.out.trans (HX.out.symm.trans (show _ = n by rw [List.drop_length]; simp [allN])))
        go_wp2
        go_ret
        exact ⟨by rw [HF.out]; try rfl, by first | exact bel HB.out hb1.out | exact bel HB.out (pw_below_drewN hb1.out _) | exact bel HB.out (by repeat (first | (with_reducible exact hb1.out) | apply pw_below_drewN))⟩
      obtain ⟨⟨b0, b1, b2, b3, b4, b5, rs⟩, hbe⟩ : ∃ b : Bat, bs[i] = b := ⟨_, rfl⟩
      have hib : i < 62914560 := by have := hbl.out; omega
      have hbb := hv.out _ (List.getElem_mem hit)
      rw [hbe] at hbb
      obtain ⟨p0, p1, p2, p3, p4⟩ := batch_in hbb
      have hfl := batch_fl hbb
      clear hbb
      replace HX := Aside0.mk (allN_step nm bs i _ hit hbe ▸ HX.out)
      obtain ⟨ad, A6, c6, ee, g0, e1, e2, e3, e4, g5, g6, hl6, hC6⟩ := elemB HC1.out hb1.out hit hbe
      cases ee
      clear hC6 e1 e2 e3 e4
      go_wp2
      go_loopg [5, 8] (rs.length + 1) (fun kq v5 v8 wr => ∃ (k : Nat) (n : Int), (k + kq = rs.length + 1 ∧ k ≤ rs.length) ∧ v5 = .int .i64 n ∧ v8 = .int .i64 (k : Int) ∧ (0 ≤ n ∧ n ≤ i * 1048576 + k) ∧ Aside0 (n + inB nm ⟨b0, b1, b2, b3, b4, b5, rs⟩ (rs.length - k) + allN nm (bs.drop (i + 1)) = R) ∧ Aside0 (Below w'.heap.size w' wr))
      case atStart => exact ⟨0, n, ⟨by omega, by omega⟩, rfl, rfl, ⟨by omega, by omega⟩, ⟨by rw [Nat.sub_zero, ← HX.out]; omega⟩, ⟨by repeat (first | (with_reducible exact hb1.out) | apply pw_below_drewN)⟩⟩
      case round =>
        clear g0 g5 g6 hb1 HX
        obtain ⟨k, n, hk, rfl, rfl, hn, HX, hb1⟩ := hrel
        obtain ⟨ad, A6, c6, ee, g0, e1, e2, e3, e4, g5, g6, hl6, hC6⟩ := elemB HC1.out hb1.out hit hbe
        cases ee
        clear hC6 e1 e2 e3 e4
        have hm4 := (A4.out.below hb1.out).2
        by_cases hkt : k < rs.length
        case neg =>
          obtain rfl : k = rs.length := by omega
          have q1 : decide ((rs.length : Int) < (rs.length : Int)) = false := decide_eq_false (by omega)
          have HE : Aside0 (n + allN nm (bs.drop (i + 1)) = R) := ⟨by have h := HX.out; rw [Nat.sub_self] at h; show _ + allN _ _ = _; rw [← h]; simp [inB]⟩
          (go_wp2)
          go_roundg (bs.length - i)
          case measure => omega
          case rel => exact ⟨i + 1, n, ⟨by omega, by omega⟩, rfl, by go_num, ⟨by omega, by omega⟩, ⟨HE.out⟩, ⟨by repeat (first | (with_reducible exact hb1.out) | apply pw_below_drewN)⟩⟩
        obtain ⟨t, m1⟩ : ∃ t : Bool, decide (b5 < 4) = t := ⟨_, rfl⟩
        cases t
        case false =>
          have HE : Aside0 (n + allN nm (bs.drop (i + 1)) = R) := ⟨by have h := HX.out; rw [inB_mark nm ⟨b0, b1, b2, b3, b4, b5, rs⟩ (of_decide_eq_false m1)] at h; rw [← h]; simp⟩
          (go_wp2)
          go_roundg (bs.length - i)
          case measure => omega
          case rel => exact ⟨i + 1, n, ⟨by omega, by omega⟩, rfl, by go_num, ⟨by omega, by omega⟩, ⟨HE.out⟩, ⟨by repeat (first | (with_reducible exact hb1.out) | apply pw_below_drewN)⟩⟩
        obtain ⟨u, m2⟩ : ∃ u : Bool, decide (nm ≤ b0 + (k : Int)) = u := ⟨_, rfl⟩
        have w1 : IntKind.i64.wrap (b0 + (k : Int)) = b0 + (k : Int) := (i64_w _).trans (by unfold wrap64; omega)
        have q1 : (k : Int) < (rs.length : Int) := by omega
        have q2 : (i : Int) < (bs.length : Int) := by omega
        have HY : Aside0 (inB nm ⟨b0, b1, b2, b3, b4, b5, rs⟩ (rs.length - k) = (if b5 < 4 ∧ nm ≤ b0 + (k : Int) then 1 else 0) + inB nm ⟨b0, b1, b2, b3, b4, b5, rs⟩ (rs.length - (k + 1))) := ⟨inB_step nm ⟨b0, b1, b2, b3, b4, b5, rs⟩ k hkt⟩
        go_upto_region 11 with (fail)
        go_quiet (fail)
        cases u
        case false =>
          have HE : Aside0 (n + inB nm ⟨b0, b1, b2, b3, b4, b5, rs⟩ (rs.length - (k + 1)) + allN nm (bs.drop (i + 1)) = R) := ⟨by have h := HX.out; rw [HY.out, if_neg (fun h' => of_decide_eq_false m2 h'.2)] at h; omega⟩
          go_wp2
          go_roundg (rs.length - k)
          case measure => omega
          case rel => exact ⟨k + 1, n, ⟨by omega, by omega⟩, rfl, by go_num, ⟨by omega, by omega⟩, ⟨HE.out⟩, ⟨by repeat (first | (with_reducible exact hb1.out) | apply pw_below_drewN)⟩⟩
        have HE : Aside0 (n + 1 + inB nm ⟨b0, b1, b2, b3, b4, b5, rs⟩ (rs.length - (k + 1)) + allN nm (bs.drop (i + 1)) = R) := ⟨by have h := HX.out; rw [HY.out, if_pos ⟨of_decide_eq_true m1, of_decide_eq_true m2⟩] at h; omega⟩
        go_wp2
        go_roundg (rs.length - k)
        case measure => omega
        case rel => exact ⟨k + 1, n + 1, ⟨by omega, by omega⟩, by go_num, by go_num, ⟨by omega, by omega⟩, ⟨HE.out⟩, ⟨by repeat (first | (with_reducible exact hb1.out) | apply pw_below_drewN)⟩⟩
theorem impl_mirr (start next roll nm : Int) (A B : Option Addr) (c d : Nat) (x : List Seg) (ts : List Twn) (r : Bool) (w : World) (h : mirrorB start next roll x nm ts = r) (hC : k125.C w A x.length x) (hcc : x.length ≤ c) (hs : smL x) (hD : k106.C w B ts.length ts) (hd : ts.length ≤ d) (hl : ts.length ≤ 1048576) :
    Calls Try.prog 26 #[.agg #[.int .i64 start, .int .i64 next, .int .i64 roll, .slice A x.length c, .int .i64 nm, .slice B ts.length d]] w fun e w' => e = .returned (.bool r) ∧ Below w.heap.size w w' := by
  subst h
  exact impl_mirror start next roll nm A B c d x ts w hC hcc hs hD hd hl
set_option maxHeartbeats 3200000 in
set_option maxRecDepth 100000 in
theorem impl_behind (s0 n0 r0 : Int) (A0 : Option Addr) (c0 : Nat) (x0 : List Seg) (start next roll nm : Int) (A B : Option Addr) (c d : Nat) (x : List Seg) (ts : List Twn) (w : World) (hC0 : k125.C w A0 x0.length x0) (hc0 : x0.length ≤ c0) (hs0 : smL x0) (hC : k125.C w A x.length x) (hcc : x.length ≤ c) (hs : smL x) (hD : k106.C w B ts.length ts) (hd : ts.length ≤ d) (hl : ts.length ≤ 1048576) (V : Int) (hV : behB s0 n0 r0 x0 (mirrorB start next roll x nm ts) nm = V) :
    Calls Try.prog 30 #[.agg #[.int .i64 s0, .int .i64 n0, .int .i64 r0, .slice A0 x0.length c0], .agg #[.int .i64 start, .int .i64 next, .int .i64 roll, .slice A x.length c, .int .i64 nm, .slice B ts.length d]] w fun e w' => e = .returned (.int .i64 V) ∧ Below w.heap.size w w' := by
  have HC0 := Aside0.mk hC0
  have HC := Aside0.mk hC
  have HD := Aside0.mk hD
  have HS := Aside0.mk hs
  have HS0 := Aside0.mk hs0
  clear hC0 hC hD hs hs0
  obtain ⟨r1, r2, h1, h2⟩ : ∃ r1 r2 : Bool, logB s0 n0 r0 x0 = r1 ∧ mirrorB start next roll x nm ts = r2 := ⟨_, _, rfl, rfl⟩
  obtain ⟨p, hp⟩ : ∃ p : Bool, p = (!r1 || !r2) := ⟨_, rfl⟩
  obtain ⟨R, HL⟩ : ∃ R : Int, allN nm (allB x0) = R := ⟨_, rfl⟩
  have HR : Aside0 (V = if p = true then -1 else R) := ⟨by rw [← hV]; unfold behB; rw [h1, h2, hp, HL]; cases r1 <;> cases r2 <;> simp⟩
  clear hV
  replace hp := Aside0.mk hp
  replace HL := Aside0.mk HL
  go_enter Try.func30, Try.ntmps30
  go_upto_region 1 with (fail)
  obtain ⟨W, hW⟩ : ∃ W : World, W = w.alloc (.cells #[.int .i64 s0, .int .i64 n0, .int .i64 r0, .slice A0 x0.length c0] 36) := ⟨_, rfl⟩
  have BK := Aside0.mk (blk_below (blk_new w (.cells #[.int .i64 s0, .int .i64 n0, .int .i64 r0, .slice A0 x0.length c0] 36)) (bel_alloc _ (.cells #[.int .i64 start, .int .i64 next, .int .i64 roll, .slice A x.length c, .int .i64 nm, .slice B ts.length d] 39)))
  have BM := Aside0.mk (blk_new (w.alloc (.cells #[.int .i64 s0, .int .i64 n0, .int .i64 r0, .slice A0 x0.length c0] 36)) (.cells #[.int .i64 start, .int .i64 next, .int .i64 roll, .slice A x.length c, .int .i64 nm, .slice B ts.length d] 39))
  have HB := Aside0.mk (bel (bel_alloc w (.cells #[.int .i64 s0, .int .i64 n0, .int .i64 r0, .slice A0 x0.length c0] 36)) (bel_alloc _ (.cells #[.int .i64 start, .int .i64 next, .int .i64 roll, .slice A x.length c, .int .i64 nm, .slice B ts.length d] 39)))
  have hgs : (w.alloc (.cells #[.int .i64 s0, .int .i64 n0, .int .i64 r0, .slice A0 x0.length c0] 36)).heap.size = w.heap.size + 1 := by simp
  rw [hgs] at BM
  obtain ⟨g2, hgg2⟩ : ∃ g, g = w.heap.size + 1 := ⟨_, rfl⟩
  try rw [hgs]
  rw [← hgg2] at BM
  simp only [← hgg2]
  clear hgs hgg2 hW W
  obtain ⟨g, hgg⟩ : ∃ g, g = w.heap.size := ⟨_, rfl⟩
  rw [← hgg] at BK
  simp only [← hgg]
  clear hgg
  generalize (w.alloc (.cells #[.int .i64 s0, .int .i64 n0, .int .i64 r0, .slice A0 x0.length c0] 36)).alloc (.cells #[.int .i64 start, .int .i64 next, .int .i64 roll, .slice A x.length c, .int .i64 nm, .slice B ts.length d] 39) = W at *
  have hz0 := (blk_cell BK.out 0).trans rfl; have hz1 := (blk_cell BK.out 1).trans rfl; have hz2 := (blk_cell BK.out 2).trans rfl; have hz3 := (blk_cell BK.out 3).trans rfl; have hm0 := (blk_cell BM.out 0).trans rfl; have hm1 := (blk_cell BM.out 1).trans rfl; have hm2 := (blk_cell BM.out 2).trans rfl; have hm3 := (blk_cell BM.out 3).trans rfl; have hm4 := (blk_cell BM.out 4).trans rfl; have hm5 := (blk_cell BM.out 5).trans rfl
  go_cut [16] (fun v16 wc => v16 = .bool p ∧ Aside0 (wc.heap[g]? = some (.cells #[.int .i64 s0, .int .i64 n0, .int .i64 r0, .slice A0 x0.length c0] 36 (0, 0))) ∧ Aside0 (wc.heap[g2]? = some (.cells #[.int .i64 start, .int .i64 next, .int .i64 roll, .slice A x.length c, .int .i64 nm, .slice B ts.length d] 39 (0, 0))) ∧ Aside0 (Below w.heap.size w wc))
  case first =>
    cases r1
    case false => ((go_wp2_with ((first | (go_at_call 49; refine (impl_logr s0 n0 r0 _ _ x0 _ _ h1 (Kd.C_below HC0.out (by repeat (first | (with_reducible exact HB.out) | apply pw_below_drewN))) hc0 HS0.out).mono ?_) | (go_at_call 26; refine (impl_mirr start next roll nm _ _ _ _ x ts _ _ h2 (Kd.C_below HC.out (by repeat (first | (with_reducible exact HB.out) | apply pw_below_drewN))) hcc HS.out (Kd.C_below HD.out (by repeat (first | (with_reducible exact HB.out) | apply pw_below_drewN))) hd hl).mono ?_)); rintro e w' ⟨rfl, hb⟩; replace BK := Aside0.mk (blk_below (show _ = some _ from (by (with_reducible repeat (first | refine blk_drewN ?_ _ | refine blk_drew ?_)); exact BK.out)) hb); replace BM := Aside0.mk (blk_below (show _ = some _ from (by (with_reducible repeat (first | refine blk_drewN ?_ _ | refine blk_drew ?_)); exact BM.out)) hb); replace HB := Aside0.mk (bel (by repeat (first | (with_reducible exact HB.out) | apply pw_below_drewN)) hb); clear hb hz0 hz1 hz2 hz3 hm0 hm1 hm2 hm3 hm4 hm5; have hz0 := (blk_cell BK.out 0).trans rfl; have hz1 := (blk_cell BK.out 1).trans rfl; have hz2 := (blk_cell BK.out 2).trans rfl; have hz3 := (blk_cell BK.out 3).trans rfl; have hm0 := (blk_cell BM.out 0).trans rfl; have hm1 := (blk_cell BM.out 1).trans rfl; have hm2 := (blk_cell BM.out 2).trans rfl; have hm3 := (blk_cell BM.out 3).trans rfl; have hm4 := (blk_cell BM.out 4).trans rfl; have hm5 := (blk_cell BM.out 5).trans rfl)); go_meet; (case rel => exact ⟨by rw [hp.out]; simp, ⟨by (with_reducible repeat (first | refine blk_drewN ?_ _ | refine blk_drew ?_)); exact BK.out⟩, ⟨by (with_reducible repeat (first | refine blk_drewN ?_ _ | refine blk_drew ?_)); exact BM.out⟩, ⟨by repeat (first | (with_reducible exact HB.out) | apply pw_below_drewN)⟩⟩))
    cases r2
    case false => ((go_wp2_with ((first | (go_at_call 49; refine (impl_logr s0 n0 r0 _ _ x0 _ _ h1 (Kd.C_below HC0.out (by repeat (first | (with_reducible exact HB.out) | apply pw_below_drewN))) hc0 HS0.out).mono ?_) | (go_at_call 26; refine (impl_mirr start next roll nm _ _ _ _ x ts _ _ h2 (Kd.C_below HC.out (by repeat (first | (with_reducible exact HB.out) | apply pw_below_drewN))) hcc HS.out (Kd.C_below HD.out (by repeat (first | (with_reducible exact HB.out) | apply pw_below_drewN))) hd hl).mono ?_)); rintro e w' ⟨rfl, hb⟩; replace BK := Aside0.mk (blk_below (show _ = some _ from (by (with_reducible repeat (first | refine blk_drewN ?_ _ | refine blk_drew ?_)); exact BK.out)) hb); replace BM := Aside0.mk (blk_below (show _ = some _ from (by (with_reducible repeat (first | refine blk_drewN ?_ _ | refine blk_drew ?_)); exact BM.out)) hb); replace HB := Aside0.mk (bel (by repeat (first | (with_reducible exact HB.out) | apply pw_below_drewN)) hb); clear hb hz0 hz1 hz2 hz3 hm0 hm1 hm2 hm3 hm4 hm5; have hz0 := (blk_cell BK.out 0).trans rfl; have hz1 := (blk_cell BK.out 1).trans rfl; have hz2 := (blk_cell BK.out 2).trans rfl; have hz3 := (blk_cell BK.out 3).trans rfl; have hm0 := (blk_cell BM.out 0).trans rfl; have hm1 := (blk_cell BM.out 1).trans rfl; have hm2 := (blk_cell BM.out 2).trans rfl; have hm3 := (blk_cell BM.out 3).trans rfl; have hm4 := (blk_cell BM.out 4).trans rfl; have hm5 := (blk_cell BM.out 5).trans rfl)); go_meet; (case rel => exact ⟨by rw [hp.out]; simp, ⟨by (with_reducible repeat (first | refine blk_drewN ?_ _ | refine blk_drew ?_)); exact BK.out⟩, ⟨by (with_reducible repeat (first | refine blk_drewN ?_ _ | refine blk_drew ?_)); exact BM.out⟩, ⟨by repeat (first | (with_reducible exact HB.out) | apply pw_below_drewN)⟩⟩))
    ((go_wp2_with ((first | (go_at_call 49; refine (impl_logr s0 n0 r0 _ _ x0 _ _ h1 (Kd.C_below HC0.out (by repeat (first | (with_reducible exact HB.out) | apply pw_below_drewN))) hc0 HS0.out).mono ?_) | (go_at_call 26; refine (impl_mirr start next roll nm _ _ _ _ x ts _ _ h2 (Kd.C_below HC.out (by repeat (first | (with_reducible exact HB.out) | apply pw_below_drewN))) hcc HS.out (Kd.C_below HD.out (by repeat (first | (with_reducible exact HB.out) | apply pw_below_drewN))) hd hl).mono ?_)); rintro e w' ⟨rfl, hb⟩; replace BK := Aside0.mk (blk_below (show _ = some _ from (by (with_reducible repeat (first | refine blk_drewN ?_ _ | refine blk_drew ?_)); exact BK.out)) hb); replace BM := Aside0.mk (blk_below (show _ = some _ from (by (with_reducible repeat (first | refine blk_drewN ?_ _ | refine blk_drew ?_)); exact BM.out)) hb); replace HB := Aside0.mk (bel (by repeat (first | (with_reducible exact HB.out) | apply pw_below_drewN)) hb); clear hb hz0 hz1 hz2 hz3 hm0 hm1 hm2 hm3 hm4 hm5; have hz0 := (blk_cell BK.out 0).trans rfl; have hz1 := (blk_cell BK.out 1).trans rfl; have hz2 := (blk_cell BK.out 2).trans rfl; have hz3 := (blk_cell BK.out 3).trans rfl; have hm0 := (blk_cell BM.out 0).trans rfl; have hm1 := (blk_cell BM.out 1).trans rfl; have hm2 := (blk_cell BM.out 2).trans rfl; have hm3 := (blk_cell BM.out 3).trans rfl; have hm4 := (blk_cell BM.out 4).trans rfl; have hm5 := (blk_cell BM.out 5).trans rfl)); go_meet; (case rel => exact ⟨by rw [hp.out]; simp, ⟨by (with_reducible repeat (first | refine blk_drewN ?_ _ | refine blk_drew ?_)); exact BK.out⟩, ⟨by (with_reducible repeat (first | refine blk_drewN ?_ _ | refine blk_drew ?_)); exact BM.out⟩, ⟨by repeat (first | (with_reducible exact HB.out) | apply pw_below_drewN)⟩⟩))
  case rest =>
    clear hz0 hz1 hz2 hz3 hm0 hm1 hm2 hm3 hm4 hm5 BK BM HB
    obtain ⟨rfl, BK, BM, HB⟩ := hcut
    have hz0 := (blk_cell BK.out 0).trans rfl; have hz1 := (blk_cell BK.out 1).trans rfl; have hz2 := (blk_cell BK.out 2).trans rfl; have hz3 := (blk_cell BK.out 3).trans rfl; have hm0 := (blk_cell BM.out 0).trans rfl; have hm1 := (blk_cell BM.out 1).trans rfl; have hm2 := (blk_cell BM.out 2).trans rfl; have hm3 := (blk_cell BM.out 3).trans rfl; have hm4 := (blk_cell BM.out 4).trans rfl; have hm5 := (blk_cell BM.out 5).trans rfl
    cases p
    case true => (go_wp2; go_ret; exact ⟨by rw [HR.out]; simp, by repeat (first | (with_reducible exact HB.out) | apply pw_below_drewN)⟩)
    obtain ⟨rfl, rfl⟩ : r1 = true ∧ r2 = true := by
      have h := hp.out
      cases r1 <;> cases r2 <;> simp at h <;> simp
    replace HR : Aside0 (V = R) := ⟨HR.out.trans (by simp)⟩
    have hx60 := (log_in h1).2.2.2
    have hv := Aside0.mk (log_all h1)
    have hbl : Aside0 ((allB x0).length ≤ 62914560) := ⟨by have := allB_len x0 (fun s hs => (HS0.out.2 s hs).2.1); omega⟩
    have A4 : Aside0 (At wc g2 4 (.int .i64 nm)) := ⟨At.of BM.out rfl⟩
    clear h1 h2 hp HS HC HD
    (go_wp2_with (go_at_call 75; refine (impl_all s0 n0 r0 _ _ x0 _ (Kd.C_below HC0.out (by repeat (first | (with_reducible exact HB.out) | apply pw_below_drewN))) hc0 HS0.out hx60).mono ?_; rintro e w' ⟨A1, c1, rfl, hl1, hC1, hb⟩; have HC1 := Aside0.mk hC1; clear hC1; replace A4 := Aside0.mk (At.below (by first | exact A4.out | exact A4.out.drewN _) hb); replace HB := Aside0.mk (bel (by repeat (first | (with_reducible exact HB.out) | apply pw_below_drewN)) hb); clear hb hz0 hz1 hz2 hz3 hm0 hm1 hm2 hm3 hm4 hm5))
    clear BK BM HC0 HS0 hx60
    generalize allB x0 = bs at *
    have hb1 : Aside0 (Below w'.heap.size w' w') := ⟨Below.refl _ _⟩
    go_loopg [5, 20] (bs.length + 1) (fun kq v5 v20 wr => ∃ (i : Nat) (n : Int), (i + kq = bs.length + 1 ∧ i ≤ bs.length) ∧ v5 = .int .i64 n ∧ v20 = .int .i64 (i : Int) ∧ (0 ≤ n ∧ n ≤ i * 1048576) ∧ Aside0 (n + allN nm (bs.drop i) = R) ∧ Aside0 (Below w'.heap.size w' wr))
    case atStart => exact ⟨0, 0, ⟨by omega, by omega⟩, rfl, rfl, ⟨by omega, by omega⟩, ⟨by rw [List.drop_zero, HL.out]; omega⟩, ⟨by repeat (first | (with_reducible exact hb1.out) | apply pw_below_drewN)⟩⟩
    case round =>
      clear hb1
      obtain ⟨i, n, hi, rfl, rfl, hn, HX, hb1⟩ := hrel
      by_cases hit : i < bs.length
      case neg =>
        obtain rfl : i = bs.length := by omega
        have HF := Aside0.mk (HR.out.trans (HX.out.symm.trans (show _ = n by rw [List.drop_length]; simp [allN])))
        go_wp2
        go_ret
        exact ⟨by rw [HF.out]; try rfl, by first | exact bel HB.out hb1.out | exact bel HB.out (pw_below_drewN hb1.out _) | exact bel HB.out (by repeat (first | (with_reducible exact hb1.out) | apply pw_below_drewN))⟩
      obtain ⟨⟨b0, b1, b2, b3, b4, b5, rs⟩, hbe⟩ : ∃ b : Bat, bs[i] = b := ⟨_, rfl⟩
      have hib : i < 62914560 := by have := hbl.out; omega
      have hbb := hv.out _ (List.getElem_mem hit)
      rw [hbe] at hbb
      obtain ⟨p0, p1, p2, p3, p4⟩ := batch_in hbb
      have hfl := batch_fl hbb
      clear hbb
      replace HX := Aside0.mk (allN_step nm bs i _ hit hbe ▸ HX.out)
      obtain ⟨ad, A6, c6, ee, g0, e1, e2, e3, e4, g5, g6, hl6, hC6⟩ := elemB HC1.out hb1.out hit hbe
      cases ee
      clear hC6
      go_upto_region 7 with (fail)
      have B3 := Aside0.mk (blk_new wr (.cells #[.int .i64 b0, .int .i64 b1, .int .i64 b2, .int .i64 b3, .int .i64 b4, .int .i64 b5, .slice A6 rs.length c6] 82))
      replace hb1 := Aside0.mk (bel hb1.out (bel_alloc wr (.cells #[.int .i64 b0, .int .i64 b1, .int .i64 b2, .int .i64 b3, .int .i64 b4, .int .i64 b5, .slice A6 rs.length c6] 82)))
      clear g0 e1 e2 e3 e4 g5 g6
      generalize wr.alloc (.cells #[.int .i64 b0, .int .i64 b1, .int .i64 b2, .int .i64 b3, .int .i64 b4, .int .i64 b5, .slice A6 rs.length c6] 82) = W3 at *
      generalize wr.heap.size = g3 at *
      have hy6 := (blk_cell B3.out 6).trans rfl
      have D0 : Aside0 (At W3 g3 0 (.int .i64 b0)) := ⟨At.of B3.out rfl⟩
      have D5 : Aside0 (At W3 g3 5 (.int .i64 b5)) := ⟨At.of B3.out rfl⟩
      go_wp2
      go_loopg [5, 27] (rs.length + 1) (fun kq v5 v27 wr => ∃ (k : Nat) (n : Int), (k + kq = rs.length + 1 ∧ k ≤ rs.length) ∧ v5 = .int .i64 n ∧ v27 = .int .i64 (k : Int) ∧ (0 ≤ n ∧ n ≤ i * 1048576 + k) ∧ Aside0 (n + inB nm ⟨b0, b1, b2, b3, b4, b5, rs⟩ (rs.length - k) + allN nm (bs.drop (i + 1)) = R) ∧ Aside0 (Below w'.heap.size w' wr) ∧ Aside0 (At wr g3 0 (.int .i64 b0)) ∧ Aside0 (At wr g3 5 (.int .i64 b5)))
      case atStart => exact ⟨0, n, ⟨by omega, by omega⟩, rfl, rfl, ⟨by omega, by omega⟩, ⟨by rw [Nat.sub_zero, ← HX.out]; omega⟩, ⟨by repeat (first | (with_reducible exact hb1.out) | apply pw_below_drewN)⟩, ⟨by first | exact D0.out | exact D0.out.drewN _⟩, ⟨by first | exact D5.out | exact D5.out.drewN _⟩⟩
      case round =>
        clear hb1 HX hy6 B3 D0 D5
        obtain ⟨k, n, hk, rfl, rfl, hn, HX, hb1, D0, D5⟩ := hrel
        have hm4 := (A4.out.below hb1.out).2
        have hy0 := D0.out.2
        have hy5 := D5.out.2
        by_cases hkt : k < rs.length
        case neg =>
          obtain rfl : k = rs.length := by omega
          have HE : Aside0 (n + allN nm (bs.drop (i + 1)) = R) := ⟨by have h := HX.out; rw [Nat.sub_self] at h; show _ + allN _ _ = _; rw [← h]; simp [inB]⟩
          (go_wp2)
          go_roundg (bs.length - i)
          case measure => omega
          case rel => exact ⟨i + 1, n, ⟨by omega, by omega⟩, rfl, by go_num, ⟨by omega, by omega⟩, ⟨HE.out⟩, ⟨by repeat (first | (with_reducible exact hb1.out) | apply pw_below_drewN)⟩⟩
        obtain ⟨t, m1⟩ : ∃ t : Bool, decide (b5 < 4) = t := ⟨_, rfl⟩
        have m3 : (Go.bits .and .i64 b5 4 == 0) = t := (flag4 b5 hfl).trans m1
        obtain ⟨u, m2⟩ : ∃ u : Bool, decide (nm ≤ b0 + (k : Int)) = u := ⟨_, rfl⟩
        have w1 : wrap64 (b0 + (k : Int)) = b0 + (k : Int) := by unfold wrap64; omega
        have HY : Aside0 (inB nm ⟨b0, b1, b2, b3, b4, b5, rs⟩ (rs.length - k) = (if b5 < 4 ∧ nm ≤ b0 + (k : Int) then 1 else 0) + inB nm ⟨b0, b1, b2, b3, b4, b5, rs⟩ (rs.length - (k + 1))) := ⟨inB_step nm ⟨b0, b1, b2, b3, b4, b5, rs⟩ k hkt⟩
        cases t
        case false =>
          have HE : Aside0 (n + inB nm ⟨b0, b1, b2, b3, b4, b5, rs⟩ (rs.length - (k + 1)) + allN nm (bs.drop (i + 1)) = R) := ⟨by have h := HX.out; rw [HY.out, if_neg (fun h' => of_decide_eq_false m1 h'.1)] at h; omega⟩
          go_wp2
          go_roundg (rs.length - k)
          case measure => omega
          case rel => exact ⟨k + 1, n, ⟨by omega, by omega⟩, rfl, by go_num, ⟨by omega, by omega⟩, ⟨HE.out⟩, ⟨by repeat (first | (with_reducible exact hb1.out) | apply pw_below_drewN)⟩, ⟨by first | exact D0.out | exact D0.out.drewN _⟩, ⟨by first | exact D5.out | exact D5.out.drewN _⟩⟩
        cases u
        case false =>
          have HE : Aside0 (n + inB nm ⟨b0, b1, b2, b3, b4, b5, rs⟩ (rs.length - (k + 1)) + allN nm (bs.drop (i + 1)) = R) := ⟨by have h := HX.out; rw [HY.out, if_neg (fun h' => of_decide_eq_false m2 h'.2)] at h; omega⟩
          go_wp2
          go_roundg (rs.length - k)
          case measure => omega
          case rel => exact ⟨k + 1, n, ⟨by omega, by omega⟩, rfl, by go_num, ⟨by omega, by omega⟩, ⟨HE.out⟩, ⟨by repeat (first | (with_reducible exact hb1.out) | apply pw_below_drewN)⟩, ⟨by first | exact D0.out | exact D0.out.drewN _⟩, ⟨by first | exact D5.out | exact D5.out.drewN _⟩⟩
        have HE : Aside0 (n + 1 + inB nm ⟨b0, b1, b2, b3, b4, b5, rs⟩ (rs.length - (k + 1)) + allN nm (bs.drop (i + 1)) = R) := ⟨by have h := HX.out; rw [HY.out, if_pos ⟨of_decide_eq_true m1, of_decide_eq_true m2⟩] at h; omega⟩
        go_wp2
        go_roundg (rs.length - k)
        case measure => omega
        case rel => exact ⟨k + 1, n + 1, ⟨by omega, by omega⟩, by go_num, by go_num, ⟨by omega, by omega⟩, ⟨HE.out⟩, ⟨by repeat (first | (with_reducible exact hb1.out) | apply pw_below_drewN)⟩, ⟨by first | exact D0.out | exact D0.out.drewN _⟩, ⟨by first | exact D5.out | exact D5.out.drewN _⟩⟩
end Go.Proofs.Ytoacdmohgohpdaa.LogK
