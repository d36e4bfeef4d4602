/- Across, called: what reference and program tell is 'acrB'. -/
import Derived.Test.YtoacdmohgohpdaaK2LogMir
import Derived.Test.YtoacdmohgohpdaaK2BehPure
namespace Go.Proofs.Ytoacdmohgohpdaa.LogK
open Go.RowKit Go.Proofs.YtoacdmohgohpdaaW.PrintWords Go.Proofs.YtoacdmohgohpdaaW.PrintLast Go.Proofs.YtoacdmohgohpdaaW.PrintMore Go.Proofs.Ytoacdmohgohpdaa.QFnExactBehind
attribute [local go_sem] max2_int min2_int max_two min_two
theorem call_least (a b : Int) (w : World) : Calls Try.prog 77 #[.int .i64 a, .int .i64 b] w fun e w' => e = .returned (.int .i64 (lessI a b)) ∧ Drawn0 w w' := by
  by_cases h : a < b
  · have e : Aside0 (lessI a b = a) := ⟨by unfold lessI; rw [if_pos h]⟩
    go_enter Try.func77, Try.ntmps77
    go_wp2
    go_ret
    exact ⟨by rw [e.out]; rfl, ⟨0, rfl⟩⟩
  · have e : Aside0 (lessI a b = b) := ⟨by unfold lessI; rw [if_neg h]⟩
    go_enter Try.func77, Try.ntmps77
    go_wp2
    go_ret
    exact ⟨by rw [e.out]; rfl, ⟨0, rfl⟩⟩
theorem spec_mirq (start next roll nm : Int) (A B : Option Addr) (c d : Nat) (x : List Seg) (ts : List Twn) (r : Bool) (w : World) (h : mirrorB start next roll x nm ts = r) (hC : k125.C w A x.length x) (hcc : x.length ≤ c) (hs : smL x) (hD : k106.C w B ts.length ts) (hd : ts.length ≤ d) (hl : ts.length ≤ 1048576) :
    Calls Try.prog 24 #[.agg #[.int .i64 start, .int .i64 next, .int .i64 roll, .slice A x.length c, .int .i64 nm, .slice B ts.length d]] w fun e w' => e = .returned (.bool r) ∧ Below w.heap.size w w' := by
  subst h
  exact spec_mirror start next roll nm A B c d x ts w hC hcc hs hD hd hl
set_option maxHeartbeats 3200000 in
set_option maxRecDepth 100000 in
theorem spec_across (start next roll nm : Int) (A B : Option Addr) (c d : Nat) (x : List Seg) (ts : List Twn) (o : Int) (w : World) (hC : k125.C w A x.length x) (hcc : x.length ≤ c) (hs : smL x) (hD : k106.C w B ts.length ts) (hd : ts.length ≤ d) (hl : ts.length ≤ 1048576) (V : Int) (hV : acrB start next (mirrorB start next roll x nm ts) ts o = V) :
    Calls Try.prog 32 #[.agg #[.int .i64 start, .int .i64 next, .int .i64 roll, .slice A x.length c, .int .i64 nm, .slice B ts.length d], .int .i64 o] w fun e w' => e = .returned (.int .i64 V) ∧ Below w.heap.size w w' := by
  have HC := Aside0.mk hC
  have HD := Aside0.mk hD
  have HS := Aside0.mk hs
  clear hC hD hs
  obtain ⟨r1, a2, h1, h2⟩ : ∃ r1 a2 : Bool, mirrorB start next roll x nm ts = r1 ∧ decide (0 ≤ o ∧ o ≤ 1000000000) = a2 := ⟨_, _, rfl, rfl⟩
  obtain ⟨p, hp⟩ : ∃ p : Bool, p = (!r1 || !a2) := ⟨_, rfl⟩
  obtain ⟨L, HL⟩ : ∃ L : Int, lastAt o 0 (-1) ts = L := ⟨_, rfl⟩
  have HR : Aside0 (V = if p = true then -1 else acrossAt start next ts o L) := ⟨by
    rw [← hV]; unfold acrB; rw [h1, hp, HL]
    by_cases h3 : 0 ≤ o ∧ o ≤ 1000000000
    · have h2' : a2 = true := by rw [← h2]; exact decide_eq_true h3
      subst h2'
      cases r1
      · simp
      · simp [h3]
    · have h2' : a2 = false := by rw [← h2]; exact decide_eq_false h3
      subst h2'
      rw [if_neg (fun h => h3 h.2)]
      cases r1 <;> simp⟩
  have hLi := lastAt_in o ts 0 (-1) (.inl rfl)
  rw [HL] at hLi
  replace hLi := Aside0.mk hLi
  clear hV
  replace hp := Aside0.mk hp
  replace HL := Aside0.mk HL
  go_enter Try.func32, Try.ntmps32
  go_upto_region 1 with (fail)
  have BK := Aside0.mk (blk_new w (.cells #[.int .i64 start, .int .i64 next, .int .i64 roll, .slice A x.length c, .int .i64 nm, .slice B ts.length d] 39))
  have HB := Aside0.mk (bel_alloc w (.cells #[.int .i64 start, .int .i64 next, .int .i64 roll, .slice A x.length c, .int .i64 nm, .slice B ts.length d] 39))
  obtain ⟨g, hgg⟩ : ∃ g, g = w.heap.size := ⟨_, rfl⟩
  rw [← hgg] at BK
  simp only [← hgg]
  clear hgg
  generalize w.alloc (.cells #[.int .i64 start, .int .i64 next, .int .i64 roll, .slice A x.length c, .int .i64 nm, .slice B ts.length d] 39) = W at *
  have hz0 := (blk_cell BK.out 0).trans rfl
  have hz1 := (blk_cell BK.out 1).trans rfl
  have hz2 := (blk_cell BK.out 2).trans rfl
  have hz3 := (blk_cell BK.out 3).trans rfl
  have hz4 := (blk_cell BK.out 4).trans rfl
  have hz5 := (blk_cell BK.out 5).trans rfl
  have hfz0 := blk_frozen BK.out 0
  have hfz1 := blk_frozen BK.out 1
  have hfz2 := blk_frozen BK.out 2
  have hfz3 := blk_frozen BK.out 3
  have hfz4 := blk_frozen BK.out 4
  have hfz5 := blk_frozen BK.out 5
  go_cut [15] (fun v15 wc => v15 = .bool p ∧ Aside0 (wc.heap[g]? = some (.cells #[.int .i64 start, .int .i64 next, .int .i64 roll, .slice A x.length c, .int .i64 nm, .slice B ts.length d] 39 (0, 0))) ∧ Aside0 (Below w.heap.size w wc))
  case first =>
    cases r1
    case false => ((go_wp2_with (first | (go_at_call 24; refine (spec_mirq start next roll nm _ _ _ _ x ts _ _ h1 (Kd.C_below HC.out (by repeat (first | (with_reducible exact HB.out) | apply pw_below_drewN))) hcc HS.out (Kd.C_below HD.out (by repeat (first | (with_reducible exact HB.out) | apply pw_below_drewN))) hd hl).mono ?_; rintro e w' ⟨rfl, hb⟩; replace BK := Aside0.mk (blk_below (show _ = some _ from (by (with_reducible repeat (first | refine blk_drewN ?_ _ | refine blk_drew ?_)); exact BK.out)) hb); replace HB := Aside0.mk (bel (by repeat (first | (with_reducible exact HB.out) | apply pw_below_drewN)) hb); clear hb hz0 hfz0 hz1 hfz1 hz2 hfz2 hz3 hfz3 hz4 hfz4 hz5 hfz5; have hz0 := (blk_cell BK.out 0).trans rfl; have hz1 := (blk_cell BK.out 1).trans rfl; have hz2 := (blk_cell BK.out 2).trans rfl; have hz3 := (blk_cell BK.out 3).trans rfl; have hz4 := (blk_cell BK.out 4).trans rfl; have hz5 := (blk_cell BK.out 5).trans rfl) | (go_at_call 54; refine (call_in _ _ _ _ _ h2).mono ?_; rintro e w' ⟨rfl, ⟨_, rfl⟩⟩))); go_meet; (case rel => exact ⟨by rw [hp.out]; simp, ⟨by (with_reducible repeat (first | refine blk_drewN ?_ _ | refine blk_drew ?_)); exact BK.out⟩, ⟨by repeat (first | (with_reducible exact HB.out) | apply pw_below_drewN)⟩⟩))
    cases a2
    case false => ((go_wp2_with (first | (go_at_call 24; refine (spec_mirq start next roll nm _ _ _ _ x ts _ _ h1 (Kd.C_below HC.out (by repeat (first | (with_reducible exact HB.out) | apply pw_below_drewN))) hcc HS.out (Kd.C_below HD.out (by repeat (first | (with_reducible exact HB.out) | apply pw_below_drewN))) hd hl).mono ?_; rintro e w' ⟨rfl, hb⟩; replace BK := Aside0.mk (blk_below (show _ = some _ from (by (with_reducible repeat (first | refine blk_drewN ?_ _ | refine blk_drew ?_)); exact BK.out)) hb); replace HB := Aside0.mk (bel (by repeat (first | (with_reducible exact HB.out) | apply pw_below_drewN)) hb); clear hb hz0 hfz0 hz1 hfz1 hz2 hfz2 hz3 hfz3 hz4 hfz4 hz5 hfz5; have hz0 := (blk_cell BK.out 0).trans rfl; have hz1 := (blk_cell BK.out 1).trans rfl; have hz2 := (blk_cell BK.out 2).trans rfl; have hz3 := (blk_cell BK.out 3).trans rfl; have hz4 := (blk_cell BK.out 4).trans rfl; have hz5 := (blk_cell BK.out 5).trans rfl) | (go_at_call 54; refine (call_in _ _ _ _ _ h2).mono ?_; rintro e w' ⟨rfl, ⟨_, rfl⟩⟩))); go_meet; (case rel => exact ⟨by rw [hp.out]; simp, ⟨by (with_reducible repeat (first | refine blk_drewN ?_ _ | refine blk_drew ?_)); exact BK.out⟩, ⟨by repeat (first | (with_reducible exact HB.out) | apply pw_below_drewN)⟩⟩))
    ((go_wp2_with (first | (go_at_call 24; refine (spec_mirq start next roll nm _ _ _ _ x ts _ _ h1 (Kd.C_below HC.out (by repeat (first | (with_reducible exact HB.out) | apply pw_below_drewN))) hcc HS.out (Kd.C_below HD.out (by repeat (first | (with_reducible exact HB.out) | apply pw_below_drewN))) hd hl).mono ?_; rintro e w' ⟨rfl, hb⟩; replace BK := Aside0.mk (blk_below (show _ = some _ from (by (with_reducible repeat (first | refine blk_drewN ?_ _ | refine blk_drew ?_)); exact BK.out)) hb); replace HB := Aside0.mk (bel (by repeat (first | (with_reducible exact HB.out) | apply pw_below_drewN)) hb); clear hb hz0 hfz0 hz1 hfz1 hz2 hfz2 hz3 hfz3 hz4 hfz4 hz5 hfz5; have hz0 := (blk_cell BK.out 0).trans rfl; have hz1 := (blk_cell BK.out 1).trans rfl; have hz2 := (blk_cell BK.out 2).trans rfl; have hz3 := (blk_cell BK.out 3).trans rfl; have hz4 := (blk_cell BK.out 4).trans rfl; have hz5 := (blk_cell BK.out 5).trans rfl) | (go_at_call 54; refine (call_in _ _ _ _ _ h2).mono ?_; rintro e w' ⟨rfl, ⟨_, rfl⟩⟩))); go_meet; (case rel => exact ⟨by rw [hp.out]; simp, ⟨by (with_reducible repeat (first | refine blk_drewN ?_ _ | refine blk_drew ?_)); exact BK.out⟩, ⟨by repeat (first | (with_reducible exact HB.out) | apply pw_below_drewN)⟩⟩))
  case rest =>
    clear hz0 hfz0 hz1 hfz1 hz2 hfz2 hz3 hfz3 hz4 hfz4 hz5 hfz5 BK HB
    obtain ⟨rfl, BK, HB⟩ := hcut
    have hz0 := (blk_cell BK.out 0).trans rfl
    have hz1 := (blk_cell BK.out 1).trans rfl
    have hz2 := (blk_cell BK.out 2).trans rfl
    have hz3 := (blk_cell BK.out 3).trans rfl
    have hz4 := (blk_cell BK.out 4).trans rfl
    have hz5 := (blk_cell BK.out 5).trans rfl
    have hfz0 := blk_frozen BK.out 0
    have hfz1 := blk_frozen BK.out 1
    have hfz2 := blk_frozen BK.out 2
    have hfz3 := blk_frozen BK.out 3
    have hfz4 := blk_frozen BK.out 4
    have hfz5 := blk_frozen BK.out 5
    cases p
    case true => (go_wp2; go_ret; exact ⟨by rw [HR.out]; simp, by repeat (first | (with_reducible exact HB.out) | apply pw_below_drewN)⟩)
    obtain ⟨rfl, rfl⟩ : r1 = true ∧ a2 = true := by
      have h := hp.out
      cases r1 <;> cases a2 <;> simp at h <;> simp
    replace HR : Aside0 (V = acrossAt start next ts o L) := ⟨HR.out.trans (by simp)⟩
    have ho := of_decide_eq_true h2
    obtain ⟨hm1, hm2, hm3, hm4⟩ := mirror_in h1
    have hm5 := (log_in hm1).2
    have hm6 := Aside0.mk hm4
    clear h1 h2 hp HS HC hm1 hm4
    go_wp2
    have A0 : Aside0 (At wc g 0 (.int .i64 start)) := ⟨At.of BK.out rfl⟩
    have A1 : Aside0 (At wc g 1 (.int .i64 next)) := ⟨At.of BK.out rfl⟩
    have A5 : Aside0 (At wc g 5 (.slice B ts.length d)) := ⟨At.of BK.out rfl⟩
    go_loopg [5, 6] (ts.length + 1) (fun kq v5 v6 wr => ∃ (i : Nat) (at_ : Int), (i + kq = ts.length + 1 ∧ i ≤ ts.length) ∧ v5 = .int .i64 at_ ∧ v6 = .int .i64 (i : Int) ∧ Aside0 (lastAt o i at_ (ts.drop i) = L) ∧ Aside0 (At wr g 0 (.int .i64 start)) ∧ Aside0 (At wr g 1 (.int .i64 next)) ∧ Aside0 (At wr g 5 (.slice B ts.length d)) ∧ Aside0 (Below w.heap.size w wr))
    case atStart => exact ⟨0, -1, ⟨by omega, by omega⟩, rfl, rfl, ⟨by rw [List.drop_zero]; exact HL.out⟩, ⟨by first | exact A0.out | exact A0.out.drewN _⟩, ⟨by first | exact A1.out | exact A1.out.drewN _⟩, ⟨by first | exact A5.out | exact A5.out.drewN _⟩, ⟨by repeat (first | (with_reducible exact HB.out) | apply pw_below_drewN)⟩⟩
    case round =>
      clear hz0 hfz0 hz1 hfz1 hz2 hfz2 hz3 hfz3 hz4 hfz4 hz5 hfz5 BK A0 A1 A5 HB
      obtain ⟨i, at_, hi, rfl, rfl, HX, A0, A1, A5, HB⟩ := hrel
      have hz0 := A0.out.2
      have hz1 := A1.out.2
      have hz5 := A5.out.2
      by_cases hit : i < ts.length
      case neg =>
        obtain rfl : i = ts.length := by omega
        obtain rfl : at_ = L := by have h := HX.out; rw [List.drop_length] at h; exact h
        clear HX
        by_cases hL0 : at_ < 0
        case pos =>
          have HF : Aside0 (V = start) := ⟨by rw [HR.out]; unfold acrossAt; rw [if_pos hL0]⟩
          go_wp2
          go_ret
          exact ⟨by rw [HF.out]; try rfl, by repeat (first | (with_reducible exact HB.out) | apply pw_below_drewN)⟩
        obtain ⟨m, hm⟩ : ∃ m : Nat, at_ = (m : Int) := ⟨at_.toNat, by omega⟩
        subst hm
        have hmt : m < ts.length := by have := hLi.out; omega
        obtain ⟨⟨p0, p1⟩, hpe⟩ : ∃ s : Twn, ts[m] = s := ⟨_, rfl⟩
        have hpb := hm6.out _ (List.getElem_mem hmt)
        rw [hpe] at hpb
        obtain ⟨⟨hp1, hp2⟩, hp3, hp4⟩ : (0 ≤ p0 ∧ p0 ≤ nm - 1) ∧ 0 ≤ p1 ∧ p1 ≤ next - 1 := hpb
        obtain ⟨ad, ee, g0, g1⟩ := elemT (Kd.C_below HD.out HB.out) hmt hpe
        cases ee
        have HG : Aside0 (ts.getD m z106 = ⟨p0, p1⟩) := ⟨by simp [hmt, hpe]⟩
        replace hpe := Aside0.mk hpe
        obtain ⟨m2, hm2e⟩ : ∃ m2 : Nat, m2 = m + 1 := ⟨_, rfl⟩
        have wm : wrap64 ((m : Int) + 1) = (m2 : Int) := by unfold wrap64; omega
        have wm2 : IntKind.i64.wrap ((m : Int) + 1) = (m2 : Int) := (i64_w _).trans wm
        have w1 : IntKind.i64.wrap (p1 + o) = p1 + o := (i64_w _).trans (by unfold wrap64; omega)
        have w2 : IntKind.i64.wrap (p1 + o - p0) = p1 + o - p0 := (i64_w _).trans (by unfold wrap64; omega)
        have q1 : (m : Int) < (ts.length : Int) := Int.ofNat_lt.mpr hmt
        have HA0 : Aside0 (V = lessI (p1 + o - p0) (if (m2 : Int) < ts.length then (ts.getD m2 z106).f1 else next)) := ⟨by
          rw [HR.out]; unfold acrossAt; rw [if_neg hL0, show ((m : Int)).toNat = m from rfl, HG.out, show (m : Int) + 1 = (m2 : Int) by omega, show ((m2 : Int)).toNat = m2 from rfl]⟩
        replace hm2e := Aside0.mk hm2e
        clear HG hL0 HR hLi hm6
        by_cases hnt : m2 < ts.length
        case pos =>
          obtain ⟨⟨u0, u1⟩, hue⟩ : ∃ s : Twn, ts[m2] = s := ⟨_, rfl⟩
          obtain ⟨ad2, ee, g2', g3'⟩ := elemT (Kd.C_below HD.out HB.out) hnt hue
          cases ee
          have q2 : (m2 : Int) < (ts.length : Int) := by omega
          have HA : Aside0 (V = lessI (p1 + o - p0) u1) := ⟨by rw [HA0.out, if_pos q2, show ts.getD m2 z106 = ⟨u0, u1⟩ by simp [hnt, hue]]⟩
          clear hue HA0
          go_upto_region 14 with (fail)
          go_quiet ((go_at_call 77; exact (Calls.quiet_of ((call_least _ _ _).mono (fun _ _ h => ⟨h.1, h.2.out⟩)))))
          go_wp2
          go_ret
          exact ⟨by rw [HA.out]; rfl, by repeat (first | (with_reducible exact HB.out) | apply pw_below_drewN)⟩
        case neg =>
          have q2 : decide ((m2 : Int) < (ts.length : Int)) = false := decide_eq_false (by omega)
          have HA : Aside0 (V = lessI (p1 + o - p0) next) := ⟨by rw [HA0.out, if_neg (of_decide_eq_false q2)]⟩
          clear HA0
          go_upto_region 14 with (fail)
          go_quiet ((go_at_call 77; exact (Calls.quiet_of ((call_least _ _ _).mono (fun _ _ h => ⟨h.1, h.2.out⟩)))))
          go_wp2
          go_ret
          exact ⟨by rw [HA.out]; rfl, by repeat (first | (with_reducible exact HB.out) | apply pw_below_drewN)⟩
      obtain ⟨⟨t0, t1⟩, hse⟩ : ∃ s : Twn, ts[i] = s := ⟨_, rfl⟩
      obtain ⟨ad, ee, g0, g1⟩ := elemT (Kd.C_below HD.out HB.out) hit hse
      cases ee
      have HY : Aside0 (lastAt o (i + 1) (if t0 ≤ o then (i : Int) else at_) (ts.drop (i + 1)) = L) := ⟨(lastAt_step o at_ ts i ⟨t0, t1⟩ hit hse).symm.trans HX.out⟩
      clear hse HX
      by_cases ht : t0 ≤ o
      case pos =>
        have HE : Aside0 (lastAt o (i + 1) (i : Int) (ts.drop (i + 1)) = L) := ⟨by have h := HY.out; rwa [if_pos ht] at h⟩
        go_wp2
        go_roundg (ts.length - i)
        case measure => omega
        case rel => exact ⟨i + 1, i, ⟨by omega, by omega⟩, rfl, by go_num, ⟨HE.out⟩, ⟨by first | exact A0.out | exact A0.out.drewN _⟩, ⟨by first | exact A1.out | exact A1.out.drewN _⟩, ⟨by first | exact A5.out | exact A5.out.drewN _⟩, ⟨by repeat (first | (with_reducible exact HB.out) | apply pw_below_drewN)⟩⟩
      case neg =>
        have HE : Aside0 (lastAt o (i + 1) at_ (ts.drop (i + 1)) = L) := ⟨by have h := HY.out; rwa [if_neg ht] at h⟩
        go_wp2
        go_roundg (ts.length - i)
        case measure => omega
        case rel => exact ⟨i + 1, at_, ⟨by omega, by omega⟩, rfl, by go_num, ⟨HE.out⟩, ⟨by first | exact A0.out | exact A0.out.drewN _⟩, ⟨by first | exact A1.out | exact A1.out.drewN _⟩, ⟨by first | exact A5.out | exact A5.out.drewN _⟩, ⟨by repeat (first | (with_reducible exact HB.out) | apply pw_below_drewN)⟩⟩
theorem impl_mirq (start next roll nm : Int) (A B : Option Addr) (c d : Nat) (x : List Seg) (ts : List Twn) (r : Bool) (w : World) (h : mirrorB start next roll x nm ts = r) (hC : k125.C w A x.length x) (hcc : x.length ≤ c) (hs : smL x) (hD : k106.C w B ts.length ts) (hd : ts.length ≤ d) (hl : ts.length ≤ 1048576) :
    Calls Try.prog 26 #[.agg #[.int .i64 start, .int .i64 next, .int .i64 roll, .slice A x.length c, .int .i64 nm, .slice B ts.length d]] w fun e w' => e = .returned (.bool r) ∧ Below w.heap.size w w' := by
  subst h
  exact impl_mirror start next roll nm A B c d x ts w hC hcc hs hD hd hl
set_option maxHeartbeats 3200000 in
set_option maxRecDepth 100000 in
theorem impl_across (start next roll nm : Int) (A B : Option Addr) (c d : Nat) (x : List Seg) (ts : List Twn) (o : Int) (w : World) (hC : k125.C w A x.length x) (hcc : x.length ≤ c) (hs : smL x) (hD : k106.C w B ts.length ts) (hd : ts.length ≤ d) (hl : ts.length ≤ 1048576) (V : Int) (hV : acrB start next (mirrorB start next roll x nm ts) ts o = V) :
    Calls Try.prog 33 #[.agg #[.int .i64 start, .int .i64 next, .int .i64 roll, .slice A x.length c, .int .i64 nm, .slice B ts.length d], .int .i64 o] w fun e w' => e = .returned (.int .i64 V) ∧ Below w.heap.size w w' := by
  have HC := Aside0.mk hC
  have HD := Aside0.mk hD
  have HS := Aside0.mk hs
  clear hC hD hs
  obtain ⟨r1, a2, h1, h2⟩ : ∃ r1 a2 : Bool, mirrorB start next roll x nm ts = r1 ∧ decide (0 ≤ o ∧ o ≤ 1000000000) = a2 := ⟨_, _, rfl, rfl⟩
  obtain ⟨p, hp⟩ : ∃ p : Bool, p = (!r1 || !a2) := ⟨_, rfl⟩
  obtain ⟨L, HL⟩ : ∃ L : Int, lastAt o 0 (-1) ts = L := ⟨_, rfl⟩
  have HR : Aside0 (V = if p = true then -1 else acrossAt start next ts o L) := ⟨by
    rw [← hV]; unfold acrB; rw [h1, hp, HL]
    by_cases h3 : 0 ≤ o ∧ o ≤ 1000000000
    · have h2' : a2 = true := by rw [← h2]; exact decide_eq_true h3
      subst h2'
      cases r1
      · simp
      · simp [h3]
    · have h2' : a2 = false := by rw [← h2]; exact decide_eq_false h3
      subst h2'
      rw [if_neg (fun h => h3 h.2)]
      cases r1 <;> simp⟩
  have hLi := lastAt_in o ts 0 (-1) (.inl rfl)
  rw [HL] at hLi
  replace hLi := Aside0.mk hLi
  clear hV
  replace hp := Aside0.mk hp
  replace HL := Aside0.mk HL
  go_enter Try.func33, Try.ntmps33
  go_upto_region 1 with (fail)
  have BK := Aside0.mk (blk_new w (.cells #[.int .i64 start, .int .i64 next, .int .i64 roll, .slice A x.length c, .int .i64 nm, .slice B ts.length d] 39))
  have HB := Aside0.mk (bel_alloc w (.cells #[.int .i64 start, .int .i64 next, .int .i64 roll, .slice A x.length c, .int .i64 nm, .slice B ts.length d] 39))
  obtain ⟨g, hgg⟩ : ∃ g, g = w.heap.size := ⟨_, rfl⟩
  rw [← hgg] at BK
  simp only [← hgg]
  clear hgg
  generalize w.alloc (.cells #[.int .i64 start, .int .i64 next, .int .i64 roll, .slice A x.length c, .int .i64 nm, .slice B ts.length d] 39) = W at *
  have hz0 := (blk_cell BK.out 0).trans rfl
  have hz1 := (blk_cell BK.out 1).trans rfl
  have hz2 := (blk_cell BK.out 2).trans rfl
  have hz3 := (blk_cell BK.out 3).trans rfl
  have hz4 := (blk_cell BK.out 4).trans rfl
  have hz5 := (blk_cell BK.out 5).trans rfl
  have hfz0 := blk_frozen BK.out 0
  have hfz1 := blk_frozen BK.out 1
  have hfz2 := blk_frozen BK.out 2
  have hfz3 := blk_frozen BK.out 3
  have hfz4 := blk_frozen BK.out 4
  have hfz5 := blk_frozen BK.out 5
  go_cut [16] (fun v16 wc => v16 = .bool p ∧ Aside0 (wc.heap[g]? = some (.cells #[.int .i64 start, .int .i64 next, .int .i64 roll, .slice A x.length c, .int .i64 nm, .slice B ts.length d] 39 (0, 0))) ∧ Aside0 (Below w.heap.size w wc))
  case first =>
    cases r1
    case false => ((go_wp2_with (first | (go_at_call 26; refine (impl_mirq start next roll nm _ _ _ _ x ts _ _ h1 (Kd.C_below HC.out (by repeat (first | (with_reducible exact HB.out) | apply pw_below_drewN))) hcc HS.out (Kd.C_below HD.out (by repeat (first | (with_reducible exact HB.out) | apply pw_below_drewN))) hd hl).mono ?_; rintro e w' ⟨rfl, hb⟩; replace BK := Aside0.mk (blk_below (show _ = some _ from (by (with_reducible repeat (first | refine blk_drewN ?_ _ | refine blk_drew ?_)); exact BK.out)) hb); replace HB := Aside0.mk (bel (by repeat (first | (with_reducible exact HB.out) | apply pw_below_drewN)) hb); clear hb hz0 hfz0 hz1 hfz1 hz2 hfz2 hz3 hfz3 hz4 hfz4 hz5 hfz5; have hz0 := (blk_cell BK.out 0).trans rfl; have hz1 := (blk_cell BK.out 1).trans rfl; have hz2 := (blk_cell BK.out 2).trans rfl; have hz3 := (blk_cell BK.out 3).trans rfl; have hz4 := (blk_cell BK.out 4).trans rfl; have hz5 := (blk_cell BK.out 5).trans rfl) | (go_at_call 62; refine (call_offset _ _ _ h2).mono ?_; rintro e w' ⟨rfl, ⟨_, rfl⟩⟩))); go_meet; (case rel => exact ⟨by rw [hp.out]; simp, ⟨by (with_reducible repeat (first | refine blk_drewN ?_ _ | refine blk_drew ?_)); exact BK.out⟩, ⟨by repeat (first | (with_reducible exact HB.out) | apply pw_below_drewN)⟩⟩))
    cases a2
    case false => ((go_wp2_with (first | (go_at_call 26; refine (impl_mirq start next roll nm _ _ _ _ x ts _ _ h1 (Kd.C_below HC.out (by repeat (first | (with_reducible exact HB.out) | apply pw_below_drewN))) hcc HS.out (Kd.C_below HD.out (by repeat (first | (with_reducible exact HB.out) | apply pw_below_drewN))) hd hl).mono ?_; rintro e w' ⟨rfl, hb⟩; replace BK := Aside0.mk (blk_below (show _ = some _ from (by (with_reducible repeat (first | refine blk_drewN ?_ _ | refine blk_drew ?_)); exact BK.out)) hb); replace HB := Aside0.mk (bel (by repeat (first | (with_reducible exact HB.out) | apply pw_below_drewN)) hb); clear hb hz0 hfz0 hz1 hfz1 hz2 hfz2 hz3 hfz3 hz4 hfz4 hz5 hfz5; have hz0 := (blk_cell BK.out 0).trans rfl; have hz1 := (blk_cell BK.out 1).trans rfl; have hz2 := (blk_cell BK.out 2).trans rfl; have hz3 := (blk_cell BK.out 3).trans rfl; have hz4 := (blk_cell BK.out 4).trans rfl; have hz5 := (blk_cell BK.out 5).trans rfl) | (go_at_call 62; refine (call_offset _ _ _ h2).mono ?_; rintro e w' ⟨rfl, ⟨_, rfl⟩⟩))); go_meet; (case rel => exact ⟨by rw [hp.out]; simp, ⟨by (with_reducible repeat (first | refine blk_drewN ?_ _ | refine blk_drew ?_)); exact BK.out⟩, ⟨by repeat (first | (with_reducible exact HB.out) | apply pw_below_drewN)⟩⟩))
    ((go_wp2_with (first | (go_at_call 26; refine (impl_mirq start next roll nm _ _ _ _ x ts _ _ h1 (Kd.C_below HC.out (by repeat (first | (with_reducible exact HB.out) | apply pw_below_drewN))) hcc HS.out (Kd.C_below HD.out (by repeat (first | (with_reducible exact HB.out) | apply pw_below_drewN))) hd hl).mono ?_; rintro e w' ⟨rfl, hb⟩; replace BK := Aside0.mk (blk_below (show _ = some _ from (by (with_reducible repeat (first | refine blk_drewN ?_ _ | refine blk_drew ?_)); exact BK.out)) hb); replace HB := Aside0.mk (bel (by repeat (first | (with_reducible exact HB.out) | apply pw_below_drewN)) hb); clear hb hz0 hfz0 hz1 hfz1 hz2 hfz2 hz3 hfz3 hz4 hfz4 hz5 hfz5; have hz0 := (blk_cell BK.out 0).trans rfl; have hz1 := (blk_cell BK.out 1).trans rfl; have hz2 := (blk_cell BK.out 2).trans rfl; have hz3 := (blk_cell BK.out 3).trans rfl; have hz4 := (blk_cell BK.out 4).trans rfl; have hz5 := (blk_cell BK.out 5).trans rfl) | (go_at_call 62; refine (call_offset _ _ _ h2).mono ?_; rintro e w' ⟨rfl, ⟨_, rfl⟩⟩))); go_meet; (case rel => exact ⟨by rw [hp.out]; simp, ⟨by (with_reducible repeat (first | refine blk_drewN ?_ _ | refine blk_drew ?_)); exact BK.out⟩, ⟨by repeat (first | (with_reducible exact HB.out) | apply pw_below_drewN)⟩⟩))
  case rest =>
    clear hz0 hfz0 hz1 hfz1 hz2 hfz2 hz3 hfz3 hz4 hfz4 hz5 hfz5 BK HB
    obtain ⟨rfl, BK, HB⟩ := hcut
    have hz0 := (blk_cell BK.out 0).trans rfl
    have hz1 := (blk_cell BK.out 1).trans rfl
    have hz2 := (blk_cell BK.out 2).trans rfl
    have hz3 := (blk_cell BK.out 3).trans rfl
    have hz4 := (blk_cell BK.out 4).trans rfl
    have hz5 := (blk_cell BK.out 5).trans rfl
    have hfz0 := blk_frozen BK.out 0
    have hfz1 := blk_frozen BK.out 1
    have hfz2 := blk_frozen BK.out 2
    have hfz3 := blk_frozen BK.out 3
    have hfz4 := blk_frozen BK.out 4
    have hfz5 := blk_frozen BK.out 5
    cases p
    case true => (go_wp2; go_ret; exact ⟨by rw [HR.out]; simp, by repeat (first | (with_reducible exact HB.out) | apply pw_below_drewN)⟩)
    obtain ⟨rfl, rfl⟩ : r1 = true ∧ a2 = true := by
      have h := hp.out
      cases r1 <;> cases a2 <;> simp at h <;> simp
    replace HR : Aside0 (V = acrossAt start next ts o L) := ⟨HR.out.trans (by simp)⟩
    have ho := of_decide_eq_true h2
    obtain ⟨hm1, hm2, hm3, hm4⟩ := mirror_in h1
    have hm5 := (log_in hm1).2
    have hm6 := Aside0.mk hm4
    clear h1 h2 hp HS HC hm1 hm4
    go_wp2
    have A0 : Aside0 (At wc g 0 (.int .i64 start)) := ⟨At.of BK.out rfl⟩
    have A1 : Aside0 (At wc g 1 (.int .i64 next)) := ⟨At.of BK.out rfl⟩
    have A5 : Aside0 (At wc g 5 (.slice B ts.length d)) := ⟨At.of BK.out rfl⟩
    go_loopg [5, 20] (ts.length + 1) (fun kq v5 v20 wr => ∃ (i : Nat) (at_ : Int), (i + kq = ts.length + 1 ∧ i ≤ ts.length) ∧ v5 = .int .i64 at_ ∧ v20 = .int .i64 (i : Int) ∧ Aside0 (lastAt o i at_ (ts.drop i) = L) ∧ Aside0 (At wr g 0 (.int .i64 start)) ∧ Aside0 (At wr g 1 (.int .i64 next)) ∧ Aside0 (At wr g 5 (.slice B ts.length d)) ∧ Aside0 (Below w.heap.size w wr))
    case atStart => exact ⟨0, -1, ⟨by omega, by omega⟩, rfl, rfl, ⟨by rw [List.drop_zero]; exact HL.out⟩, ⟨by first | exact A0.out | exact A0.out.drewN _⟩, ⟨by first | exact A1.out | exact A1.out.drewN _⟩, ⟨by first | exact A5.out | exact A5.out.drewN _⟩, ⟨by repeat (first | (with_reducible exact HB.out) | apply pw_below_drewN)⟩⟩
    case round =>
      clear hz0 hfz0 hz1 hfz1 hz2 hfz2 hz3 hfz3 hz4 hfz4 hz5 hfz5 BK A0 A1 A5 HB
      obtain ⟨i, at_, hi, rfl, rfl, HX, A0, A1, A5, HB⟩ := hrel
      have hz0 := A0.out.2
      have hz1 := A1.out.2
      have hz5 := A5.out.2
      by_cases hit : i < ts.length
      case neg =>
        obtain rfl : i = ts.length := by omega
        obtain rfl : at_ = L := by have h := HX.out; rw [List.drop_length] at h; exact h
        clear HX
        by_cases hL0 : at_ < 0
        case pos =>
          have HF : Aside0 (V = start) := ⟨by rw [HR.out]; unfold acrossAt; rw [if_pos hL0]⟩
          go_wp2
          go_ret
          exact ⟨by rw [HF.out]; try rfl, by repeat (first | (with_reducible exact HB.out) | apply pw_below_drewN)⟩
        obtain ⟨m, hm⟩ : ∃ m : Nat, at_ = (m : Int) := ⟨at_.toNat, by omega⟩
        subst hm
        have hmt : m < ts.length := by have := hLi.out; omega
        obtain ⟨⟨p0, p1⟩, hpe⟩ : ∃ s : Twn, ts[m] = s := ⟨_, rfl⟩
        have hpb := hm6.out _ (List.getElem_mem hmt)
        rw [hpe] at hpb
        obtain ⟨⟨hp1, hp2⟩, hp3, hp4⟩ : (0 ≤ p0 ∧ p0 ≤ nm - 1) ∧ 0 ≤ p1 ∧ p1 ≤ next - 1 := hpb
        obtain ⟨ad, ee, g0, g1⟩ := elemT (Kd.C_below HD.out HB.out) hmt hpe
        cases ee
        have HG : Aside0 (ts.getD m z106 = ⟨p0, p1⟩) := ⟨by simp [hmt, hpe]⟩
        replace hpe := Aside0.mk hpe
        obtain ⟨m2, hm2e⟩ : ∃ m2 : Nat, m2 = m + 1 := ⟨_, rfl⟩
        have wm : wrap64 ((m : Int) + 1) = (m2 : Int) := by unfold wrap64; omega
        have wm2 : IntKind.i64.wrap ((m : Int) + 1) = (m2 : Int) := (i64_w _).trans wm
        have w1 : IntKind.i64.wrap (p1 + o) = p1 + o := (i64_w _).trans (by unfold wrap64; omega)
        have w2 : IntKind.i64.wrap (p1 + o - p0) = p1 + o - p0 := (i64_w _).trans (by unfold wrap64; omega)
        have q1 : (m : Int) < (ts.length : Int) := Int.ofNat_lt.mpr hmt
        have HA0 : Aside0 (V = lessI (p1 + o - p0) (if (m2 : Int) < ts.length then (ts.getD m2 z106).f1 else next)) := ⟨by
          rw [HR.out]; unfold acrossAt; rw [if_neg hL0, show ((m : Int)).toNat = m from rfl, HG.out, show (m : Int) + 1 = (m2 : Int) by omega, show ((m2 : Int)).toNat = m2 from rfl]⟩
        replace hm2e := Aside0.mk hm2e
        clear HG hL0 HR hLi hm6
        by_cases hnt : m2 < ts.length
        case pos =>
          obtain ⟨⟨u0, u1⟩, hue⟩ : ∃ s : Twn, ts[m2] = s := ⟨_, rfl⟩
          obtain ⟨ad2, ee, g2', g3'⟩ := elemT (Kd.C_below HD.out HB.out) hnt hue
          cases ee
          have q2 : (m2 : Int) < (ts.length : Int) := by omega
          have HA : Aside0 (V = lessI (p1 + o - p0) u1) := ⟨by rw [HA0.out, if_pos q2, show ts.getD m2 z106 = ⟨u0, u1⟩ by simp [hnt, hue]]⟩
          clear hue HA0
          by_cases hq : u1 < p1 + o - p0
          case pos =>
            have HF : Aside0 (V = u1) := ⟨HA.out.trans (by unfold lessI; split <;> omega)⟩
            go_upto_region 15 with (fail)
            go_quiet (fail)
            go_wp2
            go_ret
            exact ⟨by rw [HF.out]; try rfl, by repeat (first | (with_reducible exact HB.out) | apply pw_below_drewN)⟩
          case neg =>
            have HF : Aside0 (V = p1 + o - p0) := ⟨HA.out.trans (by unfold lessI; split <;> omega)⟩
            go_upto_region 15 with (fail)
            go_quiet (fail)
            go_wp2
            go_ret
            exact ⟨by rw [HF.out]; try rfl, by repeat (first | (with_reducible exact HB.out) | apply pw_below_drewN)⟩
        case neg =>
          have q2 : decide ((m2 : Int) < (ts.length : Int)) = false := decide_eq_false (by omega)
          have HA : Aside0 (V = lessI (p1 + o - p0) next) := ⟨by rw [HA0.out, if_neg (of_decide_eq_false q2)]⟩
          clear HA0
          by_cases hq : next < p1 + o - p0
          case pos =>
            have HF : Aside0 (V = next) := ⟨HA.out.trans (by unfold lessI; split <;> omega)⟩
            go_upto_region 15 with (fail)
            go_quiet (fail)
            go_wp2
            go_ret
            exact ⟨by rw [HF.out]; try rfl, by repeat (first | (with_reducible exact HB.out) | apply pw_below_drewN)⟩
          case neg =>
            have HF : Aside0 (V = p1 + o - p0) := ⟨HA.out.trans (by unfold lessI; split <;> omega)⟩
            go_upto_region 15 with (fail)
            go_quiet (fail)
            go_wp2
            go_ret
            exact ⟨by rw [HF.out]; try rfl, by repeat (first | (with_reducible exact HB.out) | apply pw_below_drewN)⟩
      obtain ⟨⟨t0, t1⟩, hse⟩ : ∃ s : Twn, ts[i] = s := ⟨_, rfl⟩
      obtain ⟨ad, ee, g0, g1⟩ := elemT (Kd.C_below HD.out HB.out) hit hse
      cases ee
      have HY : Aside0 (lastAt o (i + 1) (if t0 ≤ o then (i : Int) else at_) (ts.drop (i + 1)) = L) := ⟨(lastAt_step o at_ ts i ⟨t0, t1⟩ hit hse).symm.trans HX.out⟩
      clear hse HX
      go_upto_region 7 with (fail)
      have B2 := Aside0.mk (blk_new wr (.cells #[.int .i64 t0, .int .i64 t1] 106))
      have hb := bel_alloc wr (.cells #[.int .i64 t0, .int .i64 t1] 106)
      replace A0 := Aside0.mk (At.below (by first | exact A0.out | exact A0.out.drewN _) hb)
      replace A1 := Aside0.mk (At.below (by first | exact A1.out | exact A1.out.drewN _) hb)
      replace A5 := Aside0.mk (At.below (by first | exact A5.out | exact A5.out.drewN _) hb)
      replace HB := Aside0.mk (bel (by repeat (first | (with_reducible exact HB.out) | apply pw_below_drewN)) hb)
      clear g0 g1 hz0 hz1 hz5 hb
      generalize wr.alloc (.cells #[.int .i64 t0, .int .i64 t1] 106) = W2 at *
      generalize wr.heap.size = g2 at *
      have hy0 := (blk_cell B2.out 0).trans rfl
      have hz0 := A0.out.2
      have hz1 := A1.out.2
      have hz5 := A5.out.2
      clear B2
      by_cases ht : t0 ≤ o
      case pos =>
        have HE : Aside0 (lastAt o (i + 1) (i : Int) (ts.drop (i + 1)) = L) := ⟨by have h := HY.out; rwa [if_pos ht] at h⟩
        go_wp2
        go_roundg (ts.length - i)
        case measure => omega
        case rel => exact ⟨i + 1, i, ⟨by omega, by omega⟩, rfl, by go_num, ⟨HE.out⟩, ⟨by first | exact A0.out | exact A0.out.drewN _⟩, ⟨by first | exact A1.out | exact A1.out.drewN _⟩, ⟨by first | exact A5.out | exact A5.out.drewN _⟩, ⟨by repeat (first | (with_reducible exact HB.out) | apply pw_below_drewN)⟩⟩
      case neg =>
        have HE : Aside0 (lastAt o (i + 1) at_ (ts.drop (i + 1)) = L) := ⟨by have h := HY.out; rwa [if_neg ht] at h⟩
        go_wp2
        go_roundg (ts.length - i)
        case measure => omega
        case rel => exact ⟨i + 1, at_, ⟨by omega, by omega⟩, rfl, by go_num, ⟨HE.out⟩, ⟨by first | exact A0.out | exact A0.out.drewN _⟩, ⟨by first | exact A1.out | exact A1.out.drewN _⟩, ⟨by first | exact A5.out | exact A5.out.drewN _⟩, ⟨by repeat (first | (with_reducible exact HB.out) | apply pw_below_drewN)⟩⟩
end Go.Proofs.Ytoacdmohgohpdaa.LogK
