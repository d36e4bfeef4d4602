/- The law FnExactEnds, called with whatever can be read: it returns true and nothing that was there has changed. -/
import Derived.Test.YtmkhiaikfeoedaaE1EndLawKit
namespace Go.Proofs.Ytmkhiaikfeoedaa.EndsK
open Go.RowKit Go.Proofs.YtmkhiaikfeoedaaW.PrintWords Go.Proofs.YtmkhiaikfeoedaaW.PrintLast Go.Proofs.YtmkhiaikfeoedaaW.PrintMore Go.Proofs.Ytmkhiaikfeoedaa.QFnExactInputsOk Go.Proofs.Ytmkhiaikfeoedaa.EvKit Go.Proofs.Ytmkhiaikfeoedaa.MarkK Go.Proofs.Ytmkhiaikfeoedaa.GFnExactInputsOk
set_option linter.unusedSimpArgs false
set_option linter.unusedVariables false
set_option maxHeartbeats 3200000 in
set_option maxRecDepth 100000 in
theorem ends_walk (W : World) (A0 : Option Addr) (n0 c0 : Nat) (x : List LSrcE) (hK0 : (Kd.slice 46 KLS).K W x [.slice A0 n0 c0]) (ox : ok_SourceS x) (A1 : Option Addr) (n1 c1 : Nat) (y : List (List LArr)) (hK1 : (Kd.slice 48 (Kd.slice TLA KLA)).K W y [.slice A1 n1 c1]) (oy : ok_ArrivalSS y) (A2 : Option Addr) (n2 c2 : Nat) (O : List Int) (hK2 : (Kd.slice 3 KI).K W O [.slice A2 n2 c2]) (oo : ok_IntS O) :
    Calls Try.prog 3 #[.slice A0 n0 c0, .slice A1 n1 c1, .slice A2 n2 c2] W fun e w' => e = .returned (.bool true) ∧ Below W.heap.size W w' := by
  obtain ⟨_, _, e0, hl0, hC0⟩ := hK0
  obtain ⟨_, _, e1, hl1, hC1⟩ := hK1
  obtain ⟨_, _, e2, hl2, hC2⟩ := hK2
  simp only [List.cons.injEq, Value.slice.injEq, and_true] at e0 e1 e2
  obtain ⟨rfl, rfl, rfl⟩ := e0
  obtain ⟨rfl, rfl, rfl⟩ := e1
  obtain ⟨rfl, rfl, rfl⟩ := e2
  by_cases hlo : (1048576 : Int) < (O.length : Int)
  · go_enter Try.func3, Try.ntmps3
    go_wp2
    go_ret
    exact ⟨rfl, Below.refl _ _⟩
  have SO : Aside0 (sm_IntS O) := ⟨⟨by omega, oo.2⟩⟩
  obtain ⟨v, hv, _, hq⟩ := sz_SourceS x ox 1048576 (by omega) (by omega)
  obtain ⟨k, hk⟩ := Ev.rounds hv
  have S1 : ∀ V : World, Below W.heap.size W V → Calls Try.prog 4 #[.slice A0 x.length c0, .int .i64 1048576] V fun e w' => e = .returned (.int .i64 v) ∧ Below V.heap.size V w' := fun V hb => laws_szSourceS.calls k A0 c0 x _ _ V (Kd.C_below hC0 hb) hl0 hk
  replace S1 := Aside0.mk S1
  have HB := Aside0.mk (Below.refl W.heap.size W)
  clear hv hk k
  by_cases hv0 : v < 0
  · go_enter Try.func3, Try.ntmps3
    go_wp2_with (fail)
    refine (S1.out _ HB.out).mono ?_
    rintro e u1 ⟨rfl, hb⟩
    replace HB := Aside0.mk (bel HB.out hb)
    clear hb
    go_wp2
    go_ret
    exact ⟨rfl, HB.out⟩
  obtain ⟨v2, hv2, _, hq2⟩ := sz_ArrivalSS y oy v (by omega) (by omega)
  obtain ⟨k, hk⟩ := Ev.rounds hv2
  have S2 : ∀ V : World, Below W.heap.size W V → Calls Try.prog 5 #[.slice A1 y.length c1, .int .i64 v] V fun e w' => e = .returned (.int .i64 v2) ∧ Below V.heap.size V w' := fun V hb => laws_szArrivalSS.calls k A1 c1 y _ _ V (Kd.C_below hC1 hb) hl1 hk
  replace S2 := Aside0.mk S2
  clear hv2 hk k
  have hs := Aside0.mk (hq (by omega))
  by_cases hv1 : v2 < 0
  · go_enter Try.func3, Try.ntmps3
    go_wp2_with (fail)
    refine (S1.out _ HB.out).mono ?_
    rintro e u1 ⟨rfl, hb⟩
    replace HB := Aside0.mk (bel HB.out hb)
    clear hb
    go_wp2_with (fail)
    refine (S2.out _ HB.out).mono ?_
    rintro e u2 ⟨rfl, hb⟩
    replace HB := Aside0.mk (bel HB.out hb)
    clear hb
    go_wp2
    go_ret
    exact ⟨rfl, HB.out⟩
  have hs2 := Aside0.mk (hq2 (by omega))
  clear hq hq2
  obtain ⟨X, hX⟩ : ∃ X, X = to_SourceS x := ⟨_, rfl⟩
  obtain ⟨Y, hY⟩ : ∃ Y, Y = to_ArrivalSS y := ⟨_, rfl⟩
  have T1 : ∀ V : World, Below W.heap.size W V → Calls Try.prog 7 #[.slice A0 x.length c0] V fun e w' => ∃ A' c', e = .returned (.slice A' X.length c') ∧ OwnS KS TS W V w' w' A' c' X ∧ Below V.heap.size V w' := by
    rw [hX]; exact fun V hb => own_srcs hb A0 c0 x hC0 hl0 hs.out
  have T2 : ∀ V : World, Below W.heap.size W V → Calls Try.prog 8 #[.slice A1 y.length c1] V fun e w' => ∃ A' c', e = .returned (.slice A' Y.length c') ∧ OwnS KAA TAs W V w' w' A' c' Y ∧ Below V.heap.size V w' := by
    rw [hY]; exact fun V hb => own_arrs hb A1 c1 y hC1 hl1 hs2.out
  have T3 : ∀ V : World, Below W.heap.size W V → Calls Try.prog 9 #[.slice A2 O.length c2] V fun e w' => ∃ A' c', e = .returned (.slice A' O.length c') ∧ KI.R 3 w' W.heap.size (fun k => V.heap.size ≤ k ∧ k < w'.heap.size) (.slice A' O.length c') O ∧ Below V.heap.size V w' := fun V hb => own_ints hb A2 c2 O hC2 hl2 SO.out
  have SX : Aside0 (sm_SourceS X) := ⟨by rw [hX]; exact hs.out⟩
  have SY : Aside0 (sm_ArrivalSS Y) := ⟨by rw [hY]; exact hs2.out⟩
  replace T1 := Aside0.mk T1
  replace T2 := Aside0.mk T2
  replace T3 := Aside0.mk T3
  obtain ⟨R, hR⟩ : ∃ R, R = endsR X Y O := ⟨_, rfl⟩
  have SR : Aside0 (R.length ≤ 1048576 ∧ ∀ a ∈ R, a.f1.f1.length ≤ 1048576) := ⟨by rw [hR]; have h := ends_sm (x := X) O SY.out; exact ⟨by omega, h.2⟩⟩
  have B1 : Aside0 (1 + (wtS X : Int) ≤ 10000000000000000) := ⟨by have := wS_le SX.out; omega⟩
  have B2 : Aside0 (1 + (wtS X : Int) + (wtAA Y : Int) ≤ 8000000000000000000) := ⟨by have := wS_le SX.out; have := wAA_le SY.out; omega⟩
  have B3 : Aside0 (1 + (wtS X : Int) + (wtAA Y : Int) + (O.length : Int) ≤ 9000000000000000000) := ⟨by have := B2.out; omega⟩
  have B4 : Aside0 (1 + (wtC (R.map rowN) : Int) ≤ 8000000000000000000) := ⟨by rw [hR]; have h := ends_sm (x := X) O SY.out; exact wC_le h.1 h.2⟩
  have HR := Aside0.mk hR
  clear hC0 hC1 hC2 hX hY hs hs2 hR oo ox oy hl0 hl1 hl2
  go_enter Try.func3, Try.ntmps3
  go_wp2_with (fail)
  refine (S1.out _ HB.out).mono ?_
  rintro e u1 ⟨rfl, hb⟩
  have HZ1 : Aside0 (W.heap.size ≤ u1.heap.size) := ⟨hb.size⟩
  replace HB := Aside0.mk (bel HB.out hb)
  clear hb
  go_wp2_with (fail)
  refine (S2.out _ HB.out).mono ?_
  rintro e u2 ⟨rfl, hb⟩
  have HZ2 : Aside0 (u1.heap.size ≤ u2.heap.size) := ⟨hb.size⟩
  replace HB := Aside0.mk (bel HB.out hb)
  clear hb
  go_wp2_with (fail)
  refine (T1.out _ HB.out).mono ?_
  rintro e u3 ⟨A3, c3, rfl, ho, hb⟩
  have HZ3 : Aside0 (u2.heap.size ≤ u3.heap.size) := ⟨hb.size⟩
  replace HB := Aside0.mk (bel HB.out hb)
  clear hb
  have O3 := Aside0.mk ho
  clear ho
  go_wp2_with (fail)
  refine (T2.out _ HB.out).mono ?_
  rintro e u4 ⟨A4, c4, rfl, ho, hb⟩
  have HZ4 : Aside0 (u3.heap.size ≤ u4.heap.size) := ⟨hb.size⟩
  replace O3 := Aside0.mk (Kd.S_below O3.out hb)
  replace HB := Aside0.mk (bel HB.out hb)
  clear hb
  have O4 := Aside0.mk ho
  clear ho
  go_wp2_with (fail)
  refine (T3.out _ HB.out).mono ?_
  rintro e u5 ⟨A5, c5, rfl, ho, hb⟩
  have HZ5 : Aside0 (u4.heap.size ≤ u5.heap.size) := ⟨hb.size⟩
  replace O3 := Aside0.mk (Kd.S_below O3.out hb)
  replace O4 := Aside0.mk (Kd.S_below O4.out hb)
  replace HB := Aside0.mk (bel HB.out hb)
  clear hb
  have O5 := Aside0.mk ho
  clear ho
  go_wp2_with (fail)
  refine (HR.out ▸ own_spec HB.out O3.out O4.out O5.out SX.out SY.out SO.out.1).mono ?_
  rintro e u6 ⟨A6, c6, rfl, ho, hb⟩
  have HZ6 : Aside0 (u5.heap.size ≤ u6.heap.size) := ⟨hb.size⟩
  replace O3 := Aside0.mk (Kd.S_below O3.out hb)
  replace O4 := Aside0.mk (Kd.S_below O4.out hb)
  replace O5 := Aside0.mk (Kd.R_below O5.out hb)
  replace HB := Aside0.mk (bel HB.out hb)
  clear hb
  have O6 := Aside0.mk ho
  clear ho
  clear O3 O4 O5
  go_wp2_with (fail)
  refine (T1.out _ HB.out).mono ?_
  rintro e u7 ⟨A7, c7, rfl, ho, hb⟩
  have HZ7 : Aside0 (u6.heap.size ≤ u7.heap.size) := ⟨hb.size⟩
  replace O6 := Aside0.mk (Kd.S_below O6.out hb)
  replace HB := Aside0.mk (bel HB.out hb)
  clear hb
  have O7 := Aside0.mk ho
  clear ho
  go_wp2_with (fail)
  refine (T2.out _ HB.out).mono ?_
  rintro e u8 ⟨A8, c8, rfl, ho, hb⟩
  have HZ8 : Aside0 (u7.heap.size ≤ u8.heap.size) := ⟨hb.size⟩
  replace O6 := Aside0.mk (Kd.S_below O6.out hb)
  replace O7 := Aside0.mk (Kd.S_below O7.out hb)
  replace HB := Aside0.mk (bel HB.out hb)
  clear hb
  have O8 := Aside0.mk ho
  clear ho
  go_wp2_with (fail)
  refine (T3.out _ HB.out).mono ?_
  rintro e u9 ⟨A9, c9, rfl, ho, hb⟩
  have HZ9 : Aside0 (u8.heap.size ≤ u9.heap.size) := ⟨hb.size⟩
  replace O6 := Aside0.mk (Kd.S_below O6.out hb)
  replace O7 := Aside0.mk (Kd.S_below O7.out hb)
  replace O8 := Aside0.mk (Kd.S_below O8.out hb)
  replace HB := Aside0.mk (bel HB.out hb)
  clear hb
  have O9 := Aside0.mk ho
  clear ho
  go_wp2_with (fail)
  refine (HR.out ▸ own_impl HB.out O7.out O8.out O9.out SX.out SY.out SO.out.1).mono ?_
  rintro e u10 ⟨A10, c10, rfl, ho, hb⟩
  have HZ10 : Aside0 (u9.heap.size ≤ u10.heap.size) := ⟨hb.size⟩
  replace O6 := Aside0.mk (Kd.S_below O6.out hb)
  replace O7 := Aside0.mk (Kd.S_below O7.out hb)
  replace O8 := Aside0.mk (Kd.S_below O8.out hb)
  replace O9 := Aside0.mk (Kd.R_below O9.out hb)
  replace HB := Aside0.mk (bel HB.out hb)
  clear hb
  have O10 := Aside0.mk ho
  clear ho
  go_wp2_with (fail)
  refine (eq_coms O10.out O6.out SR.out.1 SR.out.2).mono ?_
  rintro e u11 ⟨rfl, hb⟩
  have HZ11 : Aside0 (u10.heap.size ≤ u11.heap.size) := ⟨hb.size⟩
  replace O6 := Aside0.mk (Kd.S_below O6.out hb)
  replace O7 := Aside0.mk (Kd.S_below O7.out hb)
  replace O8 := Aside0.mk (Kd.S_below O8.out hb)
  replace O9 := Aside0.mk (Kd.R_below O9.out hb)
  replace O10 := Aside0.mk (Kd.S_below O10.out hb)
  replace HB := Aside0.mk (bel HB.out hb)
  clear hb
  go_wp2_with (fail)
  refine (T1.out _ HB.out).mono ?_
  rintro e u12 ⟨A12, c12, rfl, ho, hb⟩
  have HZ12 : Aside0 (u11.heap.size ≤ u12.heap.size) := ⟨hb.size⟩
  replace O6 := Aside0.mk (Kd.S_below O6.out hb)
  replace O7 := Aside0.mk (Kd.S_below O7.out hb)
  replace O8 := Aside0.mk (Kd.S_below O8.out hb)
  replace O9 := Aside0.mk (Kd.R_below O9.out hb)
  replace O10 := Aside0.mk (Kd.S_below O10.out hb)
  replace HB := Aside0.mk (bel HB.out hb)
  clear hb
  have O12 := Aside0.mk ho
  clear ho
  go_wp2_with (fail)
  refine (eq_srcs O7.out O12.out SX.out).mono ?_
  rintro e u13 ⟨rfl, hb⟩
  have HZ13 : Aside0 (u12.heap.size ≤ u13.heap.size) := ⟨hb.size⟩
  replace O6 := Aside0.mk (Kd.S_below O6.out hb)
  replace O7 := Aside0.mk (Kd.S_below O7.out hb)
  replace O8 := Aside0.mk (Kd.S_below O8.out hb)
  replace O9 := Aside0.mk (Kd.R_below O9.out hb)
  replace O10 := Aside0.mk (Kd.S_below O10.out hb)
  replace O12 := Aside0.mk (Kd.S_below O12.out hb)
  replace HB := Aside0.mk (bel HB.out hb)
  clear hb
  clear O12
  go_wp2_with (fail)
  refine (T2.out _ HB.out).mono ?_
  rintro e u14 ⟨A14, c14, rfl, ho, hb⟩
  have HZ14 : Aside0 (u13.heap.size ≤ u14.heap.size) := ⟨hb.size⟩
  replace O6 := Aside0.mk (Kd.S_below O6.out hb)
  replace O7 := Aside0.mk (Kd.S_below O7.out hb)
  replace O8 := Aside0.mk (Kd.S_below O8.out hb)
  replace O9 := Aside0.mk (Kd.R_below O9.out hb)
  replace O10 := Aside0.mk (Kd.S_below O10.out hb)
  replace HB := Aside0.mk (bel HB.out hb)
  clear hb
  have O14 := Aside0.mk ho
  clear ho
  go_wp2_with (fail)
  refine (eq_arrs O8.out O14.out SY.out).mono ?_
  rintro e u15 ⟨rfl, hb⟩
  have HZ15 : Aside0 (u14.heap.size ≤ u15.heap.size) := ⟨hb.size⟩
  replace O6 := Aside0.mk (Kd.S_below O6.out hb)
  replace O7 := Aside0.mk (Kd.S_below O7.out hb)
  replace O8 := Aside0.mk (Kd.S_below O8.out hb)
  replace O9 := Aside0.mk (Kd.R_below O9.out hb)
  replace O10 := Aside0.mk (Kd.S_below O10.out hb)
  replace O14 := Aside0.mk (Kd.S_below O14.out hb)
  replace HB := Aside0.mk (bel HB.out hb)
  clear hb
  clear O14
  go_wp2_with (fail)
  refine (T3.out _ HB.out).mono ?_
  rintro e u16 ⟨A16, c16, rfl, ho, hb⟩
  have HZ16 : Aside0 (u15.heap.size ≤ u16.heap.size) := ⟨hb.size⟩
  replace O6 := Aside0.mk (Kd.S_below O6.out hb)
  replace O7 := Aside0.mk (Kd.S_below O7.out hb)
  replace O8 := Aside0.mk (Kd.S_below O8.out hb)
  replace O9 := Aside0.mk (Kd.R_below O9.out hb)
  replace O10 := Aside0.mk (Kd.S_below O10.out hb)
  replace HB := Aside0.mk (bel HB.out hb)
  clear hb
  have O16 := Aside0.mk ho
  clear ho
  go_wp2_with (fail)
  refine (eq_ints O9.out O16.out SO.out).mono ?_
  rintro e u17 ⟨rfl, hb⟩
  have HZ17 : Aside0 (u16.heap.size ≤ u17.heap.size) := ⟨hb.size⟩
  replace O6 := Aside0.mk (Kd.S_below O6.out hb)
  replace O7 := Aside0.mk (Kd.S_below O7.out hb)
  replace O8 := Aside0.mk (Kd.S_below O8.out hb)
  replace O9 := Aside0.mk (Kd.R_below O9.out hb)
  replace O10 := Aside0.mk (Kd.S_below O10.out hb)
  replace O16 := Aside0.mk (Kd.R_below O16.out hb)
  replace HB := Aside0.mk (bel HB.out hb)
  clear hb
  clear O16
  go_wp2_with (fail)
  refine (mark_srcs _ _ X 1 W u17 HB.out O7.out (by decide) B1.out).mono ?_
  rintro e u18 ⟨rfl, hb, hkp⟩
  have HZ18 : Aside0 (u17.heap.size ≤ u18.heap.size) := ⟨hkp.1⟩
  clear O7
  have i1 := HZ1.out; have i2 := HZ2.out; have i3 := HZ3.out; have i4 := HZ4.out; have i5 := HZ5.out; have i6 := HZ6.out; have i7 := HZ7.out; have i8 := HZ8.out; have i9 := HZ9.out; have i10 := HZ10.out; have i11 := HZ11.out; have i12 := HZ12.out; have i13 := HZ13.out; have i14 := HZ14.out; have i15 := HZ15.out; have i16 := HZ16.out; have i17 := HZ17.out; have i18 := HZ18.out
  replace O6 := Aside0.mk (Kd.S_kept O6.out hkp (fun k h h' => by omega))
  replace O8 := Aside0.mk (Kd.S_kept O8.out hkp (fun k h h' => by omega))
  replace O9 := Aside0.mk (Kd.R_kept O9.out hkp (fun k h h' => by omega))
  replace O10 := Aside0.mk (Kd.S_kept O10.out hkp (fun k h h' => by omega))
  replace HB := Aside0.mk hb
  clear hb hkp i1 i2 i3 i4 i5 i6 i7 i8 i9 i10 i11 i12 i13 i14 i15 i16 i17 i18
  obtain ⟨K1, hK1⟩ : ∃ K1, K1 = 1 + (wtS X : Int) := ⟨_, rfl⟩
  rw [← hK1]
  have HK1 := Aside0.mk hK1
  clear hK1
  go_wp2_with (fail)
  refine (mark_arrss _ _ Y K1 W u18 HB.out O8.out (by rw [HK1.out]; omega) (by rw [HK1.out]; exact B2.out)).mono ?_
  rintro e u19 ⟨rfl, hb, hkp⟩
  have HZ19 : Aside0 (u18.heap.size ≤ u19.heap.size) := ⟨hkp.1⟩
  clear O8
  have i1 := HZ1.out; have i2 := HZ2.out; have i3 := HZ3.out; have i4 := HZ4.out; have i5 := HZ5.out; have i6 := HZ6.out; have i7 := HZ7.out; have i8 := HZ8.out; have i9 := HZ9.out; have i10 := HZ10.out; have i11 := HZ11.out; have i12 := HZ12.out; have i13 := HZ13.out; have i14 := HZ14.out; have i15 := HZ15.out; have i16 := HZ16.out; have i17 := HZ17.out; have i18 := HZ18.out; have i19 := HZ19.out
  replace O6 := Aside0.mk (Kd.S_kept O6.out hkp (fun k h h' => by omega))
  replace O9 := Aside0.mk (Kd.R_kept O9.out hkp (fun k h h' => by omega))
  replace O10 := Aside0.mk (Kd.S_kept O10.out hkp (fun k h h' => by omega))
  replace HB := Aside0.mk hb
  clear hb hkp i1 i2 i3 i4 i5 i6 i7 i8 i9 i10 i11 i12 i13 i14 i15 i16 i17 i18 i19
  obtain ⟨K2, hK2⟩ : ∃ K2, K2 = K1 + (wtAA Y : Int) := ⟨_, rfl⟩
  rw [← hK2]
  have HK2 := Aside0.mk hK2
  clear hK2
  go_wp2_with (fail)
  refine (mark_ints _ _ O K2 W u19 HB.out O9.out (by rw [HK2.out, HK1.out]; omega) (by rw [HK2.out, HK1.out]; exact B3.out)).mono ?_
  rintro e u20 ⟨rfl, ho, hb, hkp⟩
  have HZ20 : Aside0 (u19.heap.size ≤ u20.heap.size) := ⟨hkp.1⟩
  clear ho
  clear O9
  have i1 := HZ1.out; have i2 := HZ2.out; have i3 := HZ3.out; have i4 := HZ4.out; have i5 := HZ5.out; have i6 := HZ6.out; have i7 := HZ7.out; have i8 := HZ8.out; have i9 := HZ9.out; have i10 := HZ10.out; have i11 := HZ11.out; have i12 := HZ12.out; have i13 := HZ13.out; have i14 := HZ14.out; have i15 := HZ15.out; have i16 := HZ16.out; have i17 := HZ17.out; have i18 := HZ18.out; have i19 := HZ19.out; have i20 := HZ20.out
  replace O6 := Aside0.mk (Kd.S_kept O6.out hkp (fun k h h' => by omega))
  replace O10 := Aside0.mk (Kd.S_kept O10.out hkp (fun k h h' => by omega))
  replace HB := Aside0.mk hb
  clear hb hkp i1 i2 i3 i4 i5 i6 i7 i8 i9 i10 i11 i12 i13 i14 i15 i16 i17 i18 i19 i20
  obtain ⟨K3, hK3⟩ : ∃ K3, K3 = K2 + (O.length : Int) := ⟨_, rfl⟩
  rw [← hK3]
  have hK0 : ¬ K3 < 0 := by rw [hK3, HK2.out, HK1.out]; omega
  clear hK3
  go_wp2_with (fail)
  refine (eq_coms O10.out O6.out SR.out.1 SR.out.2).mono ?_
  rintro e u21 ⟨rfl, hb⟩
  have HZ21 : Aside0 (u20.heap.size ≤ u21.heap.size) := ⟨hb.size⟩
  replace O6 := Aside0.mk (Kd.S_below O6.out hb)
  replace O10 := Aside0.mk (Kd.S_below O10.out hb)
  replace HB := Aside0.mk (bel HB.out hb)
  clear hb
  go_wp2_with (fail)
  refine (mark_coms _ _ R 1 W u21 HB.out O10.out (by decide) B4.out).mono ?_
  rintro e u22 ⟨rfl, ho, hb, hkp⟩
  have HZ22 : Aside0 (u21.heap.size ≤ u22.heap.size) := ⟨hkp.1⟩
  have M22 := Aside0.mk (Kd.S_mono (Kd.S_bound ho) (ok' := fun k => True ∧ k < u22.heap.size) (fun k hk => ⟨trivial, hk.2.2.1⟩))
  clear ho
  clear O10
  have i1 := HZ1.out; have i2 := HZ2.out; have i3 := HZ3.out; have i4 := HZ4.out; have i5 := HZ5.out; have i6 := HZ6.out; have i7 := HZ7.out; have i8 := HZ8.out; have i9 := HZ9.out; have i10 := HZ10.out; have i11 := HZ11.out; have i12 := HZ12.out; have i13 := HZ13.out; have i14 := HZ14.out; have i15 := HZ15.out; have i16 := HZ16.out; have i17 := HZ17.out; have i18 := HZ18.out; have i19 := HZ19.out; have i20 := HZ20.out; have i21 := HZ21.out; have i22 := HZ22.out
  replace O6 := Aside0.mk (Kd.S_kept O6.out hkp (fun k h h' => by omega))
  replace HB := Aside0.mk hb
  clear hb hkp i1 i2 i3 i4 i5 i6 i7 i8 i9 i10 i11 i12 i13 i14 i15 i16 i17 i18 i19 i20 i21 i22
  have HH : Aside0 (∀ (V : World) (ok0 : Nat → Prop), Kd.S KC TC V W.heap.size ok0 (.slice A10 R.length c10) (mkCL 1 (R.map rowN)) → Calls Try.prog 19 #[.slice A10 R.length c10, .int .i64 1] V fun e w' => e = .returned (.int .i64 (1 + wtC (R.map rowN))) ∧ Below V.heap.size V w') := ⟨fun V ok0 h => held_own h B4.out⟩
  obtain ⟨M, hM⟩ : ∃ M, M = 1 + (wtC (R.map rowN) : Int) := ⟨_, rfl⟩
  rw [← hM] at HH ⊢
  have hM0 : ¬ M < 0 := by omega
  have hMM : (M != M) = false := by simp
  clear hM
  go_wp2_with (fail)
  refine (HH.out _ _ M22.out).mono ?_
  rintro e u23 ⟨rfl, hb⟩
  have HZ23 : Aside0 (u22.heap.size ≤ u23.heap.size) := ⟨hb.size⟩
  replace O6 := Aside0.mk (Kd.S_below O6.out hb)
  replace M22 := Aside0.mk (Kd.S_below M22.out hb)
  replace HB := Aside0.mk (bel HB.out hb)
  clear hb
  go_wp2_with (fail)
  refine (T1.out _ HB.out).mono ?_
  rintro e u24 ⟨A24, c24, rfl, ho, hb⟩
  have HZ24 : Aside0 (u23.heap.size ≤ u24.heap.size) := ⟨hb.size⟩
  replace O6 := Aside0.mk (Kd.S_below O6.out hb)
  replace M22 := Aside0.mk (Kd.S_below M22.out hb)
  replace HB := Aside0.mk (bel HB.out hb)
  clear hb
  have O24 := Aside0.mk ho
  clear ho
  go_wp2_with (fail)
  refine (T2.out _ HB.out).mono ?_
  rintro e u25 ⟨A25, c25, rfl, ho, hb⟩
  have HZ25 : Aside0 (u24.heap.size ≤ u25.heap.size) := ⟨hb.size⟩
  replace O6 := Aside0.mk (Kd.S_below O6.out hb)
  replace M22 := Aside0.mk (Kd.S_below M22.out hb)
  replace O24 := Aside0.mk (Kd.S_below O24.out hb)
  replace HB := Aside0.mk (bel HB.out hb)
  clear hb
  have O25 := Aside0.mk ho
  clear ho
  go_wp2_with (fail)
  refine (T3.out _ HB.out).mono ?_
  rintro e u26 ⟨A26, c26, rfl, ho, hb⟩
  have HZ26 : Aside0 (u25.heap.size ≤ u26.heap.size) := ⟨hb.size⟩
  replace O6 := Aside0.mk (Kd.S_below O6.out hb)
  replace M22 := Aside0.mk (Kd.S_below M22.out hb)
  replace O24 := Aside0.mk (Kd.S_below O24.out hb)
  replace O25 := Aside0.mk (Kd.S_below O25.out hb)
  replace HB := Aside0.mk (bel HB.out hb)
  clear hb
  have O26 := Aside0.mk ho
  clear ho
  go_wp2_with (fail)
  refine (HR.out ▸ own_impl HB.out O24.out O25.out O26.out SX.out SY.out SO.out.1).mono ?_
  rintro e u27 ⟨A27, c27, rfl, ho, hb⟩
  have HZ27 : Aside0 (u26.heap.size ≤ u27.heap.size) := ⟨hb.size⟩
  replace O6 := Aside0.mk (Kd.S_below O6.out hb)
  replace M22 := Aside0.mk (Kd.S_below M22.out hb)
  replace O24 := Aside0.mk (Kd.S_below O24.out hb)
  replace O25 := Aside0.mk (Kd.S_below O25.out hb)
  replace O26 := Aside0.mk (Kd.R_below O26.out hb)
  replace HB := Aside0.mk (bel HB.out hb)
  clear hb
  have O27 := Aside0.mk ho
  clear ho
  go_wp2_with (fail)
  refine (eq_coms O27.out O6.out SR.out.1 SR.out.2).mono ?_
  rintro e u28 ⟨rfl, hb⟩
  have HZ28 : Aside0 (u27.heap.size ≤ u28.heap.size) := ⟨hb.size⟩
  replace O6 := Aside0.mk (Kd.S_below O6.out hb)
  replace M22 := Aside0.mk (Kd.S_below M22.out hb)
  replace O24 := Aside0.mk (Kd.S_below O24.out hb)
  replace O25 := Aside0.mk (Kd.S_below O25.out hb)
  replace O26 := Aside0.mk (Kd.R_below O26.out hb)
  replace O27 := Aside0.mk (Kd.S_below O27.out hb)
  replace HB := Aside0.mk (bel HB.out hb)
  clear hb
  go_wp2_with (fail)
  refine (HH.out _ _ M22.out).mono ?_
  rintro e u29 ⟨rfl, hb⟩
  have HZ29 : Aside0 (u28.heap.size ≤ u29.heap.size) := ⟨hb.size⟩
  replace O6 := Aside0.mk (Kd.S_below O6.out hb)
  replace M22 := Aside0.mk (Kd.S_below M22.out hb)
  replace O24 := Aside0.mk (Kd.S_below O24.out hb)
  replace O25 := Aside0.mk (Kd.S_below O25.out hb)
  replace O26 := Aside0.mk (Kd.R_below O26.out hb)
  replace O27 := Aside0.mk (Kd.S_below O27.out hb)
  replace HB := Aside0.mk (bel HB.out hb)
  clear hb
  go_wp2_with (fail)
  go_ret
  exact ⟨rfl, by first | exact HB.out | exact HB.out.drew⟩
end Go.Proofs.Ytmkhiaikfeoedaa.EndsK
