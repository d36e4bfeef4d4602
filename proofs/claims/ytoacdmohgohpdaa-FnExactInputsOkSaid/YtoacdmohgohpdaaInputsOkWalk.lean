/- The law FnExactInputsOk, called with whatever can be read: it returns true and nothing that was there has changed. -/
import Derived.Test.YtoacdmohgohpdaaInputsOkSpec
namespace Go.Proofs.Ytoacdmohgohpdaa.InputsOk
open Go.RowKit Go.Proofs.YtoacdmohgohpdaaW.PrintWords Go.Proofs.YtoacdmohgohpdaaW.PrintLast Go.Proofs.YtoacdmohgohpdaaW.PrintMore Go.Proofs.Ytoacdmohgohpdaa.QFnExactInputsOk Go.Proofs.Ytoacdmohgohpdaa.EvKit Go.Proofs.Ytoacdmohgohpdaa.GFnExactInputsOk

abbrev LSrc := S86
abbrev LArr := S129

/-- From a row of one's own to a row that is read. -/
theorem readR {α : Type} {d : Kd α} {e : Nat} {w : World} {base : Nat} {ok : Nat → Prop} {v : Value} {xs : List α} (h : d.R e w base ok v xs) : ∃ A c, v = .slice A xs.length c ∧ xs.length ≤ c ∧ d.C w A xs.length xs := Kd.R_reads h

theorem to_sources (A : Option Addr) (c : Nat) (x : List LSrc) (W : World) (hx : Kd.C k86 W A x.length x) (hc : x.length ≤ c) (s : sm_SourceS (to_SourceS x)) :
    Calls Try.prog 13 #[.slice A x.length c] W fun e w' => ∃ A' c', e = .returned (.slice A' (to_SourceS x).length c') ∧ ((to_SourceS x).length ≤ c' ∧ Kd.C k93 w' A' (to_SourceS x).length (to_SourceS x)) ∧ Below W.heap.size W w' := by
  obtain ⟨k, hk⟩ := Ev.rounds (ev_toSourceS x s)
  refine (laws_toSourceS.calls k A c x _ W hx hc hk).mono ?_
  rintro e w' ⟨v, rfl, h, hb⟩
  obtain ⟨A', c', rfl, hl, hC⟩ := Kd.S_reads h
  exact ⟨A', c', rfl, ⟨hl, hC⟩, hb⟩
theorem to_arrivals (A : Option Addr) (c : Nat) (y : List (List LArr)) (W : World) (hy : Kd.C (Kd.slice 129 k129) W A y.length y) (hc : y.length ≤ c) (s : sm_ArrivalSS (to_ArrivalSS y)) :
    Calls Try.prog 14 #[.slice A y.length c] W fun e w' => ∃ A' c', e = .returned (.slice A' (to_ArrivalSS y).length c') ∧ ((to_ArrivalSS y).length ≤ c' ∧ Kd.C (Kd.slice 92 k92) w' A' (to_ArrivalSS y).length (to_ArrivalSS y)) ∧ Below W.heap.size W w' := by
  obtain ⟨k, hk⟩ := Ev.rounds (ev_toArrivalSS y s)
  refine (laws_toArrivalSS.calls k A c y _ W hy hc hk).mono ?_
  rintro e w' ⟨v, rfl, h, hb⟩
  obtain ⟨A', c', rfl, hl, hC⟩ := readR h
  exact ⟨A', c', rfl, ⟨hl, hC⟩, hb⟩
theorem impl_call (A0 A1 : Option Addr) (c0 c1 : Nat) (x : List Src) (y : List (List Arr)) (W : World) (hx : x.length ≤ c0 ∧ Kd.C k93 W A0 x.length x) (hy : y.length ≤ c1 ∧ Kd.C (Kd.slice 92 k92) W A1 y.length y) (sx : sm_SourceS x) (sy : sm_ArrivalSS y) :
    Calls Try.prog 15 #[.slice A0 x.length c0, .slice A1 y.length c1] W fun e w' => e = .returned (.bool (inputsB x y)) ∧ Below W.heap.size W w' := by
  obtain ⟨k, hk⟩ := Ev.rounds (impl_inputs x y sx sy)
  exact impl_InputsOk.calls k A0 c0 x A1 c1 y _ W hx.2 hx.1 hy.2 hy.1 hk
theorem eq_sources (A0 A1 : Option Addr) (c0 c1 : Nat) (x : List Src) (W : World) (hx : x.length ≤ c0 ∧ Kd.C k93 W A0 x.length x) (hy : x.length ≤ c1 ∧ Kd.C k93 W A1 x.length x) (sx : sm_SourceS x) :
    Calls Try.prog 16 #[.slice A0 x.length c0, .slice A1 x.length c1] W fun e w' => e = .returned (.bool true) ∧ Below W.heap.size W w' := by
  obtain ⟨k, hk⟩ := Ev.rounds (ev_eqSourceS x sx)
  exact laws_eqSourceS.calls k A0 c0 x A1 c1 x _ W hx.2 hx.1 hy.2 hy.1 hk
theorem eq_arrivals (A0 A1 : Option Addr) (c0 c1 : Nat) (x : List (List Arr)) (W : World) (hx : x.length ≤ c0 ∧ Kd.C (Kd.slice 92 k92) W A0 x.length x) (hy : x.length ≤ c1 ∧ Kd.C (Kd.slice 92 k92) W A1 x.length x) (sx : sm_ArrivalSS x) :
    Calls Try.prog 17 #[.slice A0 x.length c0, .slice A1 x.length c1] W fun e w' => e = .returned (.bool true) ∧ Below W.heap.size W w' := by
  obtain ⟨k, hk⟩ := Ev.rounds (ev_eqArrivalSS x sx)
  exact laws_eqArrivalSS.calls k A0 c0 x A1 c1 x _ W hx.2 hx.1 hy.2 hy.1 hk

theorem up {α : Type} {d : Kd α} {n c : Nat} {A : Option Addr} {W W' : World} {xs : List α} (h : n ≤ c ∧ d.C W A n xs) (hb : Below W.heap.size W W') : n ≤ c ∧ d.C W' A n xs := ⟨h.1, Kd.C_below h.2 hb⟩

set_option maxHeartbeats 1600000 in
theorem walk (W : World) (A0 : Option Addr) (n0 c0 : Nat) (x : List LSrc) (hK0 : (Kd.slice 86 k86).K W x [.slice A0 n0 c0]) (ox : ok_SourceS x) (A1 : Option Addr) (n1 c1 : Nat) (y : List (List LArr)) (hK1 : (Kd.slice 128 (Kd.slice 129 k129)).K W y [.slice A1 n1 c1]) (oy : ok_ArrivalSS y) :
    Calls Try.prog 3 #[.slice A0 n0 c0, .slice A1 n1 c1] W fun e w' => e = .returned (.bool true) ∧ Below W.heap.size W w' := by
  obtain ⟨_, _, e0, hl0, hC0⟩ := hK0
  obtain ⟨_, _, e1, hl1, hC1⟩ := hK1
  simp only [List.cons.injEq, Value.slice.injEq, and_true] at e0 e1
  obtain ⟨rfl, rfl, rfl⟩ := e0
  obtain ⟨rfl, rfl, rfl⟩ := e1
  obtain ⟨v, hv, _, hq⟩ := sz_SourceS x ox 1048576 (by omega) (by omega)
  obtain ⟨k, hk⟩ := Ev.rounds hv
  have S1 : ∀ V : World, Below W.heap.size W V → Calls Try.prog 10 #[.slice A0 x.length c0, .int .i64 1048576] V fun e w' => e = .returned (.int .i64 v) ∧ Below V.heap.size V w' := fun V hb => laws_szSourceS.calls k A0 c0 x _ _ V (Kd.C_below hC0 hb) hl0 hk
  have S1 := Aside0.mk S1
  clear hv hk k
  by_cases hv0 : v < 0
  · go_enter Try.func3, Try.ntmps3
    go_wp2_with (go_at_call 10; refine (S1.out _ (Below.refl _ _)).mono ?_; rintro e w1 ⟨rfl, hb⟩; have HB := Aside0.mk hb; clear hb)
    go_ret
    exact ⟨rfl, HB.out⟩
  obtain ⟨v2, hv2, _, hq2⟩ := sz_ArrivalSS y oy v (by omega) (by omega)
  obtain ⟨k, hk⟩ := Ev.rounds hv2
  have S2 : ∀ V : World, Below W.heap.size W V → Calls Try.prog 11 #[.slice A1 y.length c1, .int .i64 v] V fun e w' => e = .returned (.int .i64 v2) ∧ Below V.heap.size V w' := fun V hb => laws_szArrivalSS.calls k A1 c1 y _ _ V (Kd.C_below hC1 hb) hl1 hk
  have S2 := Aside0.mk S2
  clear hv2 hk k
  have hs := Aside0.mk (hq (by omega))
  by_cases hv1 : v2 < 0
  · go_enter Try.func3, Try.ntmps3
    go_wp2_with (first | (go_at_call 10; refine (S1.out _ (Below.refl _ _)).mono ?_; rintro e w1 ⟨rfl, hb⟩; have HB := Aside0.mk hb; clear hb) | (go_at_call 11; refine (S2.out _ HB.out).mono ?_; rintro e w1 ⟨rfl, hb⟩; replace HB := Aside0.mk (bel HB.out hb); clear hb))
    go_ret
    exact ⟨rfl, HB.out⟩
  have hs2 := Aside0.mk (hq2 (by omega))
  clear hq hq2
  have T1 : ∀ V : World, Below W.heap.size W V → _ := fun V hb => to_sources A0 c0 x V (Kd.C_below hC0 hb) hl0 hs.out
  have T2 : ∀ V : World, Below W.heap.size W V → _ := fun V hb => to_arrivals A1 c1 y V (Kd.C_below hC1 hb) hl1 hs2.out
  replace T1 := Aside0.mk T1
  replace T2 := Aside0.mk T2
  clear hC0 hC1
  go_enter Try.func3, Try.ntmps3
  have HB := Aside0.mk (Below.refl W.heap.size W)
  go_wp2_with fail
  refine (S1.out _ HB.out).mono ?_; rintro e w1 ⟨rfl, hb⟩; replace HB := Aside0.mk (bel HB.out hb); clear hb
  go_wp2_with fail
  refine (S2.out _ HB.out).mono ?_; rintro e w2 ⟨rfl, hb⟩; replace HB := Aside0.mk (bel HB.out hb); clear hb
  -- the reference
  go_wp2_with fail
  refine (T1.out _ HB.out).mono ?_; rintro e w3 ⟨A3, c3, rfl, h3, hb⟩; replace HB := Aside0.mk (bel HB.out hb); have H3 := Aside0.mk h3; clear hb h3
  go_wp2_with fail
  refine (T2.out _ HB.out).mono ?_; rintro e w4 ⟨A4, c4, rfl, h4, hb⟩; replace HB := Aside0.mk (bel HB.out hb); replace H3 := Aside0.mk (up H3.out hb); have H4 := Aside0.mk h4; clear hb h4
  go_wp2_with fail
  refine (spec_inputs_calls A3 A4 c3 c4 _ _ _ H3.out.2 H3.out.1 H4.out.2 H4.out.1 hs.out hs2.out).mono ?_; rintro e w5 ⟨rfl, hb⟩; replace HB := Aside0.mk (bel HB.out hb); clear hb H3 H4
  -- the program
  go_wp2_with fail
  refine (T1.out _ HB.out).mono ?_; rintro e w6 ⟨A5, c5, rfl, h5, hb⟩; replace HB := Aside0.mk (bel HB.out hb); have H5 := Aside0.mk h5; clear hb h5
  go_wp2_with fail
  refine (T2.out _ HB.out).mono ?_; rintro e w7 ⟨A6, c6, rfl, h6, hb⟩; replace HB := Aside0.mk (bel HB.out hb); replace H5 := Aside0.mk (up H5.out hb); have H6 := Aside0.mk h6; clear hb h6
  go_wp2_with fail
  refine (impl_call A5 A6 c5 c6 _ _ _ H5.out H6.out hs.out hs2.out).mono ?_; rintro e w8 ⟨rfl, hb⟩; replace HB := Aside0.mk (bel HB.out hb); replace H5 := Aside0.mk (up H5.out hb); replace H6 := Aside0.mk (up H6.out hb); clear hb
  -- what was handed over reads as it did
  generalize inputsB (to_SourceS x) (to_ArrivalSS y) = b
  cases b
  all_goals
    go_wp2_with fail
    refine (T1.out _ HB.out).mono ?_; rintro e w9 ⟨A7, c7, rfl, h7, hb⟩; replace HB := Aside0.mk (bel HB.out hb); replace H5 := Aside0.mk (up H5.out hb); replace H6 := Aside0.mk (up H6.out hb); have H7 := Aside0.mk h7; clear hb h7
    go_wp2_with fail
    refine (eq_sources A5 A7 c5 c7 _ _ H5.out H7.out hs.out).mono ?_; rintro e w10 ⟨rfl, hb⟩; replace HB := Aside0.mk (bel HB.out hb); replace H6 := Aside0.mk (up H6.out hb); clear hb
    go_wp2_with fail
    refine (T2.out _ HB.out).mono ?_; rintro e w11 ⟨A8, c8, rfl, h8, hb⟩; replace HB := Aside0.mk (bel HB.out hb); replace H6 := Aside0.mk (up H6.out hb); have H8 := Aside0.mk h8; clear hb h8
    go_wp2_with fail
    refine (eq_arrivals A6 A8 c6 c8 _ _ H6.out H8.out hs2.out).mono ?_; rintro e w12 ⟨rfl, hb⟩; replace HB := Aside0.mk (bel HB.out hb); clear hb
    go_wp2
    go_ret
    exact ⟨rfl, HB.out⟩

end Go.Proofs.Ytoacdmohgohpdaa.InputsOk
