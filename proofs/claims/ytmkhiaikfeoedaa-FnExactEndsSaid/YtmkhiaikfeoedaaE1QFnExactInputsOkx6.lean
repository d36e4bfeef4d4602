import Derived.Test.YtmkhiaikfeoedaaE1QFnExactInputsOkx0
import Derived.Test.YtmkhiaikfeoedaaE1QFnExactInputsOkx1
import Derived.Test.YtmkhiaikfeoedaaE1QFnExactInputsOkx4
import Derived.Test.YtmkhiaikfeoedaaE1QFnExactInputsOkx5
namespace Go.Proofs.Ytmkhiaikfeoedaa.QFnExactInputsOk
open Go.RowKit Go.Proofs.YtmkhiaikfeoedaaW.PrintWords Go.Proofs.YtmkhiaikfeoedaaW.PrintLast Go.Proofs.YtmkhiaikfeoedaaW.PrintMore
attribute [local go_sem] max2_int min2_int max_two min_two max_three min_three max_four min_four   -- for this text's walks alone
set_option linter.unusedVariables false
set_option linter.unusedSimpArgs false
mutual
def spec_Ends.j0 : Nat → List (S58) → List (List (S54)) → List Int → List (S56) → Bool → Option ((List (S56)))
  | 0, _, _, _, _, _ => none
  | k + 1, x0, x1, x2, x7, x29 => if x29 = true then (some x7) else ((some (([] : List Int) : List Int)).bind fun y142 => (if y142.length + x2.length < 17592186044416 then (spec_Ends.l0 k x0 x1 x2 x7 (y142 ++ x2) 0) else (none)))
def spec_Ends.l0 : Nat → List (S58) → List (List (S54)) → List Int → List (S56) → List Int → Int → Option ((List (S56)))
  | 0, _, _, _, _, _, _ => none
  | k + 1, x0, x1, x2, x7, x8, x9 => if x9 < (x2.length : Int) then (if 0 ≤ x9 then ((spec_l1In.f (rd x2 x9) 0 (wrap64 ((x0.length : Int) - 1))).bind fun t149 => (if t149 = true then (spec_Ends.l0 k x0 x1 x2 x7 x8 (wrap64 (x9 + 1))) else (some x7))) else (none)) else (spec_Ends.l1 k x0 x1 x7 x8 0)
def spec_Ends.l1 : Nat → List (S58) → List (List (S54)) → List (S56) → List Int → Int → Option ((List (S56)))
  | 0, _, _, _, _, _ => none
  | k + 1, x0, x1, x7, x8, x10 => if x10 < (x0.length : Int) then (spec_Ends.l2 k x0 x1 x7 x8 x10 0) else (if 0 ≤ (x0.length : Int) then (if ((x0.length : Int) : Int).toNat ≤ 35184372088832 then (spec_Ends.l3 k x0 x1 x7 x8 (([] : List (S56))) (List.replicate ((x0.length : Int) : Int).toNat 0) (List.replicate ((x0.length : Int) : Int).toNat 0) 0) else (none)) else (none))
def spec_Ends.l2 : Nat → List (S58) → List (List (S54)) → List (S56) → List Int → Int → Int → Option ((List (S56)))
  | 0, _, _, _, _, _, _ => none
  | k + 1, x0, x1, x7, x8, x10, x11 => if 0 ≤ x10 then (if x10 < (x1.length : Int) then (if x11 < ((rd_L10 x1 x10).length : Int) then (if x8.length < 17592186044416 then (spec_Ends.l2 k x0 x1 x7 (x8 ++ [x10]) x10 (wrap64 (x11 + 1))) else (none)) else (spec_Ends.l1 k x0 x1 x7 x8 (wrap64 (x10 + 1)))) else (none)) else (none)
def spec_Ends.l3 : Nat → List (S58) → List (List (S54)) → List (S56) → List Int → List (S56) → List Int → List Int → Int → Option ((List (S56)))
  | 0, _, _, _, _, _, _, _, _ => none
  | k + 1, x0, x1, x7, x8, x12, x13, x14, x15 => if x15 < (x8.length : Int) then (if 0 ≤ x15 then (if 0 ≤ (rd x8 x15) then (if (rd x8 x15) < (x13.length : Int) then (if (rd x8 x15) < (x1.length : Int) then (if (rd x13 (rd x8 x15)) ≥ ((rd_L10 x1 (rd x8 x15)).length : Int) then (spec_Ends.l3 k x0 x1 x7 x8 x12 x13 x14 (wrap64 (x15 + 1))) else (spec_Ends.l4 k x0 x1 x7 x8 x12 x13 x14 x15 (rd x8 x15) 1000000000000 (rd x13 (rd x8 x15)))) else (none)) else (none)) else (none)) else (none)) else (spec_Ends.l5 k x0 x7 x12 0)
def spec_Ends.l4 : Nat → List (S58) → List (List (S54)) → List (S56) → List Int → List (S56) → List Int → List Int → Int → Int → Int → Int → Option ((List (S56)))
  | 0, _, _, _, _, _, _, _, _, _, _, _ => none
  | k + 1, x0, x1, x7, x8, x12, x13, x14, x15, x16, x17, x18 => if 0 ≤ x16 then (if x16 < (x1.length : Int) then (if x18 < ((rd_L10 x1 x16).length : Int) then (if 0 ≤ x18 then ((spec_l5Least.f x17 ((rd_T54 (rd_L10 x1 x16) x18).f0)).bind fun t170 => (spec_Ends.l4 k x0 x1 x7 x8 x12 x13 x14 x15 x16 t170 (wrap64 (x18 + 1)))) else (none)) else (if x16 < (x14.length : Int) then (if x17 > (rd x14 x16) then (if x12.length < 2513169434916 then ((some (x12 ++ [(⟨x16, (⟨0, ([] : List Int), false⟩ : S54), x17⟩ : S56)] : List (S56))).bind fun y173 => (if x16 < (x13.length : Int) then (if 0 ≤ (rd x13 x16) then (if (rd x13 x16) < ((rd_L10 x1 x16).length : Int) then ((spec_l16Arrival.f ((rd_T54 (rd_L10 x1 x16) (rd x13 x16)).f0) ((rd_T54 (rd_L10 x1 x16) (rd x13 x16)).f1) ((rd_T54 (rd_L10 x1 x16) (rd x13 x16)).f2)).bind fun bt179 => (if y173.length < 2513169434916 then (spec_Ends.l3 k x0 x1 x7 x8 (y173 ++ [(⟨x16, (⟨bt179.1, bt179.2.1, bt179.2.2⟩ : S54), (-1)⟩ : S56)]) (x13.set (x16 : Int).toNat (wrap64 ((rd x13 x16) + 1))) (x14.set (x16 : Int).toNat x17) (wrap64 (x15 + 1))) else (none))) else (none)) else (none)) else (none))) else (none)) else (if x16 < (x13.length : Int) then (if 0 ≤ (rd x13 x16) then (if (rd x13 x16) < ((rd_L10 x1 x16).length : Int) then ((spec_l16Arrival.f ((rd_T54 (rd_L10 x1 x16) (rd x13 x16)).f0) ((rd_T54 (rd_L10 x1 x16) (rd x13 x16)).f1) ((rd_T54 (rd_L10 x1 x16) (rd x13 x16)).f2)).bind fun bt192 => (if x12.length < 2513169434916 then (spec_Ends.l3 k x0 x1 x7 x8 (x12 ++ [(⟨x16, (⟨bt192.1, bt192.2.1, bt192.2.2⟩ : S54), (-1)⟩ : S56)]) (x13.set (x16 : Int).toNat (wrap64 ((rd x13 x16) + 1))) x14 (wrap64 (x15 + 1))) else (none))) else (none)) else (none)) else (none))) else (none))) else (none)) else (none)
def spec_Ends.l5 : Nat → List (S58) → List (S56) → List (S56) → Int → Option ((List (S56)))
  | 0, _, _, _, _ => none
  | k + 1, x0, x7, x12, x19 => if x19 < (x0.length : Int) then (if x12.length < 2513169434916 then (spec_Ends.l5 k x0 x7 (x12 ++ [(⟨x19, (⟨0, ([] : List Int), false⟩ : S54), 1000000000001⟩ : S56)]) (wrap64 (x19 + 1))) else (none)) else (if (x12.length : Int) > 400 then (some x7) else (some x12))
end
def spec_Ends.f (k : Nat) (l0 : List (S58)) (l1 : List (List (S54))) (l2 : List Int) : Option ((List (S56))) := (some (([] : List (S56)) : List (S56))).bind fun y138 => ((spec_InputsOk.f l0 l1).bind fun t141 => (if t141 = true then (spec_Ends.j0 k l0 l1 l2 y138 (decide ((l2.length : Int) > 400))) else (spec_Ends.j0 k l0 l1 l2 y138 true)))
def spec_Ends.T24 : Bool × List (List Nat × List Nat) := (true, [([], []), ([], []), ([0, 1], [0, 1]), ([2], [2]), ([], []), ([], []), ([4, 5], [4, 5]), ([6], [6]), ([7], [7]), ([3, 8], [3, 8])])
def spec_Ends.B24 : List Nat := [0, 0, 3, 7, 0, 0, 48, 112, 240, 511]
theorem spec_Ends.tab24 : rtab .any (opsOf Try.f6 24) = spec_Ends.T24 := by kernel_rfl
theorem spec_Ends.bits24 : waitsOk spec_Ends.T24.2 spec_Ends.B24 = true := by kernel_rfl
def spec_Ends.T33 : Bool × List (List Nat × List Nat) := (true, [([], []), ([], []), ([], []), ([], []), ([2, 3], [2, 3]), ([4], [4]), ([], []), ([], []), ([6, 7], [6, 7]), ([8], [8]), ([5, 9], [5, 9]), ([10], [10]), ([11], [11]), ([1, 12], [1, 12]), ([13], [13]), ([0, 14, 12], [0, 14]), ([15, 15, 0, 1, 2, 3, 4, 5, 6, 7, 8, 9, 10, 11, 12, 13, 14, 15], [0, 15])])
def spec_Ends.B33 : List Nat := [0, 0, 0, 0, 12, 28, 0, 0, 192, 448, 1020, 2044, 4092, 8190, 16382, 32767, 65535]
theorem spec_Ends.tab33 : rtab .any (opsOf Try.f6 33) = spec_Ends.T33 := by kernel_rfl
theorem spec_Ends.bits33 : waitsOk spec_Ends.T33.2 spec_Ends.B33 = true := by kernel_rfl
set_option maxHeartbeats 8000000 in
set_option maxRecDepth 100000 in
theorem spec_Ends.calls (k : Nat) (A0 : Option Addr) (c0 : Nat) (l0 : List (S58)) (A1 : Option Addr) (c1 : Nat) (l1 : List (List (S54))) (A2 : Option Addr) (c2 : Nat) (l2 : List Int) (r : List (S56)) (w : World) (hr0 : Kd.C k58 w A0 l0.length l0) (hc0 : l0.length ≤ c0) (hr1 : Kd.C (Kd.slice 54 k54) w A1 l1.length l1) (hc1 : l1.length ≤ c1) (hr2 : Kd.C (Kd.int .i64) w A2 l2.length l2) (hc2 : l2.length ≤ c2) (h : spec_Ends.f k l0 l1 l2 = some r) :
    Calls Try.prog 6 #[.slice A0 l0.length c0, .slice A1 l1.length c1, .slice A2 l2.length c2] w fun e w' => ∃ v0_ : Value, e = .returned (v0_) ∧ Kd.S k56 56 w' w.heap.size (fun _ => True) v0_ r ∧ Below w.heap.size w w' := by
  have hu56 := Try.underlying56
  have hu54 := Try.underlying54
  have HR0 := Aside0.mk hr0
  have HC0 := Aside0.mk hc0
  clear hr0 hc0
  have HR1 := Aside0.mk hr1
  have HC1 := Aside0.mk hc1
  clear hr1 hc1
  have HR2 := Aside0.mk hr2
  have HC2 := Aside0.mk hc2
  clear hr2 hc2
  have HB := Aside0.mk (Below.refl w.heap.size w)
  have H : ((some (([] : List (S56)) : List (S56))).bind fun y138 => ((spec_InputsOk.f l0 l1).bind fun t141 => (if t141 = true then (spec_Ends.j0 k l0 l1 l2 y138 (decide ((l2.length : Int) > 400))) else (spec_Ends.j0 k l0 l1 l2 y138 true)))) = some r := h
  clear h
  obtain ⟨y138, hy138⟩ : ∃ y_ : List (S56), y_ = (([] : List (S56))) := ⟨_, rfl⟩
  replace H : ((spec_InputsOk.f l0 l1).bind fun t141 => (if t141 = true then (spec_Ends.j0 k l0 l1 l2 y138 (decide ((l2.length : Int) > 400))) else (spec_Ends.j0 k l0 l1 l2 y138 true))) = some r := by first | (rw [hy138]; with_reducible exact H) | (have H2_ := (Option.bind_some _ _).symm.trans H; rw [hy138]; with_reducible exact H2_) | (have H2_ := (Option.bind_some _ _).symm.trans H; with_reducible exact H2_) | with_reducible exact H | (rw [hy138]; exact H) | exact H
  have Ny138 := Aside0.mk hy138
  clear hy138
  have HC4 := Aside0.mk H
  clear H
  go_enter Try.func6, Try.ntmps6
  go_upto_region 2 with (first | ((with_reducible refine gate_dst (N := 20) rfl ?_); (try (refine gate_guard (by rfl) ?_; dsimp only)); refine Kd.S_lit k56 _ 56 ?hg (N := 20) ?hd (xs := ([] : List (S56))) (inner := []) (ok := fun _ => True) (okp := fun _ => True) ?hr ?hp (fun _ hk => hk) trivial (Below.refl _ _) (Nat.le_refl _) (by simp) ?_; (case hd => rfl); (case hg => rfl); (case hr => first | (go_simp; done) | (go_simp; rfl)); (case hp => exact (Reps.none _ _)); intro v139 w5 ho6 hb hg_ hnew_; clear hg_ hnew_; (first | rw [← Ny138.out] at ho6 | (simp only [Int.reduceToNat] at ho6; rw [← Ny138.out] at ho6)); have n0_ := Aside0.mk (Kd.S_lower ho6 (below_size (by repeat (first | (with_reducible first | exact HB.out | apply below_alloc | apply pw_below_drewN | apply below_drew1) | exact HB.out)))); have n1_ := Aside0.mk (below_step (by repeat (first | (with_reducible first | exact HB.out | apply below_alloc | apply pw_below_drewN | apply below_drew1) | exact HB.out)) hb); clear HB; have HO140 := n0_; have HB := n1_; clear n0_ n1_; clear hb ho6))
  (try simp only [Act.put, sT_, s0_, sS_])
  go_cut [29] (fun v29 wc => ∃ (kq : Nat) (x29_3 : Bool), v29 = .bool x29_3 ∧ Aside0 (spec_Ends.j0 kq l0 l1 l2 y138 x29_3 = some r) ∧ Aside0 (kq ≤ k) ∧ Aside0 (Kd.S k56 56 wc w.heap.size (fun _ => True) v139 y138) ∧ Aside0 (Below w.heap.size w wc))
  case first =>
    have H := HC4.out
    clear HC4
    replace H := Option.bind_eq_some_iff.mp H
    obtain ⟨t141, A70, H⟩ := H
    replace H : (if t141 = true then (spec_Ends.j0 k l0 l1 l2 y138 (decide ((l2.length : Int) > 400))) else (spec_Ends.j0 k l0 l1 l2 y138 true)) = some r := H
    have A7 := Aside0.mk A70
    clear A70
    by_cases c8 : t141 = true
    · subst c8
      have H1 : (spec_Ends.j0 k l0 l1 l2 y138 (decide ((l2.length : Int) > 400))) = some r := by rw [if_pos rfl] at H; exact H
      clear H
      have H := H1
      clear H1
      have H' := Aside0.mk H
      clear H
      go_wp2_with (first | ((with_reducible refine gate_callee (f := 22) rfl ?_); refine goesL_ (some 23) rfl rfl Try.func22 (by kernel_rfl) rfl #[.slice A0 l0.length c0, .slice A1 l1.length c1] rfl (by (try simp only [List.map_toArray, List.map_cons, List.map_nil]); first | done | rfl | (simp only [List.length_drop, List.length_take]; rfl)) ?_; (with_reducible refine (spec_InputsOk.calls _ _ l0 _ _ l1 true _ ?side1 ?side2 ?side3 ?side4 A7.out).mono ?_); (case side1 => repeat (first | exact (Kd.C_below HR0.out HB.out) | (with_reducible refine Kd.C_alloc ?_ _) | (with_reducible refine Kd.C_drewN ?_ _) | (with_reducible refine Kd.C_drew ?_))); (case side2 => exact HC0.out); (case side3 => repeat (first | exact (Kd.C_below HR1.out HB.out) | (with_reducible refine Kd.C_alloc ?_ _) | (with_reducible refine Kd.C_drewN ?_ _) | (with_reducible refine Kd.C_drew ?_))); (case side4 => exact HC1.out); rintro e w9 ⟨rfl, hb⟩; refine ⟨_, rfl, ?_⟩; have n0_ := Aside0.mk (Kd.S_below (by (with_reducible repeat (first | apply Kd.S_alloc | apply Kd.S_drewN | apply Kd.S_drew)); exact HO140.out) hb); have n1_ := Aside0.mk (below_step (by repeat (first | (with_reducible first | exact HB.out | apply below_alloc | apply pw_below_drewN | apply below_drew1) | exact HB.out)) hb); clear HO140; clear HB; have HO140 := n0_; have HB := n1_; clear n0_ n1_; (try clear hb); (try clear hb2); (try clear hk); (try clear hi)))
      go_meet
      case rel => exact ⟨_, (decide ((l2.length : Int) > 400)), (by first | rfl | (simp; done) | (simp [*]; done)), H', ⟨by first | omega | exact Nat.le_refl _⟩, ⟨by (with_reducible repeat (first | apply Kd.S_alloc | apply Kd.S_drewN | apply Kd.S_drew)); exact HO140.out⟩, ⟨by repeat (first | (with_reducible first | exact HB.out | apply below_alloc | apply pw_below_drewN | apply below_drew1) | exact HB.out)⟩⟩
    · replace c8 := Bool.eq_false_iff.mpr c8
      subst c8
      have H1 : (spec_Ends.j0 k l0 l1 l2 y138 true) = some r := by rw [if_neg (show ¬ (false = true) by decide)] at H; exact H
      clear H
      have H := H1
      clear H1
      have H' := Aside0.mk H
      clear H
      go_wp2_with (first | ((with_reducible refine gate_callee (f := 22) rfl ?_); refine goesL_ (some 23) rfl rfl Try.func22 (by kernel_rfl) rfl #[.slice A0 l0.length c0, .slice A1 l1.length c1] rfl (by (try simp only [List.map_toArray, List.map_cons, List.map_nil]); first | done | rfl | (simp only [List.length_drop, List.length_take]; rfl)) ?_; (with_reducible refine (spec_InputsOk.calls _ _ l0 _ _ l1 false _ ?side1 ?side2 ?side3 ?side4 A7.out).mono ?_); (case side1 => repeat (first | exact (Kd.C_below HR0.out HB.out) | (with_reducible refine Kd.C_alloc ?_ _) | (with_reducible refine Kd.C_drewN ?_ _) | (with_reducible refine Kd.C_drew ?_))); (case side2 => exact HC0.out); (case side3 => repeat (first | exact (Kd.C_below HR1.out HB.out) | (with_reducible refine Kd.C_alloc ?_ _) | (with_reducible refine Kd.C_drewN ?_ _) | (with_reducible refine Kd.C_drew ?_))); (case side4 => exact HC1.out); rintro e w10 ⟨rfl, hb⟩; refine ⟨_, rfl, ?_⟩; have n0_ := Aside0.mk (Kd.S_below (by (with_reducible repeat (first | apply Kd.S_alloc | apply Kd.S_drewN | apply Kd.S_drew)); exact HO140.out) hb); have n1_ := Aside0.mk (below_step (by repeat (first | (with_reducible first | exact HB.out | apply below_alloc | apply pw_below_drewN | apply below_drew1) | exact HB.out)) hb); clear HO140; clear HB; have HO140 := n0_; have HB := n1_; clear n0_ n1_; (try clear hb); (try clear hb2); (try clear hk); (try clear hi)))
      go_meet
      case rel => exact ⟨_, (true), (by first | rfl | (simp; done) | (simp [*]; done)), H', ⟨by first | omega | exact Nat.le_refl _⟩, ⟨by (with_reducible repeat (first | apply Kd.S_alloc | apply Kd.S_drewN | apply Kd.S_drew)); exact HO140.out⟩, ⟨by repeat (first | (with_reducible first | exact HB.out | apply below_alloc | apply pw_below_drewN | apply below_drew1) | exact HB.out)⟩⟩
  case rest =>
    clear HC4
    try clear c1
    try clear c2
    try clear p2
    try clear c6
    try clear c8
    obtain ⟨kq, x29_3, rfl, HA, HJ3, HO_7, HB⟩ := hcut
    cases kq with
    | zero => exact absurd HA.out (by simp [spec_Ends.j0])
    | succ kj3 =>
      have H := HA.out
      clear HA
      simp only [spec_Ends.j0] at H
      by_cases c11 : x29_3 = true
      · subst c11
        have H1 : (some y138) = some r := by rw [if_pos rfl] at H; exact H
        clear H
        have H := H1
        clear H1
        obtain rfl := Option.some.inj H
        go_wp2
        go_ret
        exact ⟨_, by first | rfl | (simp [errW_none, errW_some] <;> rfl) | (simp [*, errW_none, errW_some] <;> rfl), by (with_reducible repeat (first | apply Kd.S_alloc | apply Kd.S_drewN | apply Kd.S_drew)); exact HO_7.out, by repeat (first | (with_reducible first | exact HB.out | apply below_alloc | apply pw_below_drewN | apply below_drew1) | exact HB.out)⟩
      · replace c11 := Bool.eq_false_iff.mpr c11
        subst c11
        have H1 : ((some (([] : List Int) : List Int)).bind fun y142 => (if y142.length + l2.length < 17592186044416 then (spec_Ends.l0 kj3 l0 l1 l2 y138 (y142 ++ l2) 0) else (none))) = some r := by rw [if_neg (show ¬ (false = true) by decide)] at H; exact H
        clear H
        have H := H1
        clear H1
        obtain ⟨y142, hy142⟩ : ∃ y_ : List Int, y_ = (([] : List Int)) := ⟨_, rfl⟩
        replace H : (if y142.length + l2.length < 17592186044416 then (spec_Ends.l0 kj3 l0 l1 l2 y138 (y142 ++ l2) 0) else (none)) = some r := by first | (rw [hy142]; with_reducible exact H) | (have H2_ := (Option.bind_some _ _).symm.trans H; rw [hy142]; with_reducible exact H2_) | (have H2_ := (Option.bind_some _ _).symm.trans H; with_reducible exact H2_) | with_reducible exact H | (rw [hy142]; exact H) | exact H
        have Ny142 := Aside0.mk hy142
        clear hy142
        by_cases c12 : y142.length + l2.length < 17592186044416
        case neg => rw [if_neg c12] at H; exact absurd H (by simp)
        rw [if_pos c12] at H
        have LMc12 := Aside0.mk c12
        clear c12
        obtain ⟨y145, hy145⟩ : ∃ y_ : List Int, y_ = (y142 ++ l2) := ⟨_, rfl⟩
        replace H : (spec_Ends.l0 kj3 l0 l1 l2 y138 y145 0) = some r := by first | (rw [hy145]; with_reducible exact H) | (have H2_ := (Option.bind_some _ _).symm.trans H; rw [hy145]; with_reducible exact H2_) | (have H2_ := (Option.bind_some _ _).symm.trans H; with_reducible exact H2_) | with_reducible exact H | (rw [hy145]; exact H) | exact H
        have Ny145 := Aside0.mk hy145
        clear hy145
        have H' := Aside0.mk H
        clear H
        go_wp2_with (first | ((with_reducible refine gate_dst (N := 31) rfl ?_); (try (refine gate_guard (by rfl) ?_; dsimp only)); refine Kd.R_lit (Kd.int .i64) _ 3 ?hg (N := 31) ?hd (xs := ([] : List Int)) (inner := []) (ok := fun _ => True) (okp := fun _ => True) ?hr ?hp (fun _ hk => hk) trivial (Below.refl _ _) (Nat.le_refl _) (by simp) ?_; (case hd => rfl); (case hg => rfl); (case hr => first | (go_simp; done) | (go_simp; rfl)); (case hp => exact (Reps.none _ _)); intro v143 w13 ho14 hb hg_ hnew_; clear hg_ hnew_; (first | rw [← Ny142.out] at ho14 | (simp only [Int.reduceToNat] at ho14; rw [← Ny142.out] at ho14)); have n0_ := Aside0.mk (Kd.S_elder' (by (with_reducible repeat (first | apply Kd.S_alloc | apply Kd.S_drewN | apply Kd.S_drew)); exact HO_7.out) (Kd.R_base ho14) hb); have n1_ := Aside0.mk (Kd.R_lower ho14 (below_size (by repeat (first | (with_reducible first | exact HB.out | apply below_alloc | apply pw_below_drewN | apply below_drew1) | exact HB.out)))); have n2_ := Aside0.mk (below_step (by repeat (first | (with_reducible first | exact HB.out | apply below_alloc | apply pw_below_drewN | apply below_drew1) | exact HB.out)) hb); clear HO_7; clear HB; have HO_7 := n0_; have HO144 := n1_; have HB := n2_; clear n0_ n1_ n2_; clear hb ho14) | ((with_reducible refine gate_builtin (b := .append) (xs := #[.tmp 31, .tmp 32]) rfl ?_); (try (refine gate_guard (by rfl) ?_; dsimp only)); at_builtin; refine Kd.R_append_rows (Kd.int .i64) (w0 := w) w.heap.size rfl (.tmp 31) (.tmp 32) 24 3 (.int .i64 0) 8 rfl Try.underlying24 info3 rfl (by decide) (by omega) v143 y142 l2 _ _ _ (fun _ => True) (fun _ => False) rfl rfl ?aO ?aR (fun _ _ h => h) (fun _ h => h.elim) ?aF ?aB ?aS ?aL ?_; (case aR => repeat (first | exact (Kd.C_below HR2.out HB.out) | (with_reducible refine Kd.C_alloc ?_ _) | (with_reducible refine Kd.C_drewN ?_ _) | (with_reducible refine Kd.C_drew ?_))); (case aB => exact (by repeat (first | (with_reducible first | exact HB.out | apply below_alloc | apply pw_below_drewN | apply below_drew1) | exact HB.out))); (case aF => exact (fun _ _ => trivial)); (case aO => exact (by (with_reducible repeat (first | apply Kd.R_alloc | apply Kd.R_drewN | apply Kd.R_drew)); exact HO144.out)); (case aS => exact (below_size (by repeat (first | (with_reducible first | exact HB.out | apply below_alloc | apply pw_below_drewN | apply below_drew1) | exact HB.out)))); (case aL => have := LMc12.out; omega); intro v146 w15 ho hb hg hat; rw [← Ny145.out] at ho; have n0_ := Aside0.mk (Kd.S_after (ok := (fun _ => True)) (by (with_reducible repeat (first | apply Kd.S_alloc | apply Kd.S_drewN | apply Kd.S_drew)); exact HO_7.out) hg hat); have n1_ := Aside0.mk (hb); have n2_ := Aside0.mk (ho); clear HO_7; clear HB; clear HO144; have HO_7 := n0_; have HB := n1_; have HO147 := n2_; clear n0_ n1_ n2_; clear ho hb hg hat))
        go_loopg [9] kj3 (fun kq v9 w' => ∃ (x9_2 : Int), v9 = .int .i64 x9_2 ∧ Aside0 (spec_Ends.l0 kq l0 l1 l2 y138 y145 x9_2 = some r) ∧ Aside0 (kq ≤ kj3) ∧ Aside0 (Kd.S k56 56 w' w.heap.size (fun k_ => some k_ ≠ (v146 : Value).ownBlock) v139 y138) ∧ Aside0 (Kd.R (Kd.int .i64) 3 w' w.heap.size (fun _ => True) v146 y145) ∧ Aside0 (Below w.heap.size w w'))
        case atStart => exact ⟨(0), (by first | rfl | (simp; done) | (simp [*]; done)), H', ⟨Nat.le_refl _⟩, ⟨by (with_reducible repeat (first | apply Kd.S_alloc | apply Kd.S_drewN | apply Kd.S_drew)); exact Kd.S_mono HO_7.out (fun _ hk => hk.2)⟩, ⟨by (with_reducible repeat (first | apply Kd.R_alloc | apply Kd.R_drewN | apply Kd.R_drew)); exact HO147.out⟩, ⟨by repeat (first | (with_reducible first | exact HB.out | apply below_alloc | apply pw_below_drewN | apply below_drew1) | exact HB.out)⟩⟩
        case round =>
          clear H'
          try clear c1
          try clear c2
          try clear p2
          try clear c6
          try clear c8
          try clear c11
          try clear c12
          try clear p2
          obtain ⟨x9_2, rfl, HA, HK2, HO_7, HO_8, HB⟩ := hrel
          cases gk with
          | zero => exact absurd HA.out (by simp [spec_Ends.l0])
          | succ k2 =>
            have H := HA.out
            clear HA
            simp only [spec_Ends.l0] at H
            by_cases c16 : x9_2 < (l2.length : Int)
            · rw [if_pos c16] at H
              have c16b0 : decide (x9_2 < (l2.length : Int)) = true := decide_eq_true c16
              clear c16
              by_cases c17 : 0 ≤ x9_2
              case neg => rw [if_neg c17] at H; exact absurd H (by simp)
              rw [if_pos c17] at H
              have c17b0 : decide (0 ≤ x9_2) = true := decide_eq_true c17
              clear c17
              replace H := Option.bind_eq_some_iff.mp H
              obtain ⟨t149, A180, H⟩ := H
              replace H : (if t149 = true then (spec_Ends.l0 k2 l0 l1 l2 y138 y145 (wrap64 (x9_2 + 1))) else (some y138)) = some r := H
              have A18 := Aside0.mk A180
              clear A180
              by_cases c19 : t149 = true
              · subst c19
                have H1 : (spec_Ends.l0 k2 l0 l1 l2 y138 y145 (wrap64 (x9_2 + 1))) = some r := by rw [if_pos rfl] at H; exact H
                clear H
                have H := H1
                clear H1
                have H' := Aside0.mk H
                clear H
                have p148 : 0 ≤ (x9_2 : Int) := of_decide_eq_true (by first | (with_reducible assumption) | assumption)
                have q148 : x9_2 < (l2.length : Int) := of_decide_eq_true (by first | (with_reducible assumption) | assumption)
                obtain ⟨ad148, e148, hx148_0⟩ := Kd.at_int HR2.out x9_2 p148 q148
                cases e148
                replace hx148_0 := (HB.out.cell (World.block_lt_of_cell? w _ hx148_0)).trans hx148_0
                replace p148 := eq_true p148
                replace q148 := eq_true q148
                go_wp2_with (first | ((with_reducible refine gate_callee (f := 23) rfl ?_); refine goesL_ (some 47) rfl rfl Try.func23 (by kernel_rfl) rfl #[.int .i64 (rd l2 x9_2), .int .i64 0, .int .i64 (wrap64 ((l0.length : Int) - 1))] rfl (by (try simp only [List.map_toArray, List.map_cons, List.map_nil]); first | done | rfl | (simp only [List.length_drop, List.length_take]; rfl)) ?_; (with_reducible refine (spec_l1In.calls (rd l2 x9_2) 0 (wrap64 ((l0.length : Int) - 1)) true _ A18.out).mono ?_); rintro e w' ⟨rfl, ⟨nd, rfl⟩⟩; refine ⟨_, rfl, ?_⟩))
                go_roundg k2
                case measure => have := HJ3.out; have := HK2.out; omega
                case rel => exact ⟨(wrap64 (x9_2 + 1)), (by first | rfl | (simp; done) | (simp [*]; done)), H', ⟨by have := HJ3.out; have := HK2.out; omega⟩, ⟨by (with_reducible repeat (first | apply Kd.S_alloc | apply Kd.S_drewN | apply Kd.S_drew)); exact HO_7.out⟩, ⟨by (with_reducible repeat (first | apply Kd.R_alloc | apply Kd.R_drewN | apply Kd.R_drew)); exact HO_8.out⟩, ⟨by repeat (first | (with_reducible first | exact HB.out | apply below_alloc | apply pw_below_drewN | apply below_drew1) | exact HB.out)⟩⟩
              · replace c19 := Bool.eq_false_iff.mpr c19
                subst c19
                have H1 : (some y138) = some r := by rw [if_neg (show ¬ (false = true) by decide)] at H; exact H
                clear H
                have H := H1
                clear H1
                obtain rfl := Option.some.inj H
                have p148 : 0 ≤ (x9_2 : Int) := of_decide_eq_true (by first | (with_reducible assumption) | assumption)
                have q148 : x9_2 < (l2.length : Int) := of_decide_eq_true (by first | (with_reducible assumption) | assumption)
                obtain ⟨ad148, e148, hx148_0⟩ := Kd.at_int HR2.out x9_2 p148 q148
                cases e148
                replace hx148_0 := (HB.out.cell (World.block_lt_of_cell? w _ hx148_0)).trans hx148_0
                replace p148 := eq_true p148
                replace q148 := eq_true q148
                go_wp2_with (first | ((with_reducible refine gate_callee (f := 23) rfl ?_); refine goesL_ (some 47) rfl rfl Try.func23 (by kernel_rfl) rfl #[.int .i64 (rd l2 x9_2), .int .i64 0, .int .i64 (wrap64 ((l0.length : Int) - 1))] rfl (by (try simp only [List.map_toArray, List.map_cons, List.map_nil]); first | done | rfl | (simp only [List.length_drop, List.length_take]; rfl)) ?_; (with_reducible refine (spec_l1In.calls (rd l2 x9_2) 0 (wrap64 ((l0.length : Int) - 1)) false _ A18.out).mono ?_); rintro e w' ⟨rfl, ⟨nd, rfl⟩⟩; refine ⟨_, rfl, ?_⟩))
                go_ret
                exact ⟨_, by first | rfl | (simp [errW_none, errW_some] <;> rfl) | (simp [*, errW_none, errW_some] <;> rfl), by (with_reducible repeat (first | apply Kd.S_alloc | apply Kd.S_drewN | apply Kd.S_drew)); exact Kd.S_mono HO_7.out (fun _ hk => trivial), by repeat (first | (with_reducible first | exact HB.out | apply below_alloc | apply pw_below_drewN | apply below_drew1) | exact HB.out)⟩
            · rw [if_neg c16] at H
              have c16b0 : decide (x9_2 < (l2.length : Int)) = false := decide_eq_false c16
              clear c16
              have H' := Aside0.mk H
              clear H
              go_wp2
              go_loopg [8, 10] k2 (fun kq v8 v10 w' => ∃ (x8_3 : List Int) (x10_3 : Int), v10 = .int .i64 x10_3 ∧ Aside0 (spec_Ends.l1 kq l0 l1 y138 x8_3 x10_3 = some r) ∧ Aside0 (kq ≤ k2) ∧ Aside0 (Kd.S k56 56 w' w.heap.size (fun k_ => some k_ ≠ (v8 : Value).ownBlock) v139 y138) ∧ Aside0 (Kd.R (Kd.int .i64) 3 w' w.heap.size (fun _ => True) v8 x8_3) ∧ Aside0 (Below w.heap.size w w'))
              case atStart => exact ⟨(y145), (0), (by first | rfl | (simp; done) | (simp [*]; done)), H', ⟨Nat.le_refl _⟩, ⟨by (with_reducible repeat (first | apply Kd.S_alloc | apply Kd.S_drewN | apply Kd.S_drew)); exact HO_7.out⟩, ⟨by (with_reducible repeat (first | apply Kd.R_alloc | apply Kd.R_drewN | apply Kd.R_drew)); exact HO_8.out⟩, ⟨by repeat (first | (with_reducible first | exact HB.out | apply below_alloc | apply pw_below_drewN | apply below_drew1) | exact HB.out)⟩⟩
              case round =>
                clear H'
                try clear c1
                try clear p1
                try clear q1
                try clear hx1
                try clear c2
                try clear p2
                try clear c6
                try clear p6
                try clear c8
                try clear c11
                try clear c12
                try clear p14
                try clear q14
                try clear hx14
                try clear c16
                try clear c16b0
                try clear c17
                try clear c17b0
                try clear c19
                try clear hx148_0
                try clear p148
                try clear p2
                try clear q148
                obtain ⟨x8_3, x10_3, rfl, HA, HK3, HO_7, HO_8, HB⟩ := hrel
                cases gk with
                | zero => exact absurd HA.out (by simp [spec_Ends.l1])
                | succ k3 =>
                  have H := HA.out
                  clear HA
                  simp only [spec_Ends.l1] at H
                  by_cases c20 : x10_3 < (l0.length : Int)
                  · rw [if_pos c20] at H
                    have c20b0 : decide (x10_3 < (l0.length : Int)) = true := decide_eq_true c20
                    clear c20
                    have H' := Aside0.mk H
                    clear H
                    go_wp2
                    go_loopg [8, 11] k3 (fun kq v8 v11 w' => ∃ (x8_4 : List Int) (x11_4 : Int), v11 = .int .i64 x11_4 ∧ Aside0 (spec_Ends.l2 kq l0 l1 y138 x8_4 x10_3 x11_4 = some r) ∧ Aside0 (kq ≤ k3) ∧ Aside0 (Kd.S k56 56 w' w.heap.size (fun k_ => some k_ ≠ (v8 : Value).ownBlock) v139 y138) ∧ Aside0 (Kd.R (Kd.int .i64) 3 w' w.heap.size (fun _ => True) v8 x8_4) ∧ Aside0 (Below w.heap.size w w'))
                    case atStart => exact ⟨(x8_3), (0), (by first | rfl | (simp; done) | (simp [*]; done)), H', ⟨Nat.le_refl _⟩, ⟨by (with_reducible repeat (first | apply Kd.S_alloc | apply Kd.S_drewN | apply Kd.S_drew)); exact HO_7.out⟩, ⟨by (with_reducible repeat (first | apply Kd.R_alloc | apply Kd.R_drewN | apply Kd.R_drew)); exact HO_8.out⟩, ⟨by repeat (first | (with_reducible first | exact HB.out | apply below_alloc | apply pw_below_drewN | apply below_drew1) | exact HB.out)⟩⟩
                    case round =>
                      clear H'
                      try clear c1
                      try clear p1
                      try clear q1
                      try clear hx1
                      try clear c2
                      try clear p2
                      try clear c6
                      try clear p6
                      try clear c8
                      try clear c11
                      try clear c12
                      try clear p14
                      try clear q14
                      try clear hx14
                      try clear c16
                      try clear c16b0
                      try clear c17
                      try clear c17b0
                      try clear c19
                      try clear c20
                      try clear c20b0
                      try clear hx148_0
                      try clear p1
                      try clear p14
                      try clear p148
                      try clear p2
                      try clear p6
                      try clear q1
                      try clear q14
                      try clear q148
                      obtain ⟨x8_4, x11_4, rfl, HA, HK4, HO_7, HO_8, HB⟩ := hrel
                      cases gk with
                      | zero => exact absurd HA.out (by simp [spec_Ends.l2])
                      | succ k4 =>
                        have H := HA.out
                        clear HA
                        simp only [spec_Ends.l2] at H
                        by_cases c21 : 0 ≤ x10_3
                        case neg => rw [if_neg c21] at H; exact absurd H (by simp)
                        rw [if_pos c21] at H
                        have c21b0 : decide (0 ≤ x10_3) = true := decide_eq_true c21
                        clear c21
                        by_cases c22 : x10_3 < (l1.length : Int)
                        case neg => rw [if_neg c22] at H; exact absurd H (by simp)
                        rw [if_pos c22] at H
                        have c22b0 : decide (x10_3 < (l1.length : Int)) = true := decide_eq_true c22
                        clear c22
                        by_cases c23 : x11_4 < ((rd_L10 l1 x10_3).length : Int)
                        · rw [if_pos c23] at H
                          have c23b0 : decide (x11_4 < ((rd_L10 l1 x10_3).length : Int)) = true := decide_eq_true c23
                          clear c23
                          by_cases c24 : x8_4.length < 17592186044416
                          case neg => rw [if_neg c24] at H; exact absurd H (by simp)
                          rw [if_pos c24] at H
                          have LMc24 := Aside0.mk c24
                          clear c24
                          obtain ⟨y151, hy151⟩ : ∃ y_ : List Int, y_ = (x8_4 ++ [x10_3]) := ⟨_, rfl⟩
                          replace H : (spec_Ends.l2 k4 l0 l1 y138 y151 x10_3 (wrap64 (x11_4 + 1))) = some r := by first | (rw [hy151]; with_reducible exact H) | (have H2_ := (Option.bind_some _ _).symm.trans H; rw [hy151]; with_reducible exact H2_) | (have H2_ := (Option.bind_some _ _).symm.trans H; with_reducible exact H2_) | with_reducible exact H | (rw [hy151]; exact H) | exact H
                          have Ny151 := Aside0.mk hy151
                          clear hy151
                          have H' := Aside0.mk H
                          clear H
                          have p150 : 0 ≤ (x10_3 : Int) := of_decide_eq_true (by first | (with_reducible assumption) | assumption)
                          have q150 : x10_3 < (l1.length : Int) := of_decide_eq_true (by first | (with_reducible assumption) | assumption)
                          obtain ⟨ad150, A150_0, c150_0, e150, hx150_0, hl150_0, hi150_0⟩ := at_L10 HR1.out x10_3 p150 q150
                          cases e150
                          replace hx150_0 := (HB.out.cell (World.block_lt_of_cell? w _ hx150_0)).trans hx150_0
                          have HR150_0 := Aside0.mk hi150_0
                          have HC150_0 := Aside0.mk hl150_0
                          clear hi150_0 hl150_0
                          replace p150 := eq_true p150
                          replace q150 := eq_true q150
                          go_wp2_with (first | ((with_reducible refine gate_builtin (b := .append) (xs := #[.tmp 65, .tmp 67]) rfl ?_); (try (refine gate_guard (by rfl) ?_; dsimp only)); at_builtin; refine Kd.R_append (Kd.int .i64) (w0 := w) w.heap.size rfl (.tmp 65) (.tmp 67) 24 3 (.int .i64 0) 8 rfl Try.underlying24 info3 rfl (by decide) (by omega) u8 x8_4 x10_3 [.int .i64 x10_3] (fun _ => True) (fun _ => False) rfl rfl ?aP (fun _ hk => hk.elim) ?aF ?aO ?aB ?aS ?aL ?_; (case aP => exact rfl); (case aB => exact (by repeat (first | (with_reducible first | exact HB.out | apply below_alloc | apply pw_below_drewN | apply below_drew1) | exact HB.out))); (case aF => exact (fun _ _ => trivial)); (case aO => exact (by (with_reducible repeat (first | apply Kd.R_alloc | apply Kd.R_drewN | apply Kd.R_drew)); exact HO_8.out)); (case aS => exact (below_size (by repeat (first | (with_reducible first | exact HB.out | apply below_alloc | apply pw_below_drewN | apply below_drew1) | exact HB.out)))); (case aL => have := LMc24.out; omega); intro v152 w25 ho hb hg hat; rw [← Ny151.out] at ho; have n0_ := Aside0.mk (Kd.S_after (ok := (fun _ => True)) (by (with_reducible repeat (first | apply Kd.S_alloc | apply Kd.S_drewN | apply Kd.S_drew)); exact Kd.S_mono HO_7.out (fun _ hk => ⟨trivial, hk⟩)) hg hat); have n1_ := Aside0.mk (hb); have n2_ := Aside0.mk (ho); clear HO_7; clear HB; clear HO_8; have HO_7 := n0_; have HB := n1_; have HO153 := n2_; clear n0_ n1_ n2_; clear ho hb hg hat))
                          go_roundg k4
                          case measure => have := HJ3.out; have := HK2.out; have := HK3.out; have := HK4.out; omega
                          case rel => exact ⟨(y151), (wrap64 (x11_4 + 1)), (by first | rfl | (simp; done) | (simp [*]; done)), H', ⟨by have := HJ3.out; have := HK2.out; have := HK3.out; have := HK4.out; omega⟩, ⟨by (with_reducible repeat (first | apply Kd.S_alloc | apply Kd.S_drewN | apply Kd.S_drew)); exact Kd.S_mono HO_7.out (fun _ hk => hk.2)⟩, ⟨by (with_reducible repeat (first | apply Kd.R_alloc | apply Kd.R_drewN | apply Kd.R_drew)); exact HO153.out⟩, ⟨by repeat (first | (with_reducible first | exact HB.out | apply below_alloc | apply pw_below_drewN | apply below_drew1) | exact HB.out)⟩⟩
                        · rw [if_neg c23] at H
                          have c23b0 : decide (x11_4 < ((rd_L10 l1 x10_3).length : Int)) = false := decide_eq_false c23
                          clear c23
                          have H' := Aside0.mk H
                          clear H
                          have p150 : 0 ≤ (x10_3 : Int) := of_decide_eq_true (by first | (with_reducible assumption) | assumption)
                          have q150 : x10_3 < (l1.length : Int) := of_decide_eq_true (by first | (with_reducible assumption) | assumption)
                          obtain ⟨ad150, A150_0, c150_0, e150, hx150_0, hl150_0, hi150_0⟩ := at_L10 HR1.out x10_3 p150 q150
                          cases e150
                          replace hx150_0 := (HB.out.cell (World.block_lt_of_cell? w _ hx150_0)).trans hx150_0
                          have HR150_0 := Aside0.mk hi150_0
                          have HC150_0 := Aside0.mk hl150_0
                          clear hi150_0 hl150_0
                          replace p150 := eq_true p150
                          replace q150 := eq_true q150
                          go_wp2
                          go_roundg k4
                          case measure => have := HJ3.out; have := HK2.out; have := HK3.out; have := HK4.out; omega
                          case rel => exact ⟨(x8_4), (wrap64 (x10_3 + 1)), (by first | rfl | (simp; done) | (simp [*]; done)), H', ⟨by have := HJ3.out; have := HK2.out; have := HK3.out; have := HK4.out; omega⟩, ⟨by (with_reducible repeat (first | apply Kd.S_alloc | apply Kd.S_drewN | apply Kd.S_drew)); exact HO_7.out⟩, ⟨by (with_reducible repeat (first | apply Kd.R_alloc | apply Kd.R_drewN | apply Kd.R_drew)); exact HO_8.out⟩, ⟨by repeat (first | (with_reducible first | exact HB.out | apply below_alloc | apply pw_below_drewN | apply below_drew1) | exact HB.out)⟩⟩
                  · rw [if_neg c20] at H
                    have c20b0 : decide (x10_3 < (l0.length : Int)) = false := decide_eq_false c20
                    clear c20
                    obtain ⟨y154, hy154⟩ : ∃ y_ : List (S56), y_ = (([] : List (S56))) := ⟨_, rfl⟩
                    replace H : (if 0 ≤ (l0.length : Int) then (if ((l0.length : Int) : Int).toNat ≤ 35184372088832 then (spec_Ends.l3 k3 l0 l1 y138 x8_3 y154 (List.replicate ((l0.length : Int) : Int).toNat 0) (List.replicate ((l0.length : Int) : Int).toNat 0) 0) else (none)) else (none)) = some r := by first | (rw [hy154]; with_reducible exact H) | (have H2_ := (Option.bind_some _ _).symm.trans H; rw [hy154]; with_reducible exact H2_) | (have H2_ := (Option.bind_some _ _).symm.trans H; with_reducible exact H2_) | with_reducible exact H | (rw [hy154]; exact H) | exact H
                    have Ny154 := Aside0.mk hy154
                    clear hy154
                    by_cases c26 : 0 ≤ (l0.length : Int)
                    case neg => rw [if_neg c26] at H; exact absurd H (by simp)
                    rw [if_pos c26] at H
                    have c26b0 := eq_true c26
                    have c26b1 : decide (0 ≤ (l0.length : Int)) = true := decide_eq_true c26
                    clear c26
                    by_cases c27 : ((l0.length : Int) : Int).toNat ≤ 35184372088832
                    case neg => rw [if_neg c27] at H; exact absurd H (by simp)
                    rw [if_pos c27] at H
                    have c27b0 := eq_true c27
                    have c27b1 : decide (((l0.length : Int) : Int).toNat ≤ 35184372088832) = true := decide_eq_true c27
                    clear c27
                    obtain ⟨y157, hy157⟩ : ∃ y_ : List Int, y_ = (List.replicate ((l0.length : Int) : Int).toNat 0) := ⟨_, rfl⟩
                    replace H : (spec_Ends.l3 k3 l0 l1 y138 x8_3 y154 y157 (List.replicate ((l0.length : Int) : Int).toNat 0) 0) = some r := by first | (rw [hy157]; with_reducible exact H) | (have H2_ := (Option.bind_some _ _).symm.trans H; rw [hy157]; with_reducible exact H2_) | (have H2_ := (Option.bind_some _ _).symm.trans H; with_reducible exact H2_) | with_reducible exact H | (rw [hy157]; exact H) | exact H
                    have Ny157 := Aside0.mk hy157
                    clear hy157
                    obtain ⟨y160, hy160⟩ : ∃ y_ : List Int, y_ = (List.replicate ((l0.length : Int) : Int).toNat 0) := ⟨_, rfl⟩
                    replace H : (spec_Ends.l3 k3 l0 l1 y138 x8_3 y154 y157 y160 0) = some r := by first | (rw [hy160]; with_reducible exact H) | (have H2_ := (Option.bind_some _ _).symm.trans H; rw [hy160]; with_reducible exact H2_) | (have H2_ := (Option.bind_some _ _).symm.trans H; with_reducible exact H2_) | with_reducible exact H | (rw [hy160]; exact H) | exact H
                    have Ny160 := Aside0.mk hy160
                    clear hy160
                    have H' := Aside0.mk H
                    clear H
                    go_wp2_with (first | ((with_reducible refine gate_dst (N := 69) rfl ?_); (try (refine gate_guard (by rfl) ?_; dsimp only)); refine Kd.S_lit k56 _ 56 ?hg (N := 69) ?hd (xs := ([] : List (S56))) (inner := []) (ok := fun _ => True) (okp := fun _ => True) ?hr ?hp (fun _ hk => hk) trivial (Below.refl _ _) (Nat.le_refl _) (by simp) ?_; (case hd => rfl); (case hg => rfl); (case hr => first | (go_simp; done) | (go_simp; rfl)); (case hp => exact (Reps.none _ _)); intro v155 w28 ho29 hb hg_ hnew_; clear hg_ hnew_; (first | rw [← Ny154.out] at ho29 | (simp only [Int.reduceToNat] at ho29; rw [← Ny154.out] at ho29)); have n0_ := Aside0.mk (Kd.S_elder' (by (with_reducible repeat (first | apply Kd.S_alloc | apply Kd.S_drewN | apply Kd.S_drew)); exact HO_7.out) (Kd.S_base ho29) hb); have n1_ := Aside0.mk (Kd.R_below (by (with_reducible repeat (first | apply Kd.R_alloc | apply Kd.R_drewN | apply Kd.R_drew)); exact HO_8.out) hb); have n2_ := Aside0.mk (Kd.S_lower (Kd.S_new' (Kd.S_new' ho29 (Kd.S_lt (by (with_reducible repeat (first | apply Kd.S_alloc | apply Kd.S_drewN | apply Kd.S_drew)); exact HO_7.out))) (Kd.R_lt (by (with_reducible repeat (first | apply Kd.R_alloc | apply Kd.R_drewN | apply Kd.R_drew)); exact HO_8.out))) (below_size (by repeat (first | (with_reducible first | exact HB.out | apply below_alloc | apply pw_below_drewN | apply below_drew1) | exact HB.out)))); have n3_ := Aside0.mk (below_step (by repeat (first | (with_reducible first | exact HB.out | apply below_alloc | apply pw_below_drewN | apply below_drew1) | exact HB.out)) hb); clear HO_7; clear HO_8; clear HB; have HO_7 := n0_; have HO_8 := n1_; have HO156 := n2_; have HB := n3_; clear n0_ n1_ n2_ n3_; clear hb ho29) | ((with_reducible refine gate_dst (N := 72) rfl ?_); (try (refine gate_guard (by rfl) ?_; dsimp only)); refine Kd.R_make (Kd.int .i64) _ 3 rfl (N := 72) rfl 24 _ _ rfl (l0.length : Int) rfl rfl Try.underlying24 (.int .i64 0) 8 info3 rfl (by decide) (by omega) 0 (ok := fun _ => True) (okp := fun _ => True) rfl (fun _ hk => hk) trivial (of_decide_eq_true (by first | (with_reducible assumption) | assumption)) (Nat.le_trans (Nat.mul_le_mul_right _ (of_decide_eq_true (by first | (with_reducible assumption) | assumption) : (l0.length : Int).toNat ≤ 35184372088832)) (by omega)) (Below.refl _ _) (Nat.le_refl _) ?_; intro v158 w30 ho31 hb hg_ hnew_; clear hg_ hnew_; (first | rw [← Ny157.out] at ho31 | (simp only [Int.reduceToNat] at ho31; rw [← Ny157.out] at ho31)); have n0_ := Aside0.mk (Kd.S_elder' (by (with_reducible repeat (first | apply Kd.S_alloc | apply Kd.S_drewN | apply Kd.S_drew)); exact HO_7.out) (Kd.R_base ho31) hb); have n1_ := Aside0.mk (Kd.R_elder' (by (with_reducible repeat (first | apply Kd.R_alloc | apply Kd.R_drewN | apply Kd.R_drew)); exact HO_8.out) (Kd.R_base ho31) hb); have n2_ := Aside0.mk (Kd.S_elder' (by (with_reducible repeat (first | apply Kd.S_alloc | apply Kd.S_drewN | apply Kd.S_drew)); exact HO156.out) (Kd.R_base ho31) hb); have n3_ := Aside0.mk (Kd.R_lower (Kd.R_new' ho31 (Kd.R_lt (by (with_reducible repeat (first | apply Kd.R_alloc | apply Kd.R_drewN | apply Kd.R_drew)); exact HO_8.out))) (below_size (by repeat (first | (with_reducible first | exact HB.out | apply below_alloc | apply pw_below_drewN | apply below_drew1) | exact HB.out)))); have n4_ := Aside0.mk (below_step (by repeat (first | (with_reducible first | exact HB.out | apply below_alloc | apply pw_below_drewN | apply below_drew1) | exact HB.out)) hb); clear HO_7; clear HO_8; clear HO156; clear HB; have HO_7 := n0_; have HO_8 := n1_; have HO156 := n2_; have HO159 := n3_; have HB := n4_; clear n0_ n1_ n2_ n3_ n4_; clear hb ho31) | ((with_reducible refine gate_dst (N := 75) rfl ?_); (try (refine gate_guard (by rfl) ?_; dsimp only)); refine Kd.R_make (Kd.int .i64) _ 3 rfl (N := 75) rfl 24 _ _ rfl (l0.length : Int) rfl rfl Try.underlying24 (.int .i64 0) 8 info3 rfl (by decide) (by omega) 0 (ok := fun _ => True) (okp := fun _ => True) rfl (fun _ hk => hk) trivial (of_decide_eq_true (by first | (with_reducible assumption) | assumption)) (Nat.le_trans (Nat.mul_le_mul_right _ (of_decide_eq_true (by first | (with_reducible assumption) | assumption) : (l0.length : Int).toNat ≤ 35184372088832)) (by omega)) (Below.refl _ _) (Nat.le_refl _) ?_; intro v161 w32 ho33 hb hg_ hnew_; clear hg_ hnew_; (first | rw [← Ny160.out] at ho33 | (simp only [Int.reduceToNat] at ho33; rw [← Ny160.out] at ho33)); have n0_ := Aside0.mk (Kd.S_elder' (by (with_reducible repeat (first | apply Kd.S_alloc | apply Kd.S_drewN | apply Kd.S_drew)); exact HO_7.out) (Kd.R_base ho33) hb); have n1_ := Aside0.mk (Kd.R_elder' (by (with_reducible repeat (first | apply Kd.R_alloc | apply Kd.R_drewN | apply Kd.R_drew)); exact HO_8.out) (Kd.R_base ho33) hb); have n2_ := Aside0.mk (Kd.S_elder' (by (with_reducible repeat (first | apply Kd.S_alloc | apply Kd.S_drewN | apply Kd.S_drew)); exact HO156.out) (Kd.R_base ho33) hb); have n3_ := Aside0.mk (Kd.R_elder' (by (with_reducible repeat (first | apply Kd.R_alloc | apply Kd.R_drewN | apply Kd.R_drew)); exact HO159.out) (Kd.R_base ho33) hb); have n4_ := Aside0.mk (Kd.R_lower (Kd.R_new' (Kd.R_new' ho33 (Kd.R_lt (by (with_reducible repeat (first | apply Kd.R_alloc | apply Kd.R_drewN | apply Kd.R_drew)); exact HO_8.out))) (Kd.R_lt (by (with_reducible repeat (first | apply Kd.R_alloc | apply Kd.R_drewN | apply Kd.R_drew)); exact HO159.out))) (below_size (by repeat (first | (with_reducible first | exact HB.out | apply below_alloc | apply pw_below_drewN | apply below_drew1) | exact HB.out)))); have n5_ := Aside0.mk (below_step (by repeat (first | (with_reducible first | exact HB.out | apply below_alloc | apply pw_below_drewN | apply below_drew1) | exact HB.out)) hb); clear HO_7; clear HO_8; clear HO156; clear HO159; clear HB; have HO_7 := n0_; have HO_8 := n1_; have HO156 := n2_; have HO159 := n3_; have HO162 := n4_; have HB := n5_; clear n0_ n1_ n2_ n3_ n4_ n5_; clear hb ho33))
                    go_loopg [12, 15] k3 (fun kq v12 v15 w' => ∃ (x12_4 : List (S56)) (x13_4 : List Int) (x14_4 : List Int) (x15_4 : Int), v15 = .int .i64 x15_4 ∧ Aside0 (spec_Ends.l3 kq l0 l1 y138 x8_3 x12_4 x13_4 x14_4 x15_4 = some r) ∧ Aside0 (kq ≤ k3) ∧ Aside0 (Kd.S k56 56 w' w.heap.size (fun k_ => some k_ ≠ (u8 : Value).ownBlock ∧ some k_ ≠ (v12 : Value).ownBlock ∧ some k_ ≠ (v158 : Value).ownBlock ∧ some k_ ≠ (v161 : Value).ownBlock) v139 y138) ∧ Aside0 (Kd.R (Kd.int .i64) 3 w' w.heap.size (fun k_ => some k_ ≠ (v158 : Value).ownBlock ∧ some k_ ≠ (v161 : Value).ownBlock) u8 x8_3) ∧ Aside0 (Kd.S k56 56 w' w.heap.size (fun k_ => some k_ ≠ (v139 : Value).ownBlock ∧ some k_ ≠ (u8 : Value).ownBlock ∧ some k_ ≠ (v158 : Value).ownBlock ∧ some k_ ≠ (v161 : Value).ownBlock) v12 x12_4) ∧ Aside0 (Kd.R (Kd.int .i64) 3 w' w.heap.size (fun k_ => some k_ ≠ (u8 : Value).ownBlock ∧ some k_ ≠ (v161 : Value).ownBlock) v158 x13_4) ∧ Aside0 (Kd.R (Kd.int .i64) 3 w' w.heap.size (fun k_ => some k_ ≠ (u8 : Value).ownBlock ∧ some k_ ≠ (v158 : Value).ownBlock) v161 x14_4) ∧ Aside0 (Below w.heap.size w w'))
                    case atStart => exact ⟨(y154), (y157), (y160), (0), (by first | rfl | (simp; done) | (simp [*]; done)), H', ⟨Nat.le_refl _⟩, ⟨by (with_reducible repeat (first | apply Kd.S_alloc | apply Kd.S_drewN | apply Kd.S_drew)); exact Kd.S_mono HO_7.out (fun _ hk => ⟨hk.1.1.1, ⟨hk.1.1.2, ⟨hk.1.2, hk.2⟩⟩⟩)⟩, ⟨by (with_reducible repeat (first | apply Kd.R_alloc | apply Kd.R_drewN | apply Kd.R_drew)); exact Kd.R_mono HO_8.out (fun _ hk => ⟨hk.1.2, hk.2⟩)⟩, ⟨by (with_reducible repeat (first | apply Kd.S_alloc | apply Kd.S_drewN | apply Kd.S_drew)); exact Kd.S_mono HO156.out (fun _ hk => ⟨hk.1.1.1.2, ⟨hk.1.1.2, ⟨hk.1.2, hk.2⟩⟩⟩)⟩, ⟨by (with_reducible repeat (first | apply Kd.R_alloc | apply Kd.R_drewN | apply Kd.R_drew)); exact Kd.R_mono HO159.out (fun _ hk => ⟨hk.1.2, hk.2⟩)⟩, ⟨by (with_reducible repeat (first | apply Kd.R_alloc | apply Kd.R_drewN | apply Kd.R_drew)); exact Kd.R_mono HO162.out (fun _ hk => ⟨hk.1.2, hk.2⟩)⟩, ⟨by repeat (first | (with_reducible first | exact HB.out | apply below_alloc | apply pw_below_drewN | apply below_drew1) | exact HB.out)⟩⟩
                    case round =>
                      clear H'
                      try clear c1
                      try clear p1
                      try clear q1
                      try clear hx1
                      try clear c2
                      try clear p2
                      try clear c6
                      try clear p6
                      try clear c8
                      try clear c11
                      try clear c12
                      try clear p14
                      try clear q14
                      try clear hx14
                      try clear c15
                      try clear p15
                      try clear q15
                      try clear hx15
                      try clear c16
                      try clear c16b0
                      try clear c17
                      try clear c17b0
                      try clear c19
                      try clear c20
                      try clear c20b0
                      try clear c21
                      try clear c21b0
                      try clear c22
                      try clear c22b0
                      try clear c23
                      try clear c23b0
                      try clear c24
                      try clear c26
                      try clear c26b0
                      try clear c26b1
                      try clear c27
                      try clear c27b0
                      try clear c27b1
                      try clear hx148_0
                      try clear hx150_0
                      try clear p1
                      try clear p14
                      try clear p148
                      try clear p150
                      try clear p2
                      try clear p6
                      try clear q1
                      try clear q14
                      try clear q148
                      try clear q150
                      obtain ⟨x12_4, x13_4, x14_4, x15_4, rfl, HA, HK4, HO_7, HO_8, HO_12, HO_13, HO_14, HB⟩ := hrel
                      cases gk with
                      | zero => exact absurd HA.out (by simp [spec_Ends.l3])
                      | succ k4 =>
                        have H := HA.out
                        clear HA
                        simp only [spec_Ends.l3] at H
                        by_cases c34 : x15_4 < (x8_3.length : Int)
                        · rw [if_pos c34] at H
                          have c34b0 : decide (x15_4 < (x8_3.length : Int)) = true := decide_eq_true c34
                          clear c34
                          by_cases c35 : 0 ≤ x15_4
                          case neg => rw [if_neg c35] at H; exact absurd H (by simp)
                          rw [if_pos c35] at H
                          have c35b0 : decide (0 ≤ x15_4) = true := decide_eq_true c35
                          clear c35
                          by_cases c36 : 0 ≤ (rd x8_3 x15_4)
                          case neg => rw [if_neg c36] at H; exact absurd H (by simp)
                          rw [if_pos c36] at H
                          have c36b0 : decide (0 ≤ (rd x8_3 x15_4)) = true := decide_eq_true c36
                          clear c36
                          by_cases c37 : (rd x8_3 x15_4) < (x13_4.length : Int)
                          case neg => rw [if_neg c37] at H; exact absurd H (by simp)
                          rw [if_pos c37] at H
                          have c37b0 : decide ((rd x8_3 x15_4) < (x13_4.length : Int)) = true := decide_eq_true c37
                          clear c37
                          by_cases c38 : (rd x8_3 x15_4) < (l1.length : Int)
                          case neg => rw [if_neg c38] at H; exact absurd H (by simp)
                          rw [if_pos c38] at H
                          have c38b0 : decide ((rd x8_3 x15_4) < (l1.length : Int)) = true := decide_eq_true c38
                          clear c38
                          by_cases c39 : (rd x13_4 (rd x8_3 x15_4)) ≥ ((rd_L10 l1 (rd x8_3 x15_4)).length : Int)
                          · rw [if_pos c39] at H
                            have c39b0 : decide (((rd_L10 l1 (rd x8_3 x15_4)).length : Int) ≤ (rd x13_4 (rd x8_3 x15_4))) = true := decide_eq_true c39
                            clear c39
                            have H' := Aside0.mk H
                            clear H
                            obtain ⟨Ao40, co40, eo40⟩ := Kd.R_slice HO_8.out
                            subst eo40
                            have p163 : 0 ≤ (x15_4 : Int) := of_decide_eq_true (by first | (with_reducible assumption) | assumption)
                            have q163 : x15_4 < (x8_3.length : Int) := of_decide_eq_true (by first | (with_reducible assumption) | assumption)
                            obtain ⟨ad163, e163, hx163_0⟩ := Kd.at_int (Kd.R_reads' HO_8.out).2.2 x15_4 p163 q163
                            cases e163
                            replace p163 := eq_true p163
                            replace q163 := eq_true q163
                            try go_wp2
                            have n0_ := Aside0.mk (Kd.S_drew HO_7.out)
                            have n1_ := Aside0.mk (Kd.R_drew HO_8.out)
                            have n2_ := Aside0.mk (Kd.S_drew HO_12.out)
                            have n3_ := Aside0.mk (Kd.R_drew HO_13.out)
                            have n4_ := Aside0.mk (Kd.R_drew HO_14.out)
                            have n5_ := Aside0.mk (below_drew1 HB.out)
                            clear HO_7
                            clear HO_8
                            clear HO_12
                            clear HO_13
                            clear HO_14
                            clear HB
                            have HO_7 := n0_
                            have HO_8 := n1_
                            have HO_12 := n2_
                            have HO_13 := n3_
                            have HO_14 := n4_
                            have HB := n5_
                            clear n0_ n1_ n2_ n3_ n4_ n5_
                            obtain ⟨Ao42, co42, eo42⟩ := Kd.R_slice HO_13.out
                            (first | subst eo42 | (injection eo42 with f1_ f2_ f3_; have f4_ := f1_.symm; have f5_ := f3_.symm; clear f1_ f2_ f3_; subst f4_; subst f5_))
                            have p164 : 0 ≤ ((rd x8_3 x15_4) : Int) := of_decide_eq_true (by first | (with_reducible assumption) | assumption)
                            have q164 : (rd x8_3 x15_4) < (x13_4.length : Int) := of_decide_eq_true (by first | (with_reducible assumption) | assumption)
                            obtain ⟨ad164, e164, hx164_0⟩ := Kd.at_int (Kd.R_reads' HO_13.out).2.2 (rd x8_3 x15_4) p164 q164
                            cases e164
                            replace p164 := eq_true p164
                            replace q164 := eq_true q164
                            have p165 : 0 ≤ ((rd x8_3 x15_4) : Int) := of_decide_eq_true (by first | (with_reducible assumption) | assumption)
                            have q165 : (rd x8_3 x15_4) < (l1.length : Int) := of_decide_eq_true (by first | (with_reducible assumption) | assumption)
                            obtain ⟨ad165, A165_0, c165_0, e165, hx165_0, hl165_0, hi165_0⟩ := at_L10 HR1.out (rd x8_3 x15_4) p165 q165
                            have hw165_0 := hx165_0
                            cases e165
                            replace hx165_0 := (HB.out.cell (World.block_lt_of_cell? w _ hx165_0)).trans hx165_0
                            have HR165_0 := Aside0.mk hi165_0
                            have HC165_0 := Aside0.mk hl165_0
                            clear hi165_0 hl165_0
                            replace p165 := eq_true p165
                            replace q165 := eq_true q165
                            refine start_ (n := 10) (S := fun w' => w'.cell? (ad164.add ((rd x8_3 x15_4)).toNat) = some (.int .i64 (rd x13_4 (rd x8_3 x15_4))) ∧ w'.cell? (ad165.add ((rd x8_3 x15_4)).toNat) = some (.slice A165_0 (rd_L10 l1 (rd x8_3 x15_4)).length c165_0)) (ds := []) #[false, false, false, false, false, false, false, false, false, false] (by kernel_rfl) rfl rfl ⟨hx164_0, ((HB.out.cell (World.block_lt_of_cell? w _ hw165_0)).trans hw165_0)⟩ (fun hHeld => ?_); refine with_tabW spec_Ends.tab24 spec_Ends.bits24 (fun HT_ HW_ => ?_)
                            generalize wr.drew = w41 at HO_7 HO_8 HO_12 HO_13 HO_14 HB HR165_0 hx164_0 hx165_0 hHeld ⊢
                            refine pure_ (i := 0) (N := some 86) (v := ?_) (a' := ?_) #[true, false, false, false, false, false, false, false, false, false] rfl rfl (any_of HT_.out (by kernel_rfl)) (fun _ _ _ h => h) (Or.inl ⟨by rfl, ?_⟩) ?_ ?_
                            rotate_left
                            · intro w'
                              go_simp
                              with_reducible rfl
                            rotate_left
                            · simp only [Act.put, sT_, s0_, sS_, i64_w, i32_w]
                              rfl
                            refine pure_ (i := 1) (N := some 87) (v := ?_) (a' := ?_) #[true, true, false, false, false, false, false, false, false, false] rfl rfl (any_of HT_.out (by kernel_rfl)) (fun _ _ _ h => h) (Or.inl ⟨by rfl, ?_⟩) ?_ ?_
                            rotate_left
                            · intro w'
                              go_simp
                              with_reducible rfl
                            rotate_left
                            · simp only [Act.put, sT_, s0_, sS_, i64_w, i32_w]
                              rfl
                            refine pure_ (i := 2) (N := some 88) (v := ?_) (a' := ?_) #[true, true, true, false, false, false, false, false, false, false] rfl rfl (any_of HT_.out (by kernel_rfl)) (fun _ _ _ h => h) (Or.inl ⟨by rfl, ?_⟩) ?_ ?_
                            rotate_left
                            · intro w'
                              go_simp
                              with_reducible rfl
                            rotate_left
                            · simp only [Act.put, sT_, s0_, sS_, i64_w, i32_w]
                              rfl
                            refine pure_ (i := 4) (N := some 90) (v := ?_) (a' := ?_) #[true, true, true, false, true, false, false, false, false, false] rfl rfl (any_of HT_.out (by kernel_rfl)) (fun _ _ _ h => h) (Or.inl ⟨by rfl, ?_⟩) ?_ ?_
                            rotate_left
                            · intro w'
                              go_simp
                              with_reducible rfl
                            rotate_left
                            · simp only [Act.put, sT_, s0_, sS_, i64_w, i32_w]
                              rfl
                            refine pure_ (i := 5) (N := some 91) (v := ?_) (a' := ?_) #[true, true, true, false, true, true, false, false, false, false] rfl rfl (any_of HT_.out (by kernel_rfl)) (fun _ _ _ h => h) (Or.inl ⟨by rfl, ?_⟩) ?_ ?_
                            rotate_left
                            · intro w'
                              go_simp
                              with_reducible rfl
                            rotate_left
                            · simp only [Act.put, sT_, s0_, sS_, i64_w, i32_w]
                              rfl
                            refine pure_ (i := 6) (N := some 92) (v := ?_) (a' := ?_) #[true, true, true, false, true, true, true, false, false, false] rfl rfl (any_of HT_.out (by kernel_rfl)) (fun _ _ _ h => h) (Or.inl ⟨by rfl, ?_⟩) ?_ ?_
                            rotate_left
                            · intro w'
                              go_simp
                              with_reducible rfl
                            rotate_left
                            · simp only [Act.put, sT_, s0_, sS_, i64_w, i32_w]
                              rfl
                            refine take_ (i := 3) (N := some 89) (v := ?_) (a' := ?_) #[true, true, true, true, true, true, true, false, false, false] rfl rfl (take_ofW HT_.out HW_.out (by kernel_rfl)) (fun _ _ _ h => h) (Or.inl ⟨by rfl, ?_⟩) hHeld ?_ ?_
                            rotate_left
                            · rintro w' ⟨s0, s1⟩
                              go_simp
                              with_reducible rfl
                            rotate_left
                            · simp only [Act.put, sT_, s0_, sS_, i64_w, i32_w]
                              rfl
                            refine take_ (i := 7) (N := some 93) (v := ?_) (a' := ?_) #[true, true, true, true, true, true, true, true, false, false] rfl rfl (take_ofW HT_.out HW_.out (by kernel_rfl)) (fun _ _ _ h => h) (Or.inl ⟨by rfl, ?_⟩) hHeld ?_ ?_
                            rotate_left
                            · rintro w' ⟨s0, s1⟩
                              go_simp
                              with_reducible rfl
                            rotate_left
                            · simp only [Act.put, sT_, s0_, sS_, i64_w, i32_w]
                              rfl
                            refine pure_ (i := 8) (N := some 94) (v := ?_) (a' := ?_) #[true, true, true, true, true, true, true, true, true, false] rfl rfl (any_of HT_.out (by kernel_rfl)) (fun _ _ _ h => h) (Or.inl ⟨by rfl, ?_⟩) ?_ ?_
                            rotate_left
                            · intro w'
                              go_simp
                              with_reducible rfl
                            rotate_left
                            · simp only [Act.put, sT_, s0_, sS_, i64_w, i32_w]
                              rfl
                            refine pure_ (i := 9) (N := some 95) (v := ?_) (a' := ?_) #[true, true, true, true, true, true, true, true, true, true] rfl rfl (any_of HT_.out (by kernel_rfl)) (fun _ _ _ h => h) (Or.inl ⟨by rfl, ?_⟩) ?_ ?_
                            rotate_left
                            · intro w'
                              go_simp
                              with_reducible rfl
                            rotate_left
                            · simp only [Act.put, sT_, s0_, sS_, i64_w, i32_w]
                              rfl
                            refine done_ (done_of HT_.out (by kernel_rfl)) ?_
                            try go_wp2
                            go_roundg k4
                            case measure => have := HJ3.out; have := HK2.out; have := HK3.out; have := HK4.out; omega
                            case rel => exact ⟨(x12_4), (x13_4), (x14_4), (wrap64 (x15_4 + 1)), (by first | rfl | (simp; done) | (simp [*]; done)), H', ⟨by have := HJ3.out; have := HK2.out; have := HK3.out; have := HK4.out; omega⟩, ⟨by (with_reducible repeat (first | apply Kd.S_alloc | apply Kd.S_drewN | apply Kd.S_drew)); exact HO_7.out⟩, ⟨by (with_reducible repeat (first | apply Kd.R_alloc | apply Kd.R_drewN | apply Kd.R_drew)); exact HO_8.out⟩, ⟨by (with_reducible repeat (first | apply Kd.S_alloc | apply Kd.S_drewN | apply Kd.S_drew)); exact HO_12.out⟩, ⟨by (with_reducible repeat (first | apply Kd.R_alloc | apply Kd.R_drewN | apply Kd.R_drew)); exact HO_13.out⟩, ⟨by (with_reducible repeat (first | apply Kd.R_alloc | apply Kd.R_drewN | apply Kd.R_drew)); exact HO_14.out⟩, ⟨by repeat (first | (with_reducible first | exact HB.out | apply below_alloc | apply pw_below_drewN | apply below_drew1) | exact HB.out)⟩⟩
                          · rw [if_neg c39] at H
                            have c39b0 : decide (((rd_L10 l1 (rd x8_3 x15_4)).length : Int) ≤ (rd x13_4 (rd x8_3 x15_4))) = false := decide_eq_false c39
                            clear c39
                            have H' := Aside0.mk H
                            clear H
                            obtain ⟨Ao43, co43, eo43⟩ := Kd.R_slice HO_8.out
                            subst eo43
                            have p163 : 0 ≤ (x15_4 : Int) := of_decide_eq_true (by first | (with_reducible assumption) | assumption)
                            have q163 : x15_4 < (x8_3.length : Int) := of_decide_eq_true (by first | (with_reducible assumption) | assumption)
                            obtain ⟨ad163, e163, hx163_0⟩ := Kd.at_int (Kd.R_reads' HO_8.out).2.2 x15_4 p163 q163
                            cases e163
                            replace p163 := eq_true p163
                            replace q163 := eq_true q163
                            try go_wp2
                            have n0_ := Aside0.mk (Kd.S_drew HO_7.out)
                            have n1_ := Aside0.mk (Kd.R_drew HO_8.out)
                            have n2_ := Aside0.mk (Kd.S_drew HO_12.out)
                            have n3_ := Aside0.mk (Kd.R_drew HO_13.out)
                            have n4_ := Aside0.mk (Kd.R_drew HO_14.out)
                            have n5_ := Aside0.mk (below_drew1 HB.out)
                            clear HO_7
                            clear HO_8
                            clear HO_12
                            clear HO_13
                            clear HO_14
                            clear HB
                            have HO_7 := n0_
                            have HO_8 := n1_
                            have HO_12 := n2_
                            have HO_13 := n3_
                            have HO_14 := n4_
                            have HB := n5_
                            clear n0_ n1_ n2_ n3_ n4_ n5_
                            obtain ⟨Ao45, co45, eo45⟩ := Kd.R_slice HO_13.out
                            (first | subst eo45 | (injection eo45 with f1_ f2_ f3_; have f4_ := f1_.symm; have f5_ := f3_.symm; clear f1_ f2_ f3_; subst f4_; subst f5_))
                            have p164 : 0 ≤ ((rd x8_3 x15_4) : Int) := of_decide_eq_true (by first | (with_reducible assumption) | assumption)
                            have q164 : (rd x8_3 x15_4) < (x13_4.length : Int) := of_decide_eq_true (by first | (with_reducible assumption) | assumption)
                            obtain ⟨ad164, e164, hx164_0⟩ := Kd.at_int (Kd.R_reads' HO_13.out).2.2 (rd x8_3 x15_4) p164 q164
                            cases e164
                            replace p164 := eq_true p164
                            replace q164 := eq_true q164
                            have p165 : 0 ≤ ((rd x8_3 x15_4) : Int) := of_decide_eq_true (by first | (with_reducible assumption) | assumption)
                            have q165 : (rd x8_3 x15_4) < (l1.length : Int) := of_decide_eq_true (by first | (with_reducible assumption) | assumption)
                            obtain ⟨ad165, A165_0, c165_0, e165, hx165_0, hl165_0, hi165_0⟩ := at_L10 HR1.out (rd x8_3 x15_4) p165 q165
                            have hw165_0 := hx165_0
                            cases e165
                            replace hx165_0 := (HB.out.cell (World.block_lt_of_cell? w _ hx165_0)).trans hx165_0
                            have HR165_0 := Aside0.mk hi165_0
                            have HC165_0 := Aside0.mk hl165_0
                            clear hi165_0 hl165_0
                            replace p165 := eq_true p165
                            replace q165 := eq_true q165
                            refine start_ (n := 10) (S := fun w' => w'.cell? (ad164.add ((rd x8_3 x15_4)).toNat) = some (.int .i64 (rd x13_4 (rd x8_3 x15_4))) ∧ w'.cell? (ad165.add ((rd x8_3 x15_4)).toNat) = some (.slice A165_0 (rd_L10 l1 (rd x8_3 x15_4)).length c165_0)) (ds := []) #[false, false, false, false, false, false, false, false, false, false] (by kernel_rfl) rfl rfl ⟨hx164_0, ((HB.out.cell (World.block_lt_of_cell? w _ hw165_0)).trans hw165_0)⟩ (fun hHeld => ?_); refine with_tabW spec_Ends.tab24 spec_Ends.bits24 (fun HT_ HW_ => ?_)
                            generalize wr.drew = w44 at HO_7 HO_8 HO_12 HO_13 HO_14 HB HR165_0 hx164_0 hx165_0 hHeld ⊢
                            refine pure_ (i := 0) (N := some 86) (v := ?_) (a' := ?_) #[true, false, false, false, false, false, false, false, false, false] rfl rfl (any_of HT_.out (by kernel_rfl)) (fun _ _ _ h => h) (Or.inl ⟨by rfl, ?_⟩) ?_ ?_
                            rotate_left
                            · intro w'
                              go_simp
                              with_reducible rfl
                            rotate_left
                            · simp only [Act.put, sT_, s0_, sS_, i64_w, i32_w]
                              rfl
                            refine pure_ (i := 1) (N := some 87) (v := ?_) (a' := ?_) #[true, true, false, false, false, false, false, false, false, false] rfl rfl (any_of HT_.out (by kernel_rfl)) (fun _ _ _ h => h) (Or.inl ⟨by rfl, ?_⟩) ?_ ?_
                            rotate_left
                            · intro w'
                              go_simp
                              with_reducible rfl
                            rotate_left
                            · simp only [Act.put, sT_, s0_, sS_, i64_w, i32_w]
                              rfl
                            refine pure_ (i := 2) (N := some 88) (v := ?_) (a' := ?_) #[true, true, true, false, false, false, false, false, false, false] rfl rfl (any_of HT_.out (by kernel_rfl)) (fun _ _ _ h => h) (Or.inl ⟨by rfl, ?_⟩) ?_ ?_
                            rotate_left
                            · intro w'
                              go_simp
                              with_reducible rfl
                            rotate_left
                            · simp only [Act.put, sT_, s0_, sS_, i64_w, i32_w]
                              rfl
                            refine pure_ (i := 4) (N := some 90) (v := ?_) (a' := ?_) #[true, true, true, false, true, false, false, false, false, false] rfl rfl (any_of HT_.out (by kernel_rfl)) (fun _ _ _ h => h) (Or.inl ⟨by rfl, ?_⟩) ?_ ?_
                            rotate_left
                            · intro w'
                              go_simp
                              with_reducible rfl
                            rotate_left
                            · simp only [Act.put, sT_, s0_, sS_, i64_w, i32_w]
                              rfl
                            refine pure_ (i := 5) (N := some 91) (v := ?_) (a' := ?_) #[true, true, true, false, true, true, false, false, false, false] rfl rfl (any_of HT_.out (by kernel_rfl)) (fun _ _ _ h => h) (Or.inl ⟨by rfl, ?_⟩) ?_ ?_
                            rotate_left
                            · intro w'
                              go_simp
                              with_reducible rfl
                            rotate_left
                            · simp only [Act.put, sT_, s0_, sS_, i64_w, i32_w]
                              rfl
                            refine pure_ (i := 6) (N := some 92) (v := ?_) (a' := ?_) #[true, true, true, false, true, true, true, false, false, false] rfl rfl (any_of HT_.out (by kernel_rfl)) (fun _ _ _ h => h) (Or.inl ⟨by rfl, ?_⟩) ?_ ?_
                            rotate_left
                            · intro w'
                              go_simp
                              with_reducible rfl
                            rotate_left
                            · simp only [Act.put, sT_, s0_, sS_, i64_w, i32_w]
                              rfl
                            refine take_ (i := 3) (N := some 89) (v := ?_) (a' := ?_) #[true, true, true, true, true, true, true, false, false, false] rfl rfl (take_ofW HT_.out HW_.out (by kernel_rfl)) (fun _ _ _ h => h) (Or.inl ⟨by rfl, ?_⟩) hHeld ?_ ?_
                            rotate_left
                            · rintro w' ⟨s0, s1⟩
                              go_simp
                              with_reducible rfl
                            rotate_left
                            · simp only [Act.put, sT_, s0_, sS_, i64_w, i32_w]
                              rfl
                            refine take_ (i := 7) (N := some 93) (v := ?_) (a' := ?_) #[true, true, true, true, true, true, true, true, false, false] rfl rfl (take_ofW HT_.out HW_.out (by kernel_rfl)) (fun _ _ _ h => h) (Or.inl ⟨by rfl, ?_⟩) hHeld ?_ ?_
                            rotate_left
                            · rintro w' ⟨s0, s1⟩
                              go_simp
                              with_reducible rfl
                            rotate_left
                            · simp only [Act.put, sT_, s0_, sS_, i64_w, i32_w]
                              rfl
                            refine pure_ (i := 8) (N := some 94) (v := ?_) (a' := ?_) #[true, true, true, true, true, true, true, true, true, false] rfl rfl (any_of HT_.out (by kernel_rfl)) (fun _ _ _ h => h) (Or.inl ⟨by rfl, ?_⟩) ?_ ?_
                            rotate_left
                            · intro w'
                              go_simp
                              with_reducible rfl
                            rotate_left
                            · simp only [Act.put, sT_, s0_, sS_, i64_w, i32_w]
                              rfl
                            refine pure_ (i := 9) (N := some 95) (v := ?_) (a' := ?_) #[true, true, true, true, true, true, true, true, true, true] rfl rfl (any_of HT_.out (by kernel_rfl)) (fun _ _ _ h => h) (Or.inl ⟨by rfl, ?_⟩) ?_ ?_
                            rotate_left
                            · intro w'
                              go_simp
                              with_reducible rfl
                            rotate_left
                            · simp only [Act.put, sT_, s0_, sS_, i64_w, i32_w]
                              rfl
                            refine done_ (done_of HT_.out (by kernel_rfl)) ?_
                            have p166 : 0 ≤ ((rd x8_3 x15_4) : Int) := of_decide_eq_true (by first | (with_reducible assumption) | assumption)
                            have q166 : (rd x8_3 x15_4) < (x13_4.length : Int) := of_decide_eq_true (by first | (with_reducible assumption) | assumption)
                            obtain ⟨ad166, e166, hx166_0⟩ := Kd.at_int (Kd.R_reads' HO_13.out).2.2 (rd x8_3 x15_4) p166 q166
                            obtain rfl : ad164 = ad166 := (by injection e166)
                            replace p166 := eq_true p166
                            replace q166 := eq_true q166
                            try go_wp2
                            go_loopg [17, 18] k4 (fun kq v17 v18 w' => ∃ (x17_5 : Int) (x18_5 : Int), v17 = .int .i64 x17_5 ∧ v18 = .int .i64 x18_5 ∧ Aside0 (spec_Ends.l4 kq l0 l1 y138 x8_3 x12_4 x13_4 x14_4 x15_4 (rd x8_3 x15_4) x17_5 x18_5 = some r) ∧ Aside0 (kq ≤ k4) ∧ Aside0 (Kd.S k56 56 w' w.heap.size (fun k_ => some k_ ≠ ((.slice (some ad163) x8_3.length co43) : Value).ownBlock ∧ some k_ ≠ (u12 : Value).ownBlock ∧ some k_ ≠ ((.slice (some ad164) x13_4.length co45) : Value).ownBlock ∧ some k_ ≠ (v161 : Value).ownBlock) v139 y138) ∧ Aside0 (Kd.R (Kd.int .i64) 3 w' w.heap.size (fun k_ => some k_ ≠ ((.slice (some ad164) x13_4.length co45) : Value).ownBlock ∧ some k_ ≠ (v161 : Value).ownBlock) (.slice (some ad163) x8_3.length co43) x8_3) ∧ Aside0 (Kd.S k56 56 w' w.heap.size (fun k_ => some k_ ≠ (v139 : Value).ownBlock ∧ some k_ ≠ ((.slice (some ad163) x8_3.length co43) : Value).ownBlock ∧ some k_ ≠ ((.slice (some ad164) x13_4.length co45) : Value).ownBlock ∧ some k_ ≠ (v161 : Value).ownBlock) u12 x12_4) ∧ Aside0 (Kd.R (Kd.int .i64) 3 w' w.heap.size (fun k_ => some k_ ≠ ((.slice (some ad163) x8_3.length co43) : Value).ownBlock ∧ some k_ ≠ (v161 : Value).ownBlock) (.slice (some ad164) x13_4.length co45) x13_4) ∧ Aside0 (Kd.R (Kd.int .i64) 3 w' w.heap.size (fun k_ => some k_ ≠ ((.slice (some ad163) x8_3.length co43) : Value).ownBlock ∧ some k_ ≠ ((.slice (some ad164) x13_4.length co45) : Value).ownBlock) v161 x14_4) ∧ Aside0 (Below w.heap.size w w'))
                            case atStart => exact ⟨(1000000000000), (rd x13_4 (rd x8_3 x15_4)), (by first | rfl | (simp; done) | (simp [*]; done)), (by first | rfl | (simp; done) | (simp [*]; done)), H', ⟨Nat.le_refl _⟩, ⟨by (with_reducible repeat (first | apply Kd.S_alloc | apply Kd.S_drewN | apply Kd.S_drew)); exact HO_7.out⟩, ⟨by (with_reducible repeat (first | apply Kd.R_alloc | apply Kd.R_drewN | apply Kd.R_drew)); exact HO_8.out⟩, ⟨by (with_reducible repeat (first | apply Kd.S_alloc | apply Kd.S_drewN | apply Kd.S_drew)); exact HO_12.out⟩, ⟨by (with_reducible repeat (first | apply Kd.R_alloc | apply Kd.R_drewN | apply Kd.R_drew)); exact HO_13.out⟩, ⟨by (with_reducible repeat (first | apply Kd.R_alloc | apply Kd.R_drewN | apply Kd.R_drew)); exact HO_14.out⟩, ⟨by repeat (first | (with_reducible first | exact HB.out | apply below_alloc | apply pw_below_drewN | apply below_drew1) | exact HB.out)⟩⟩
                            case round =>
                              clear H'
                              try clear c1
                              try clear p1
                              try clear q1
                              try clear hx1
                              try clear c2
                              try clear p2
                              try clear c3
                              try clear c6
                              try clear p6
                              try clear c8
                              try clear c11
                              try clear c12
                              try clear p14
                              try clear q14
                              try clear hx14
                              try clear c15
                              try clear p15
                              try clear q15
                              try clear hx15
                              try clear c16
                              try clear c16b0
                              try clear p16
                              try clear q16
                              try clear hx16
                              try clear c17
                              try clear c17b0
                              try clear c19
                              try clear c20
                              try clear c20b0
                              try clear c21
                              try clear c21b0
                              try clear c22
                              try clear c22b0
                              try clear c23
                              try clear c23b0
                              try clear c24
                              try clear c26
                              try clear c26b0
                              try clear c26b1
                              try clear c27
                              try clear c27b0
                              try clear c27b1
                              try clear c34
                              try clear c34b0
                              try clear c35
                              try clear c35b0
                              try clear c36
                              try clear c36b0
                              try clear c37
                              try clear c37b0
                              try clear c38
                              try clear c38b0
                              try clear c39
                              try clear c39b0
                              try clear hx148_0
                              try clear hx150_0
                              try clear hx163_0
                              try clear hx164_0
                              try clear hx165_0
                              try clear hx166_0
                              try clear p1
                              try clear p14
                              try clear p148
                              try clear p15
                              try clear p150
                              try clear p163
                              try clear p164
                              try clear p165
                              try clear p166
                              try clear p2
                              try clear p6
                              try clear q1
                              try clear q14
                              try clear q148
                              try clear q15
                              try clear q150
                              try clear q163
                              try clear q164
                              try clear q165
                              try clear q166
                              obtain ⟨x17_5, x18_5, rfl, rfl, HA, HK5, HO_7, HO_8, HO_12, HO_13, HO_14, HB⟩ := hrel
                              cases gk with
                              | zero => exact absurd HA.out (by simp [spec_Ends.l4])
                              | succ k5 =>
                                have H := HA.out
                                clear HA
                                simp only [spec_Ends.l4] at H
                                by_cases c46 : 0 ≤ (rd x8_3 x15_4)
                                case neg => rw [if_neg c46] at H; exact absurd H (by simp)
                                rw [if_pos c46] at H
                                have c46b0 : decide (0 ≤ (rd x8_3 x15_4)) = true := decide_eq_true c46
                                clear c46
                                by_cases c47 : (rd x8_3 x15_4) < (l1.length : Int)
                                case neg => rw [if_neg c47] at H; exact absurd H (by simp)
                                rw [if_pos c47] at H
                                have c47b0 : decide ((rd x8_3 x15_4) < (l1.length : Int)) = true := decide_eq_true c47
                                clear c47
                                by_cases c48 : x18_5 < ((rd_L10 l1 (rd x8_3 x15_4)).length : Int)
                                · rw [if_pos c48] at H
                                  have c48b0 : decide (x18_5 < ((rd_L10 l1 (rd x8_3 x15_4)).length : Int)) = true := decide_eq_true c48
                                  clear c48
                                  by_cases c49 : 0 ≤ x18_5
                                  case neg => rw [if_neg c49] at H; exact absurd H (by simp)
                                  rw [if_pos c49] at H
                                  have c49b0 : decide (0 ≤ x18_5) = true := decide_eq_true c49
                                  clear c49
                                  replace H := Option.bind_eq_some_iff.mp H
                                  obtain ⟨t170, A500, H⟩ := H
                                  replace H : (spec_Ends.l4 k5 l0 l1 y138 x8_3 x12_4 x13_4 x14_4 x15_4 (rd x8_3 x15_4) t170 (wrap64 (x18_5 + 1))) = some r := H
                                  have A50 := Aside0.mk A500
                                  clear A500
                                  have H' := Aside0.mk H
                                  clear H
                                  have p167 : 0 ≤ ((rd x8_3 x15_4) : Int) := of_decide_eq_true (by first | (with_reducible assumption) | assumption)
                                  have q167 : (rd x8_3 x15_4) < (l1.length : Int) := of_decide_eq_true (by first | (with_reducible assumption) | assumption)
                                  obtain ⟨ad167, A167_0, c167_0, e167, hx167_0, hl167_0, hi167_0⟩ := at_L10 HR1.out (rd x8_3 x15_4) p167 q167
                                  obtain rfl : ad165 = ad167 := (by injection e167)
                                  replace hx167_0 := (HB.out.cell (World.block_lt_of_cell? w _ hx167_0)).trans hx167_0
                                  have HR167_0 := Aside0.mk hi167_0
                                  have HC167_0 := Aside0.mk hl167_0
                                  clear hi167_0 hl167_0
                                  replace p167 := eq_true p167
                                  replace q167 := eq_true q167
                                  have p168 : 0 ≤ ((rd x8_3 x15_4) : Int) := of_decide_eq_true (by first | (with_reducible assumption) | assumption)
                                  have q168 : (rd x8_3 x15_4) < (l1.length : Int) := of_decide_eq_true (by first | (with_reducible assumption) | assumption)
                                  obtain ⟨ad168, A168_0, c168_0, e168, hx168_0, hl168_0, hi168_0⟩ := at_L10 HR1.out (rd x8_3 x15_4) p168 q168
                                  obtain rfl : ad165 = ad168 := (by injection e168)
                                  replace hx168_0 := (HB.out.cell (World.block_lt_of_cell? w _ hx168_0)).trans hx168_0
                                  have HR168_0 := Aside0.mk hi168_0
                                  have HC168_0 := Aside0.mk hl168_0
                                  clear hi168_0 hl168_0
                                  replace p168 := eq_true p168
                                  replace q168 := eq_true q168
                                  have ea_ := Option.some.inj (hx167_0.symm.trans hx168_0)
                                  injection ea_ with ea_ en_ ec_
                                  subst ea_
                                  subst ec_
                                  clear en_
                                  have p169 : 0 ≤ (x18_5 : Int) := of_decide_eq_true (by first | (with_reducible assumption) | assumption)
                                  have q169 : x18_5 < ((rd_L10 l1 (rd x8_3 x15_4)).length : Int) := of_decide_eq_true (by first | (with_reducible assumption) | assumption)
                                  obtain ⟨ad169, A169_1, c169_1, e169, hx169_0, hx169_1, hx169_2, hl169_1, hi169_1⟩ := at_T54 HR168_0.out x18_5 p169 q169
                                  cases e169
                                  replace hx169_0 := (HB.out.cell (World.block_lt_of_cell? w _ hx169_0)).trans hx169_0
                                  replace hx169_1 := (HB.out.cell (World.block_lt_of_cell? w _ hx169_1)).trans hx169_1
                                  replace hx169_2 := (HB.out.cell (World.block_lt_of_cell? w _ hx169_2)).trans hx169_2
                                  have HR169_1 := Aside0.mk hi169_1
                                  have HC169_1 := Aside0.mk hl169_1
                                  clear hi169_1 hl169_1
                                  replace p169 := eq_true p169
                                  replace q169 := eq_true q169
                                  go_wp2_with (first | ((with_reducible refine gate_callee (f := 24) rfl ?_); refine goesL_ (some 118) rfl rfl Try.func24 (by kernel_rfl) rfl #[.int .i64 x17_5, .int .i64 ((rd_T54 (rd_L10 l1 (rd x8_3 x15_4)) x18_5).f0)] rfl (by (try simp only [List.map_toArray, List.map_cons, List.map_nil]); first | done | rfl | (simp only [List.length_drop, List.length_take]; rfl)) ?_; (with_reducible refine (spec_l5Least.calls x17_5 ((rd_T54 (rd_L10 l1 (rd x8_3 x15_4)) x18_5).f0) t170 _ A50.out).mono ?_); rintro e w' ⟨rfl, ⟨nd, rfl⟩⟩; refine ⟨_, rfl, ?_⟩))
                                  go_roundg k5
                                  case measure => have := HJ3.out; have := HK2.out; have := HK3.out; have := HK4.out; have := HK5.out; omega
                                  case rel => exact ⟨(t170), (wrap64 (x18_5 + 1)), (by first | rfl | (simp; done) | (simp [*]; done)), (by first | rfl | (simp; done) | (simp [*]; done)), H', ⟨by have := HJ3.out; have := HK2.out; have := HK3.out; have := HK4.out; have := HK5.out; omega⟩, ⟨by (with_reducible repeat (first | apply Kd.S_alloc | apply Kd.S_drewN | apply Kd.S_drew)); exact HO_7.out⟩, ⟨by (with_reducible repeat (first | apply Kd.R_alloc | apply Kd.R_drewN | apply Kd.R_drew)); exact HO_8.out⟩, ⟨by (with_reducible repeat (first | apply Kd.S_alloc | apply Kd.S_drewN | apply Kd.S_drew)); exact HO_12.out⟩, ⟨by (with_reducible repeat (first | apply Kd.R_alloc | apply Kd.R_drewN | apply Kd.R_drew)); exact HO_13.out⟩, ⟨by (with_reducible repeat (first | apply Kd.R_alloc | apply Kd.R_drewN | apply Kd.R_drew)); exact HO_14.out⟩, ⟨by repeat (first | (with_reducible first | exact HB.out | apply below_alloc | apply pw_below_drewN | apply below_drew1) | exact HB.out)⟩⟩
                                · rw [if_neg c48] at H
                                  have c48b0 : decide (x18_5 < ((rd_L10 l1 (rd x8_3 x15_4)).length : Int)) = false := decide_eq_false c48
                                  clear c48
                                  by_cases c51 : (rd x8_3 x15_4) < (x14_4.length : Int)
                                  case neg => rw [if_neg c51] at H; exact absurd H (by simp)
                                  rw [if_pos c51] at H
                                  have c51b0 : decide ((rd x8_3 x15_4) < (x14_4.length : Int)) = true := decide_eq_true c51
                                  clear c51
                                  by_cases c52 : x17_5 > (rd x14_4 (rd x8_3 x15_4))
                                  · rw [if_pos c52] at H
                                    have c52b0 : decide ((rd x14_4 (rd x8_3 x15_4)) < x17_5) = true := decide_eq_true c52
                                    clear c52
                                    obtain ⟨y172, hy172⟩ : ∃ y_ : List Int, y_ = (x14_4.set ((rd x8_3 x15_4) : Int).toNat x17_5) := ⟨_, rfl⟩
                                    replace H : (if x12_4.length < 2513169434916 then ((some (x12_4 ++ [(⟨(rd x8_3 x15_4), (⟨0, ([] : List Int), false⟩ : S54), x17_5⟩ : S56)] : List (S56))).bind fun y173 => (if (rd x8_3 x15_4) < (x13_4.length : Int) then (if 0 ≤ (rd x13_4 (rd x8_3 x15_4)) then (if (rd x13_4 (rd x8_3 x15_4)) < ((rd_L10 l1 (rd x8_3 x15_4)).length : Int) then ((spec_l16Arrival.f ((rd_T54 (rd_L10 l1 (rd x8_3 x15_4)) (rd x13_4 (rd x8_3 x15_4))).f0) ((rd_T54 (rd_L10 l1 (rd x8_3 x15_4)) (rd x13_4 (rd x8_3 x15_4))).f1) ((rd_T54 (rd_L10 l1 (rd x8_3 x15_4)) (rd x13_4 (rd x8_3 x15_4))).f2)).bind fun bt179 => (if y173.length < 2513169434916 then (spec_Ends.l3 k5 l0 l1 y138 x8_3 (y173 ++ [(⟨(rd x8_3 x15_4), (⟨bt179.1, bt179.2.1, bt179.2.2⟩ : S54), (-1)⟩ : S56)]) (x13_4.set ((rd x8_3 x15_4) : Int).toNat (wrap64 ((rd x13_4 (rd x8_3 x15_4)) + 1))) y172 (wrap64 (x15_4 + 1))) else (none))) else (none)) else (none)) else (none))) else (none)) = some r := by first | (rw [hy172]; with_reducible exact H) | (have H2_ := (Option.bind_some _ _).symm.trans H; rw [hy172]; with_reducible exact H2_) | (have H2_ := (Option.bind_some _ _).symm.trans H; with_reducible exact H2_) | with_reducible exact H | (rw [hy172]; exact H) | exact H
                                    have Ny172 := Aside0.mk hy172
                                    clear hy172
                                    by_cases c54 : x12_4.length < 2513169434916
                                    case neg => rw [if_neg c54] at H; exact absurd H (by simp)
                                    rw [if_pos c54] at H
                                    have LMc54 := Aside0.mk c54
                                    clear c54
                                    obtain ⟨y173, hy173⟩ : ∃ y_ : List (S56), y_ = (x12_4 ++ [(⟨(rd x8_3 x15_4), (⟨0, ([] : List Int), false⟩ : S54), x17_5⟩ : S56)]) := ⟨_, rfl⟩
                                    replace H : (if (rd x8_3 x15_4) < (x13_4.length : Int) then (if 0 ≤ (rd x13_4 (rd x8_3 x15_4)) then (if (rd x13_4 (rd x8_3 x15_4)) < ((rd_L10 l1 (rd x8_3 x15_4)).length : Int) then ((spec_l16Arrival.f ((rd_T54 (rd_L10 l1 (rd x8_3 x15_4)) (rd x13_4 (rd x8_3 x15_4))).f0) ((rd_T54 (rd_L10 l1 (rd x8_3 x15_4)) (rd x13_4 (rd x8_3 x15_4))).f1) ((rd_T54 (rd_L10 l1 (rd x8_3 x15_4)) (rd x13_4 (rd x8_3 x15_4))).f2)).bind fun bt179 => (if y173.length < 2513169434916 then (spec_Ends.l3 k5 l0 l1 y138 x8_3 (y173 ++ [(⟨(rd x8_3 x15_4), (⟨bt179.1, bt179.2.1, bt179.2.2⟩ : S54), (-1)⟩ : S56)]) (x13_4.set ((rd x8_3 x15_4) : Int).toNat (wrap64 ((rd x13_4 (rd x8_3 x15_4)) + 1))) y172 (wrap64 (x15_4 + 1))) else (none))) else (none)) else (none)) else (none)) = some r := by first | (rw [hy173]; with_reducible exact H) | (have H2_ := (Option.bind_some _ _).symm.trans H; rw [hy173]; with_reducible exact H2_) | (have H2_ := (Option.bind_some _ _).symm.trans H; with_reducible exact H2_) | with_reducible exact H | (rw [hy173]; exact H) | exact H
                                    have Ny173 := Aside0.mk hy173
                                    clear hy173
                                    by_cases c55 : (rd x8_3 x15_4) < (x13_4.length : Int)
                                    case neg => rw [if_neg c55] at H; exact absurd H (by simp)
                                    rw [if_pos c55] at H
                                    have c55b0 : decide ((rd x8_3 x15_4) < (x13_4.length : Int)) = true := decide_eq_true c55
                                    clear c55
                                    by_cases c56 : 0 ≤ (rd x13_4 (rd x8_3 x15_4))
                                    case neg => rw [if_neg c56] at H; exact absurd H (by simp)
                                    rw [if_pos c56] at H
                                    have c56b0 : decide (0 ≤ (rd x13_4 (rd x8_3 x15_4))) = true := decide_eq_true c56
                                    clear c56
                                    by_cases c57 : (rd x13_4 (rd x8_3 x15_4)) < ((rd_L10 l1 (rd x8_3 x15_4)).length : Int)
                                    case neg => rw [if_neg c57] at H; exact absurd H (by simp)
                                    rw [if_pos c57] at H
                                    have c57b0 : decide ((rd x13_4 (rd x8_3 x15_4)) < ((rd_L10 l1 (rd x8_3 x15_4)).length : Int)) = true := decide_eq_true c57
                                    clear c57
                                    replace H := Option.bind_eq_some_iff.mp H
                                    obtain ⟨⟨t179, t180, t183⟩, A580, H⟩ := H
                                    replace H : (if y173.length < 2513169434916 then (spec_Ends.l3 k5 l0 l1 y138 x8_3 (y173 ++ [(⟨(rd x8_3 x15_4), (⟨t179, t180, t183⟩ : S54), (-1)⟩ : S56)]) (x13_4.set ((rd x8_3 x15_4) : Int).toNat (wrap64 ((rd x13_4 (rd x8_3 x15_4)) + 1))) y172 (wrap64 (x15_4 + 1))) else (none)) = some r := H
                                    have A58 := Aside0.mk A580
                                    clear A580
                                    by_cases c59 : y173.length < 2513169434916
                                    case neg => rw [if_neg c59] at H; exact absurd H (by simp)
                                    rw [if_pos c59] at H
                                    have LMc59 := Aside0.mk c59
                                    clear c59
                                    obtain ⟨y184, hy184⟩ : ∃ y_ : List (S56), y_ = (y173 ++ [(⟨(rd x8_3 x15_4), (⟨t179, t180, t183⟩ : S54), (-1)⟩ : S56)]) := ⟨_, rfl⟩
                                    replace H : (spec_Ends.l3 k5 l0 l1 y138 x8_3 y184 (x13_4.set ((rd x8_3 x15_4) : Int).toNat (wrap64 ((rd x13_4 (rd x8_3 x15_4)) + 1))) y172 (wrap64 (x15_4 + 1))) = some r := by first | (rw [hy184]; with_reducible exact H) | (have H2_ := (Option.bind_some _ _).symm.trans H; rw [hy184]; with_reducible exact H2_) | (have H2_ := (Option.bind_some _ _).symm.trans H; with_reducible exact H2_) | with_reducible exact H | (rw [hy184]; exact H) | exact H
                                    have Ny184 := Aside0.mk hy184
                                    clear hy184
                                    obtain ⟨y188, hy188⟩ : ∃ y_ : List Int, y_ = (x13_4.set ((rd x8_3 x15_4) : Int).toNat (wrap64 ((rd x13_4 (rd x8_3 x15_4)) + 1))) := ⟨_, rfl⟩
                                    replace H : (spec_Ends.l3 k5 l0 l1 y138 x8_3 y184 y188 y172 (wrap64 (x15_4 + 1))) = some r := by first | (rw [hy188]; with_reducible exact H) | (have H2_ := (Option.bind_some _ _).symm.trans H; rw [hy188]; with_reducible exact H2_) | (have H2_ := (Option.bind_some _ _).symm.trans H; with_reducible exact H2_) | with_reducible exact H | (rw [hy188]; exact H) | exact H
                                    have Ny188 := Aside0.mk hy188
                                    clear hy188
                                    have H' := Aside0.mk H
                                    clear H
                                    have p167 : 0 ≤ ((rd x8_3 x15_4) : Int) := of_decide_eq_true (by first | (with_reducible assumption) | assumption)
                                    have q167 : (rd x8_3 x15_4) < (l1.length : Int) := of_decide_eq_true (by first | (with_reducible assumption) | assumption)
                                    obtain ⟨ad167, A167_0, c167_0, e167, hx167_0, hl167_0, hi167_0⟩ := at_L10 HR1.out (rd x8_3 x15_4) p167 q167
                                    obtain rfl : ad165 = ad167 := (by injection e167)
                                    replace hx167_0 := (HB.out.cell (World.block_lt_of_cell? w _ hx167_0)).trans hx167_0
                                    have HR167_0 := Aside0.mk hi167_0
                                    have HC167_0 := Aside0.mk hl167_0
                                    clear hi167_0 hl167_0
                                    replace p167 := eq_true p167
                                    replace q167 := eq_true q167
                                    obtain ⟨Ao61, co61, eo61⟩ := Kd.R_slice HO_14.out
                                    subst eo61
                                    have p171 : 0 ≤ ((rd x8_3 x15_4) : Int) := of_decide_eq_true (by first | (with_reducible assumption) | assumption)
                                    have q171 : (rd x8_3 x15_4) < (x14_4.length : Int) := of_decide_eq_true (by first | (with_reducible assumption) | assumption)
                                    obtain ⟨ad171, e171, hx171_0⟩ := Kd.at_int (Kd.R_reads' HO_14.out).2.2 (rd x8_3 x15_4) p171 q171
                                    cases e171
                                    replace p171 := eq_true p171
                                    replace q171 := eq_true q171
                                    have p53 : 0 ≤ ((rd x8_3 x15_4) : Int) := of_decide_eq_true (by first | (with_reducible assumption) | assumption)
                                    have q53 : ((rd x8_3 x15_4) : Int) < ((x14_4.length : Int) : Int) := of_decide_eq_true (by first | (with_reducible assumption) | assumption)
                                    obtain ⟨go53, co53, eo53, gb53, gl53, cl53, HG53⟩ := Kd.R_form HO_14.out (by omega)
                                    (first | cases eo53 | (injection eo53 with ea_ en_ ec_; (first | subst ea_ | (injection ea_ with ea_; subst ea_)); subst ec_; clear en_))
                                    have GB53 := Aside0.mk gb53
                                    have GG53 := Aside0.mk HG53
                                    clear gb53 gl53 HG53
                                    (first | simp only [add_plain] at hx171_0 | skip)
                                    obtain ⟨hx53_0, hf53_0⟩ := Kd.R_celln 0 HO_14.out ((rd x8_3 x15_4) : Int) p53 q53
                                    replace p53 := eq_true p53
                                    replace q53 := eq_true q53
                                    have HP62 := Kd.R_putg HO_14.out ((rd x8_3 x15_4) : Int) x17_5
                                    try go_wp2_with (first | ((with_reducible refine gate_store (t := 3) (p := 128) rfl ?_); refine store_event (t := 3) (p := 128) (v := ?vo_w63) (w1 := (wr.setCell ⟨go53, ((rd x8_3 x15_4) : Int).toNat, none⟩ (.int .i64 x17_5))) ?hg ?ho ?hn ?hr ?_; (case ho => rfl); (case hg => rfl); (case hn => rfl); (case hr => first | (go_simp; done) | (go_simp; rfl)); intro w63 hw; have hg : wr.grownBy w63 (some go53) := (by rw [hw]; exact HP62.2); have hp_ : Kd.R (Kd.int .i64) 3 w63 w.heap.size (fun k_ => some k_ ≠ (.slice (some ad163) x8_3.length co43 : Value).ownBlock ∧ some k_ ≠ (.slice (some ad164) x13_4.length co45 : Value).ownBlock) (.slice (some ⟨go53, 0, none⟩) x14_4.length co61) y172 := (by rw [hw, Ny172.out]; exact HP62.1); clear HP62; have n0_ := Aside0.mk (Kd.S_after (v := (.slice (some ⟨go53, 0, none⟩) x14_4.length co61)) (v1 := (.slice (some ⟨go53, 0, none⟩) x14_4.length co61)) (ok := (fun k_ => some k_ ≠ (.slice (some ad163) x8_3.length co43 : Value).ownBlock ∧ some k_ ≠ (u12 : Value).ownBlock ∧ some k_ ≠ (.slice (some ad164) x13_4.length co45 : Value).ownBlock)) (by (with_reducible repeat (first | apply Kd.S_alloc | apply Kd.S_drewN | apply Kd.S_drew)); exact Kd.S_mono HO_7.out (fun _ hk => ⟨⟨hk.1, ⟨hk.2.1, hk.2.2.1⟩⟩, hk.2.2.2⟩)) hg (.inl rfl)); have n1_ := Aside0.mk (Kd.R_after (v := (.slice (some ⟨go53, 0, none⟩) x14_4.length co61)) (v1 := (.slice (some ⟨go53, 0, none⟩) x14_4.length co61)) (ok := (fun k_ => some k_ ≠ (.slice (some ad164) x13_4.length co45 : Value).ownBlock)) (by (with_reducible repeat (first | apply Kd.R_alloc | apply Kd.R_drewN | apply Kd.R_drew)); exact HO_8.out) hg (.inl rfl)); have n2_ := Aside0.mk (Kd.S_after (v := (.slice (some ⟨go53, 0, none⟩) x14_4.length co61)) (v1 := (.slice (some ⟨go53, 0, none⟩) x14_4.length co61)) (ok := (fun k_ => some k_ ≠ (v139 : Value).ownBlock ∧ some k_ ≠ (.slice (some ad163) x8_3.length co43 : Value).ownBlock ∧ some k_ ≠ (.slice (some ad164) x13_4.length co45 : Value).ownBlock)) (by (with_reducible repeat (first | apply Kd.S_alloc | apply Kd.S_drewN | apply Kd.S_drew)); exact Kd.S_mono HO_12.out (fun _ hk => ⟨⟨hk.1, ⟨hk.2.1, hk.2.2.1⟩⟩, hk.2.2.2⟩)) hg (.inl rfl)); have n3_ := Aside0.mk (Kd.R_after (v := (.slice (some ⟨go53, 0, none⟩) x14_4.length co61)) (v1 := (.slice (some ⟨go53, 0, none⟩) x14_4.length co61)) (ok := (fun k_ => some k_ ≠ (.slice (some ad163) x8_3.length co43 : Value).ownBlock)) (by (with_reducible repeat (first | apply Kd.R_alloc | apply Kd.R_drewN | apply Kd.R_drew)); exact HO_13.out) hg (.inl rfl)); have n4_ := Aside0.mk (hp_); have n5_ := Aside0.mk ((by rw [hw]; exact below_set (HB.out) GB53.out : Below w.heap.size w w63)); clear HO_7; clear HO_8; clear HO_12; clear HO_13; clear HO_14; clear HB; have HO_7 := n0_; have HO_8 := n1_; have HO_12 := n2_; have HO_13 := n3_; have HO_14 := n4_; have HB := n5_; clear n0_ n1_ n2_ n3_ n4_ n5_; clear hg hw hp_) | ((with_reducible refine gate_builtin (b := .append) (xs := #[.tmp 129, .tmp 133]) rfl ?_); (try (refine gate_guard (by rfl) ?_; dsimp only)); at_builtin; refine Kd.S_append k56 (w0 := w) w.heap.size rfl (.tmp 129) (.tmp 133) 27 56 (.agg #[(.int .i64 0), (.int .i64 0), (.slice none 0 0), (.bool false), (.int .i64 0)]) 56 rfl Try.underlying27 info56 rfl (by decide) (by omega) u12 x12_4 (⟨(rd x8_3 x15_4), (⟨0, ([] : List Int), false⟩ : S54), x17_5⟩ : S56) [.int .i64 (rd x8_3 x15_4), .int .i64 0, .slice none 0 0, .bool false, .int .i64 x17_5] (fun k_ => some k_ ≠ (v139 : Value).ownBlock ∧ some k_ ≠ (.slice (some ad163) x8_3.length co43 : Value).ownBlock ∧ some k_ ≠ (.slice (some ad164) x13_4.length co45 : Value).ownBlock ∧ some k_ ≠ (.slice (some ⟨go53, 0, none⟩) x14_4.length co61 : Value).ownBlock) (fun _ => False) rfl rfl ?aP (fun k_ hk_ => hk_.elim) ?aF ?aO ?aB ?aS ?aL ?_; (case aP => exact k56_mkM _ _ _ (⟨(rd x8_3 x15_4), (⟨0, ([] : List Int), false⟩ : S54), x17_5⟩ : S56) (Kd.R_nil _ _ _ _ _)); (case aB => exact (by repeat (first | (with_reducible first | exact HB.out | apply below_alloc | apply pw_below_drewN | apply below_drew1) | exact HB.out))); (case aF => exact (fun k_ hk => ⟨Kd.fresh' (Kd.S_lt (by (with_reducible repeat (first | apply Kd.S_alloc | apply Kd.S_drewN | apply Kd.S_drew)); exact HO_7.out)) k_ hk, Kd.fresh' (Kd.R_lt (by (with_reducible repeat (first | apply Kd.R_alloc | apply Kd.R_drewN | apply Kd.R_drew)); exact HO_8.out)) k_ hk, Kd.fresh' (Kd.R_lt (by (with_reducible repeat (first | apply Kd.R_alloc | apply Kd.R_drewN | apply Kd.R_drew)); exact HO_13.out)) k_ hk, Kd.fresh' (Kd.R_lt (by (with_reducible repeat (first | apply Kd.R_alloc | apply Kd.R_drewN | apply Kd.R_drew)); exact HO_14.out)) k_ hk⟩)); (case aO => exact (by (with_reducible repeat (first | apply Kd.S_alloc | apply Kd.S_drewN | apply Kd.S_drew)); exact Kd.S_mono HO_12.out (fun k_ hk => ⟨⟨hk.1.1, ⟨hk.1.2.1, ⟨hk.1.2.2, hk.2⟩⟩⟩, fun e_ => e_⟩))); (case aS => exact (below_size (by repeat (first | (with_reducible first | exact HB.out | apply below_alloc | apply pw_below_drewN | apply below_drew1) | exact HB.out)))); (case aL => have := LMc54.out; omega); intro v174 w64 ho hb hg hat; rw [← Ny173.out] at ho; have n0_ := Aside0.mk (Kd.S_after (ok := (fun k_ => some k_ ≠ (.slice (some ad163) x8_3.length co43 : Value).ownBlock ∧ some k_ ≠ (.slice (some ad164) x13_4.length co45 : Value).ownBlock ∧ some k_ ≠ (.slice (some ⟨go53, 0, none⟩) x14_4.length co61 : Value).ownBlock)) (by (with_reducible repeat (first | apply Kd.S_alloc | apply Kd.S_drewN | apply Kd.S_drew)); exact Kd.S_mono HO_7.out (fun _ hk => ⟨⟨hk.1.1, ⟨hk.1.2.2, hk.2⟩⟩, hk.1.2.1⟩)) hg hat); have n1_ := Aside0.mk (Kd.R_over' (by (with_reducible repeat (first | apply Kd.R_alloc | apply Kd.R_drewN | apply Kd.R_drew)); exact HO_8.out) (Kd.S_typed (by (with_reducible repeat (first | apply Kd.S_alloc | apply Kd.S_drewN | apply Kd.S_drew)); exact HO_12.out)) (by decide) hg); have n2_ := Aside0.mk (Kd.R_over' (by (with_reducible repeat (first | apply Kd.R_alloc | apply Kd.R_drewN | apply Kd.R_drew)); exact HO_13.out) (Kd.S_typed (by (with_reducible repeat (first | apply Kd.S_alloc | apply Kd.S_drewN | apply Kd.S_drew)); exact HO_12.out)) (by decide) hg); have n3_ := Aside0.mk (Kd.R_over' (by (with_reducible repeat (first | apply Kd.R_alloc | apply Kd.R_drewN | apply Kd.R_drew)); exact HO_14.out) (Kd.S_typed (by (with_reducible repeat (first | apply Kd.S_alloc | apply Kd.S_drewN | apply Kd.S_drew)); exact HO_12.out)) (by decide) hg); have n4_ := Aside0.mk (hb); have n5_ := Aside0.mk (ho); clear HO_7; clear HO_8; clear HO_13; clear HO_14; clear HB; clear HO_12; have HO_7 := n0_; have HO_8 := n1_; have HO_13 := n2_; have HO_14 := n3_; have HB := n4_; have HO175 := n5_; clear n0_ n1_ n2_ n3_ n4_ n5_; clear ho hb hg hat))
                                    have n0_ := Aside0.mk (Kd.S_drew HO_7.out)
                                    have n1_ := Aside0.mk (Kd.R_drew HO_8.out)
                                    have n2_ := Aside0.mk (Kd.R_drew HO_13.out)
                                    have n3_ := Aside0.mk (Kd.R_drew HO_14.out)
                                    have n4_ := Aside0.mk (Kd.S_drew HO175.out)
                                    have n5_ := Aside0.mk (below_drew1 HB.out)
                                    clear HO_7
                                    clear HO_8
                                    clear HO_13
                                    clear HO_14
                                    clear HO175
                                    clear HB
                                    have HO_7 := n0_
                                    have HO_8 := n1_
                                    have HO_13 := n2_
                                    have HO_14 := n3_
                                    have HO175 := n4_
                                    have HB := n5_
                                    clear n0_ n1_ n2_ n3_ n4_ n5_
                                    have p176 : 0 ≤ ((rd x8_3 x15_4) : Int) := of_decide_eq_true (by first | (with_reducible assumption) | assumption)
                                    have q176 : (rd x8_3 x15_4) < (l1.length : Int) := of_decide_eq_true (by first | (with_reducible assumption) | assumption)
                                    obtain ⟨ad176, A176_0, c176_0, e176, hx176_0, hl176_0, hi176_0⟩ := at_L10 HR1.out (rd x8_3 x15_4) p176 q176
                                    have hw176_0 := hx176_0
                                    obtain rfl : ad165 = ad176 := (by injection e176)
                                    replace hx176_0 := (HB.out.cell (World.block_lt_of_cell? w _ hx176_0)).trans hx176_0
                                    have HR176_0 := Aside0.mk hi176_0
                                    have HC176_0 := Aside0.mk hl176_0
                                    clear hi176_0 hl176_0
                                    replace p176 := eq_true p176
                                    replace q176 := eq_true q176
                                    have p177 : 0 ≤ ((rd x8_3 x15_4) : Int) := of_decide_eq_true (by first | (with_reducible assumption) | assumption)
                                    have q177 : (rd x8_3 x15_4) < (x13_4.length : Int) := of_decide_eq_true (by first | (with_reducible assumption) | assumption)
                                    obtain ⟨ad177, e177, hx177_0⟩ := Kd.at_int (Kd.R_reads' HO_13.out).2.2 (rd x8_3 x15_4) p177 q177
                                    obtain rfl : ad164 = ad177 := (by injection e177)
                                    replace p177 := eq_true p177
                                    replace q177 := eq_true q177
                                    have p178 : 0 ≤ ((rd x13_4 (rd x8_3 x15_4)) : Int) := of_decide_eq_true (by first | (with_reducible assumption) | assumption)
                                    have q178 : (rd x13_4 (rd x8_3 x15_4)) < ((rd_L10 l1 (rd x8_3 x15_4)).length : Int) := of_decide_eq_true (by first | (with_reducible assumption) | assumption)
                                    obtain ⟨ad178, A178_1, c178_1, e178, hx178_0, hx178_1, hx178_2, hl178_1, hi178_1⟩ := at_T54 HR176_0.out (rd x13_4 (rd x8_3 x15_4)) p178 q178
                                    have hw178_2 := hx178_2
                                    have hw178_1 := hx178_1
                                    have hw178_0 := hx178_0
                                    cases e178
                                    replace hx178_0 := (HB.out.cell (World.block_lt_of_cell? w _ hx178_0)).trans hx178_0
                                    replace hx178_1 := (HB.out.cell (World.block_lt_of_cell? w _ hx178_1)).trans hx178_1
                                    replace hx178_2 := (HB.out.cell (World.block_lt_of_cell? w _ hx178_2)).trans hx178_2
                                    have HR178_1 := Aside0.mk hi178_1
                                    have HC178_1 := Aside0.mk hl178_1
                                    clear hi178_1 hl178_1
                                    replace p178 := eq_true p178
                                    replace q178 := eq_true q178
                                    refine start_ (n := 17) (S := fun w' => w'.cell? (ad165.add ((rd x8_3 x15_4)).toNat) = some (.slice (some ad178) (rd_L10 l1 (rd x8_3 x15_4)).length c176_0) ∧ w'.cell? (ad164.add ((rd x8_3 x15_4)).toNat) = some (.int .i64 (rd x13_4 (rd x8_3 x15_4))) ∧ w'.cell? (ad178.add (((rd x13_4 (rd x8_3 x15_4))).toNat * 3)) = some (.int .i64 ((rd_T54 (rd_L10 l1 (rd x8_3 x15_4)) (rd x13_4 (rd x8_3 x15_4))).f0)) ∧ w'.cell? ⟨(ad178.add (((rd x13_4 (rd x8_3 x15_4))).toNat * 3)).block, (ad178.add (((rd x13_4 (rd x8_3 x15_4))).toNat * 3)).off + 1, none⟩ = some (.slice A178_1 ((rd_T54 (rd_L10 l1 (rd x8_3 x15_4)) (rd x13_4 (rd x8_3 x15_4))).f1).length c178_1) ∧ w'.cell? ⟨(ad178.add (((rd x13_4 (rd x8_3 x15_4))).toNat * 3)).block, (ad178.add (((rd x13_4 (rd x8_3 x15_4))).toNat * 3)).off + 2, none⟩ = some (.bool ((rd_T54 (rd_L10 l1 (rd x8_3 x15_4)) (rd x13_4 (rd x8_3 x15_4))).f2))) (ds := [14, 15]) #[false, false, false, false, false, false, false, false, false, false, false, false, false, false, false, false, false] (by kernel_rfl) rfl rfl ⟨((HB.out.cell (World.block_lt_of_cell? w _ hw176_0)).trans hw176_0), hx177_0, ((HB.out.cell (World.block_lt_of_cell? w _ hw178_0)).trans hw178_0), ((HB.out.cell (World.block_lt_of_cell? w _ hw178_1)).trans hw178_1), ((HB.out.cell (World.block_lt_of_cell? w _ hw178_2)).trans hw178_2)⟩ (fun hHeld => ?_); refine with_tabW spec_Ends.tab33 spec_Ends.bits33 (fun HT_ HW_ => ?_)
                                    generalize w64.drew = w65 at HO_7 HO_8 HO_13 HO_14 HO175 HB HR176_0 HR178_1 hx176_0 hx177_0 hx178_0 hx178_1 hx178_2 hHeld ⊢
                                    refine pure_ (i := 0) (N := some 135) (v := ?_) (a' := ?_) #[true, false, false, false, false, false, false, false, false, false, false, false, false, false, false, false, false] rfl rfl (any_of HT_.out (by kernel_rfl)) (fun _ _ _ h => h) (Or.inl ⟨by rfl, ?_⟩) ?_ ?_
                                    rotate_left
                                    · intro w'
                                      go_simp
                                      with_reducible rfl
                                    rotate_left
                                    · simp only [Act.put, sT_, s0_, sS_, i64_w, i32_w]
                                      rfl
                                    refine pure_ (i := 1) (N := some 136) (v := ?_) (a' := ?_) #[true, true, false, false, false, false, false, false, false, false, false, false, false, false, false, false, false] rfl rfl (any_of HT_.out (by kernel_rfl)) (fun _ _ _ h => h) (Or.inl ⟨by rfl, ?_⟩) ?_ ?_
                                    rotate_left
                                    · intro w'
                                      go_simp
                                      with_reducible rfl
                                    rotate_left
                                    · simp only [Act.put, sT_, s0_, sS_, i64_w, i32_w]
                                      rfl
                                    refine pure_ (i := 2) (N := some 137) (v := ?_) (a' := ?_) #[true, true, true, false, false, false, false, false, false, false, false, false, false, false, false, false, false] rfl rfl (any_of HT_.out (by kernel_rfl)) (fun _ _ _ h => h) (Or.inl ⟨by rfl, ?_⟩) ?_ ?_
                                    rotate_left
                                    · intro w'
                                      go_simp
                                      with_reducible rfl
                                    rotate_left
                                    · simp only [Act.put, sT_, s0_, sS_, i64_w, i32_w]
                                      rfl
                                    refine pure_ (i := 3) (N := some 138) (v := ?_) (a' := ?_) #[true, true, true, true, false, false, false, false, false, false, false, false, false, false, false, false, false] rfl rfl (any_of HT_.out (by kernel_rfl)) (fun _ _ _ h => h) (Or.inl ⟨by rfl, ?_⟩) ?_ ?_
                                    rotate_left
                                    · intro w'
                                      go_simp
                                      with_reducible rfl
                                    rotate_left
                                    · simp only [Act.put, sT_, s0_, sS_, i64_w, i32_w]
                                      rfl
                                    refine pure_ (i := 4) (N := some 139) (v := ?_) (a' := ?_) #[true, true, true, true, true, false, false, false, false, false, false, false, false, false, false, false, false] rfl rfl (any_of HT_.out (by kernel_rfl)) (fun _ _ _ h => h) (Or.inl ⟨by rfl, ?_⟩) ?_ ?_
                                    rotate_left
                                    · intro w'
                                      go_simp
                                      with_reducible rfl
                                    rotate_left
                                    · simp only [Act.put, sT_, s0_, sS_, i64_w, i32_w]
                                      rfl
                                    refine pure_ (i := 6) (N := some 141) (v := ?_) (a' := ?_) #[true, true, true, true, true, false, true, false, false, false, false, false, false, false, false, false, false] rfl rfl (any_of HT_.out (by kernel_rfl)) (fun _ _ _ h => h) (Or.inl ⟨by rfl, ?_⟩) ?_ ?_
                                    rotate_left
                                    · intro w'
                                      go_simp
                                      with_reducible rfl
                                    rotate_left
                                    · simp only [Act.put, sT_, s0_, sS_, i64_w, i32_w]
                                      rfl
                                    refine pure_ (i := 7) (N := some 142) (v := ?_) (a' := ?_) #[true, true, true, true, true, false, true, true, false, false, false, false, false, false, false, false, false] rfl rfl (any_of HT_.out (by kernel_rfl)) (fun _ _ _ h => h) (Or.inl ⟨by rfl, ?_⟩) ?_ ?_
                                    rotate_left
                                    · intro w'
                                      go_simp
                                      with_reducible rfl
                                    rotate_left
                                    · simp only [Act.put, sT_, s0_, sS_, i64_w, i32_w]
                                      rfl
                                    refine pure_ (i := 8) (N := some 143) (v := ?_) (a' := ?_) #[true, true, true, true, true, false, true, true, true, false, false, false, false, false, false, false, false] rfl rfl (any_of HT_.out (by kernel_rfl)) (fun _ _ _ h => h) (Or.inl ⟨by rfl, ?_⟩) ?_ ?_
                                    rotate_left
                                    · intro w'
                                      go_simp
                                      with_reducible rfl
                                    rotate_left
                                    · simp only [Act.put, sT_, s0_, sS_, i64_w, i32_w]
                                      rfl
                                    refine take_ (i := 5) (N := some 140) (v := ?_) (a' := ?_) #[true, true, true, true, true, true, true, true, true, false, false, false, false, false, false, false, false] rfl rfl (take_ofW HT_.out HW_.out (by kernel_rfl)) (fun _ _ _ h => h) (Or.inl ⟨by rfl, ?_⟩) hHeld ?_ ?_
                                    rotate_left
                                    · rintro w' ⟨s0, s1, s2, s3, s4⟩
                                      go_simp
                                      with_reducible rfl
                                    rotate_left
                                    · simp only [Act.put, sT_, s0_, sS_, i64_w, i32_w]
                                      rfl
                                    refine take_ (i := 9) (N := some 144) (v := ?_) (a' := ?_) #[true, true, true, true, true, true, true, true, true, true, false, false, false, false, false, false, false] rfl rfl (take_ofW HT_.out HW_.out (by kernel_rfl)) (fun _ _ _ h => h) (Or.inl ⟨by rfl, ?_⟩) hHeld ?_ ?_
                                    rotate_left
                                    · rintro w' ⟨s0, s1, s2, s3, s4⟩
                                      go_simp
                                      with_reducible rfl
                                    rotate_left
                                    · simp only [Act.put, sT_, s0_, sS_, i64_w, i32_w]
                                      rfl
                                    refine pure_ (i := 10) (N := some 145) (v := ?_) (a' := ?_) #[true, true, true, true, true, true, true, true, true, true, true, false, false, false, false, false, false] rfl rfl (any_of HT_.out (by kernel_rfl)) (fun _ _ _ h => h) (Or.inl ⟨by rfl, ?_⟩) ?_ ?_
                                    rotate_left
                                    · intro w'
                                      go_simp
                                      with_reducible rfl
                                    rotate_left
                                    · simp only [Act.put, sT_, s0_, sS_, i64_w, i32_w]
                                      rfl
                                    refine take_ (i := 11) (N := some 146) (v := ?_) (a' := ?_) #[true, true, true, true, true, true, true, true, true, true, true, true, false, false, false, false, false] rfl rfl (take_ofW HT_.out HW_.out (by kernel_rfl)) (fun _ _ _ h => h) (Or.inl ⟨by rfl, ?_⟩) hHeld ?_ ?_
                                    rotate_left
                                    · rintro w' ⟨s0, s1, s2, s3, s4⟩
                                      go_simp
                                      with_reducible rfl
                                    rotate_left
                                    · simp only [Act.put, sT_, s0_, sS_, i64_w, i32_w]
                                      rfl
                                    refine one_ (i := 12) (N := some 147) #[true, true, true, true, true, true, true, true, true, true, true, true, true, false, false, false, false] rfl rfl (one_of HT_.out (by kernel_rfl)) (by decide) (fun K hK => ?_)
                                    refine goes_ Try.func25 (by kernel_rfl) rfl #[.agg #[.int .i64 ((rd_T54 (rd_L10 l1 (rd x8_3 x15_4)) (rd x13_4 (rd x8_3 x15_4))).f0), .slice A178_1 ((rd_T54 (rd_L10 l1 (rd x8_3 x15_4)) (rd x13_4 (rd x8_3 x15_4))).f1).length c178_1, .bool ((rd_T54 (rd_L10 l1 (rd x8_3 x15_4)) (rd x13_4 (rd x8_3 x15_4))).f2)]] (by rfl) rfl rfl (by (try simp only [List.map_toArray, List.map_cons, List.map_nil]); first | done | rfl | (simp only [List.length_drop, List.length_take]; rfl)) ?_
                                    with_reducible refine (spec_l16Arrival.calls ((rd_T54 (rd_L10 l1 (rd x8_3 x15_4)) (rd x13_4 (rd x8_3 x15_4))).f0) _ _ ((rd_T54 (rd_L10 l1 (rd x8_3 x15_4)) (rd x13_4 (rd x8_3 x15_4))).f1) ((rd_T54 (rd_L10 l1 (rd x8_3 x15_4)) (rd x13_4 (rd x8_3 x15_4))).f2) t179 t180 t183 _ ?side1 ?side2 A58.out).mono ?_
                                    (case side1 => repeat (first | exact (Kd.C_below HR178_1.out HB.out) | (with_reducible refine Kd.C_alloc ?_ _) | (with_reducible refine Kd.C_drewN ?_ _) | (with_reducible refine Kd.C_drew ?_)))
                                    (case side2 => exact HC178_1.out)
                                    rintro e w66 ⟨v181, rfl, ho0, hb⟩
                                    have HS1_ := (hb.cell (World.block_lt_of_cell? _ _ (hHeld.2.1))).trans (hHeld.2.1)
                                    refine ⟨_, rfl, ?_⟩
                                    have n0_ := Aside0.mk (Kd.S_elder' (by (with_reducible repeat (first | apply Kd.S_alloc | apply Kd.S_drewN | apply Kd.S_drew)); exact HO_7.out) (Kd.R_base ho0) hb)
                                    have n1_ := Aside0.mk (Kd.R_elder' (by (with_reducible repeat (first | apply Kd.R_alloc | apply Kd.R_drewN | apply Kd.R_drew)); exact HO_8.out) (Kd.R_base ho0) hb)
                                    have n2_ := Aside0.mk (Kd.R_elder' (by (with_reducible repeat (first | apply Kd.R_alloc | apply Kd.R_drewN | apply Kd.R_drew)); exact HO_13.out) (Kd.R_base ho0) hb)
                                    have n3_ := Aside0.mk (Kd.R_elder' (by (with_reducible repeat (first | apply Kd.R_alloc | apply Kd.R_drewN | apply Kd.R_drew)); exact HO_14.out) (Kd.R_base ho0) hb)
                                    have n4_ := Aside0.mk (Kd.S_elder' (by (with_reducible repeat (first | apply Kd.S_alloc | apply Kd.S_drewN | apply Kd.S_drew)); exact HO175.out) (Kd.R_base ho0) hb)
                                    have n5_ := Aside0.mk (Kd.R_lower (Kd.R_new' (Kd.R_new' (Kd.R_new' ho0 (Kd.R_lt (by (with_reducible repeat (first | apply Kd.R_alloc | apply Kd.R_drewN | apply Kd.R_drew)); exact HO_8.out))) (Kd.R_lt (by (with_reducible repeat (first | apply Kd.R_alloc | apply Kd.R_drewN | apply Kd.R_drew)); exact HO_13.out))) (Kd.R_lt (by (with_reducible repeat (first | apply Kd.R_alloc | apply Kd.R_drewN | apply Kd.R_drew)); exact HO_14.out))) (below_size (by repeat (first | (with_reducible first | exact HB.out | apply below_alloc | apply pw_below_drewN | apply below_drew1) | exact HB.out))))
                                    have n6_ := Aside0.mk (below_step (by repeat (first | (with_reducible first | exact HB.out | apply below_alloc | apply pw_below_drewN | apply below_drew1) | exact HB.out)) hb)
                                    clear HO_7
                                    clear HO_8
                                    clear HO_13
                                    clear HO_14
                                    clear HO175
                                    clear HB
                                    have HO_7 := n0_
                                    have HO_8 := n1_
                                    have HO_13 := n2_
                                    have HO_14 := n3_
                                    have HO175 := n4_
                                    have HO182 := n5_
                                    have HB := n6_
                                    clear n0_ n1_ n2_ n3_ n4_ n5_ n6_
                                    (try clear hb)
                                    (try clear hb2)
                                    (try clear hk)
                                    (try clear hi)
                                    (try clear ho0)
                                    obtain ⟨Ao67, co67, eo67⟩ := Kd.R_slice HO182.out
                                    (first | subst eo67 | (injection eo67 with f1_ f2_ f3_; have f4_ := f1_.symm; have f5_ := f3_.symm; clear f1_ f2_ f3_; subst f4_; subst f5_))
                                    refine hK.out _ _ ⟨((HB.out.cell (World.block_lt_of_cell? w _ hw176_0)).trans hw176_0), HS1_, ((HB.out.cell (World.block_lt_of_cell? w _ hw178_0)).trans hw178_0), ((HB.out.cell (World.block_lt_of_cell? w _ hw178_1)).trans hw178_1), ((HB.out.cell (World.block_lt_of_cell? w _ hw178_2)).trans hw178_2)⟩ (fun hHeld => ?_)
                                    clear hK K
                                    refine norm_ (a' := ?_) ?_ ?_
                                    rotate_left
                                    · show Act.put _ (some 147) _ = _
                                      simp only [Act.put, sT_, s0_, sS_, i64_w, i32_w]
                                      rfl
                                    refine pure_ (i := 13) (N := some 148) (v := ?_) (a' := ?_) #[true, true, true, true, true, true, true, true, true, true, true, true, true, true, false, false, false] rfl rfl (any_of HT_.out (by kernel_rfl)) (fun _ _ _ h => h) (Or.inl ⟨by rfl, ?_⟩) ?_ ?_
                                    rotate_left
                                    · intro w'
                                      go_simp
                                      with_reducible rfl
                                    rotate_left
                                    · simp only [Act.put, sT_, s0_, sS_, i64_w, i32_w]
                                      rfl
                                    refine last_ (i := 14) (N := some 149) #[true, true, true, true, true, true, true, true, true, true, true, true, true, true, true, false, false] rfl rfl (one_of HT_.out (by kernel_rfl)) (by decide) (fun K hK => ?_)
                                    refine value_ (w1 := ?_) (v := ?_) (by rfl) rfl ?_ ?_
                                    rotate_left 2
                                    · go_simp
                                      constructor
                                      · rfl
                                      · rfl
                                    refine hK.out _ _ ?_
                                    clear hK K
                                    refine norm_ (a' := ?_) ?_ ?_
                                    rotate_left
                                    · show Act.put _ (some 149) _ = _
                                      simp only [Act.put, sT_, s0_, sS_, i64_w, i32_w]
                                      rfl
                                    refine last_ (i := 15) (N := some 150) #[true, true, true, true, true, true, true, true, true, true, true, true, true, true, true, true, false] rfl rfl (one_of HT_.out (by kernel_rfl)) (by decide) (fun K hK => ?_)
                                    refine Kd.S_append_step k56 (w0 := w) w.heap.size (by rfl) (.tmp 135) (.tmp 149) 27 56 (.agg #[(.int .i64 0), (.int .i64 0), (.slice none 0 0), (.bool false), (.int .i64 0)]) 56 rfl Try.underlying27 info56 rfl (by decide) (by omega) v174 y173 (⟨(rd x8_3 x15_4), (⟨t179, t180, t183⟩ : S54), (-1)⟩ : S56) [.int .i64 (rd x8_3 x15_4), .int .i64 t179, .slice Ao67 t180.length co67, .bool t183, .int .i64 (-1)] (fun k_ => some k_ ≠ (v139 : Value).ownBlock ∧ some k_ ≠ (.slice (some ad163) x8_3.length co43 : Value).ownBlock ∧ some k_ ≠ (.slice (some ad164) x13_4.length co45 : Value).ownBlock ∧ some k_ ≠ (.slice (some ⟨go53, 0, none⟩) x14_4.length co61 : Value).ownBlock) (fun k_ => some k_ = (.slice Ao67 t180.length co67 : Value).ownBlock) rfl rfl ?aP (fun k_ hk_ => ((Kd.R_mono (ok' := fun k_ => ((fun k_ => some k_ ≠ (v139 : Value).ownBlock ∧ some k_ ≠ (.slice (some ad163) x8_3.length co43 : Value).ownBlock ∧ some k_ ≠ (.slice (some ad164) x13_4.length co45 : Value).ownBlock ∧ some k_ ≠ (.slice (some ⟨go53, 0, none⟩) x14_4.length co61 : Value).ownBlock)) k_ ∧ some k_ ≠ (v174 : Value).ownBlock) (Kd.R_apart' (Kd.R_apart' (HO182.out) (Kd.S_typed HO_7.out) (by decide)) (Kd.S_typed HO175.out) (by decide)) (fun k_ hk => ⟨⟨hk.1.2, ⟨hk.1.1.1.1.2, ⟨hk.1.1.1.2, hk.1.1.2⟩⟩⟩, hk.2⟩))).1 k_ hk_.symm) ?aF ?aO ?aB ?aS ?aL ?_
                                    (case aP => exact k56_mkM _ _ _ (⟨(rd x8_3 x15_4), (⟨t179, t180, t183⟩ : S54), (-1)⟩ : S56) (Kd.R_mono (Kd.R_tight rfl (Kd.R_mono (ok' := fun k_ => ((fun k_ => some k_ ≠ (v139 : Value).ownBlock ∧ some k_ ≠ (.slice (some ad163) x8_3.length co43 : Value).ownBlock ∧ some k_ ≠ (.slice (some ad164) x13_4.length co45 : Value).ownBlock ∧ some k_ ≠ (.slice (some ⟨go53, 0, none⟩) x14_4.length co61 : Value).ownBlock)) k_ ∧ some k_ ≠ (v174 : Value).ownBlock) (Kd.R_apart' (Kd.R_apart' (HO182.out) (Kd.S_typed HO_7.out) (by decide)) (Kd.S_typed HO175.out) (by decide)) (fun k_ hk => ⟨⟨hk.1.2, ⟨hk.1.1.1.1.2, ⟨hk.1.1.1.2, hk.1.1.2⟩⟩⟩, hk.2⟩))) (fun _ h_ => h_)))
                                    (case aB => exact (by repeat (first | (with_reducible first | exact HB.out | apply below_alloc | apply pw_below_drewN | apply below_drew1) | exact HB.out)))
                                    (case aF => exact (fun k_ hk => ⟨Kd.fresh' (Kd.S_lt (by (with_reducible repeat (first | apply Kd.S_alloc | apply Kd.S_drewN | apply Kd.S_drew)); exact HO_7.out)) k_ hk, Kd.fresh' (Kd.R_lt (by (with_reducible repeat (first | apply Kd.R_alloc | apply Kd.R_drewN | apply Kd.R_drew)); exact HO_8.out)) k_ hk, Kd.fresh' (Kd.R_lt (by (with_reducible repeat (first | apply Kd.R_alloc | apply Kd.R_drewN | apply Kd.R_drew)); exact HO_13.out)) k_ hk, Kd.fresh' (Kd.R_lt (by (with_reducible repeat (first | apply Kd.R_alloc | apply Kd.R_drewN | apply Kd.R_drew)); exact HO_14.out)) k_ hk⟩))
                                    (case aO => exact (by (with_reducible repeat (first | apply Kd.S_alloc | apply Kd.S_drewN | apply Kd.S_drew)); exact Kd.S_mono HO175.out (fun k_ hk => ⟨⟨hk.1.1, ⟨hk.1.2.1, ⟨hk.1.2.2.1, hk.1.2.2.2⟩⟩⟩, fun e_ => hk.2 e_⟩)))
                                    (case aS => exact (below_size (by repeat (first | (with_reducible first | exact HB.out | apply below_alloc | apply pw_below_drewN | apply below_drew1) | exact HB.out))))
                                    (case aL => have := LMc59.out; omega)
                                    intro v185 w68 ho hb hg hat
                                    rw [← Ny184.out] at ho
                                    have n0_ := Aside0.mk (Kd.S_after (ok := (fun k_ => some k_ ≠ (.slice (some ad163) x8_3.length co43 : Value).ownBlock ∧ some k_ ≠ (.slice (some ad164) x13_4.length co45 : Value).ownBlock ∧ some k_ ≠ (.slice (some ⟨go53, 0, none⟩) x14_4.length co61 : Value).ownBlock ∧ some k_ ≠ (.slice Ao67 t180.length co67 : Value).ownBlock)) (by (with_reducible repeat (first | apply Kd.S_alloc | apply Kd.S_drewN | apply Kd.S_drew)); exact Kd.S_mono HO_7.out (fun _ hk => ⟨⟨hk.1.1.1, ⟨hk.1.1.2.1, ⟨hk.1.1.2.2, hk.2⟩⟩⟩, hk.1.2⟩)) hg hat)
                                    have n1_ := Aside0.mk (Kd.R_over' (by (with_reducible repeat (first | apply Kd.R_alloc | apply Kd.R_drewN | apply Kd.R_drew)); exact HO_8.out) (Kd.S_typed (by (with_reducible repeat (first | apply Kd.S_alloc | apply Kd.S_drewN | apply Kd.S_drew)); exact HO175.out)) (by decide) hg)
                                    have n2_ := Aside0.mk (Kd.R_over' (by (with_reducible repeat (first | apply Kd.R_alloc | apply Kd.R_drewN | apply Kd.R_drew)); exact HO_13.out) (Kd.S_typed (by (with_reducible repeat (first | apply Kd.S_alloc | apply Kd.S_drewN | apply Kd.S_drew)); exact HO175.out)) (by decide) hg)
                                    have n3_ := Aside0.mk (Kd.R_over' (by (with_reducible repeat (first | apply Kd.R_alloc | apply Kd.R_drewN | apply Kd.R_drew)); exact HO_14.out) (Kd.S_typed (by (with_reducible repeat (first | apply Kd.S_alloc | apply Kd.S_drewN | apply Kd.S_drew)); exact HO175.out)) (by decide) hg)
                                    have n4_ := Aside0.mk (hb)
                                    have n5_ := Aside0.mk (ho)
                                    clear HO_7
                                    clear HO_8
                                    clear HO_13
                                    clear HO_14
                                    clear HB
                                    clear HO175
                                    clear HO182
                                    have HO_7 := n0_
                                    have HO_8 := n1_
                                    have HO_13 := n2_
                                    have HO_14 := n3_
                                    have HB := n4_
                                    have HO186 := n5_
                                    clear n0_ n1_ n2_ n3_ n4_ n5_
                                    clear ho hb hg hat
                                    refine hK.out _ _ ?_
                                    clear hK K
                                    refine norm_ (a' := ?_) ?_ ?_
                                    rotate_left
                                    · show Act.put _ (some 150) _ = _
                                      simp only [Act.put, sT_, s0_, sS_, i64_w, i32_w]
                                      rfl
                                    refine pure_ (i := 16) (N := some 12) (v := ?_) (a' := ?_) #[true, true, true, true, true, true, true, true, true, true, true, true, true, true, true, true, true] rfl rfl (any_of HT_.out (by kernel_rfl)) (fun _ _ _ h => h) (Or.inl ⟨by rfl, ?_⟩) ?_ ?_
                                    rotate_left
                                    · intro w'
                                      go_simp
                                      with_reducible rfl
                                    rotate_left
                                    · simp only [Act.put, sT_, s0_, sS_, i64_w, i32_w]
                                      rfl
                                    refine done_ (done_of HT_.out (by kernel_rfl)) ?_
                                    have p187 : 0 ≤ ((rd x8_3 x15_4) : Int) := of_decide_eq_true (by first | (with_reducible assumption) | assumption)
                                    have q187 : (rd x8_3 x15_4) < (x13_4.length : Int) := of_decide_eq_true (by first | (with_reducible assumption) | assumption)
                                    obtain ⟨ad187, e187, hx187_0⟩ := Kd.at_int (Kd.R_reads' HO_13.out).2.2 (rd x8_3 x15_4) p187 q187
                                    obtain rfl : ad164 = ad187 := (by injection e187)
                                    replace p187 := eq_true p187
                                    replace q187 := eq_true q187
                                    have p60 : 0 ≤ ((rd x8_3 x15_4) : Int) := of_decide_eq_true (by first | (with_reducible assumption) | assumption)
                                    have q60 : ((rd x8_3 x15_4) : Int) < ((x13_4.length : Int) : Int) := of_decide_eq_true (by first | (with_reducible assumption) | assumption)
                                    obtain ⟨go60, co60, eo60, gb60, gl60, cl60, HG60⟩ := Kd.R_form HO_13.out (by omega)
                                    (first | cases eo60 | (injection eo60 with ea_ en_ ec_; (first | subst ea_ | (injection ea_ with ea_; subst ea_)); subst ec_; clear en_))
                                    have GB60 := Aside0.mk gb60
                                    have GG60 := Aside0.mk HG60
                                    clear gb60 gl60 HG60
                                    (first | simp only [add_plain] at hx164_0 | skip)
                                    (first | simp only [add_plain] at hx166_0 | skip)
                                    (first | simp only [add_plain] at hx177_0 | skip)
                                    (first | simp only [add_plain] at hx187_0 | skip)
                                    obtain ⟨hx60_0, hf60_0⟩ := Kd.R_celln 0 HO_13.out ((rd x8_3 x15_4) : Int) p60 q60
                                    replace p60 := eq_true p60
                                    replace q60 := eq_true q60
                                    have n_ := Aside0.mk (Kd.R_mono (ok' := (fun k_ => some k_ ≠ (.slice (some ad163) x8_3.length co43 : Value).ownBlock ∧ some k_ ≠ (.slice (some ⟨go53, 0, none⟩) x14_4.length co61 : Value).ownBlock)) HO_13.out (fun k_ hk => ⟨hk.1.1, hk.1.2⟩))
                                    clear HO_13
                                    have HO_13 := n_
                                    clear n_
                                    obtain ⟨hy69_, hz69_⟩ := Kd.R_celln 0 HO_13.out ((rd x8_3 x15_4) : Int) (of_decide_eq_true (by first | (with_reducible assumption) | assumption)) (of_decide_eq_true (by first | (with_reducible assumption) | assumption))
                                    have HP69 := Kd.R_putg HO_13.out ((rd x8_3 x15_4) : Int) (wrap64 ((rd x13_4 (rd x8_3 x15_4)) + 1))
                                    try go_wp2_with (first | ((with_reducible refine gate_store (t := 3) (p := 156) rfl ?_); refine store_event (t := 3) (p := 156) (v := ?vo_w70) (w1 := (w68.setCell ⟨go60, ((rd x8_3 x15_4) : Int).toNat, none⟩ (.int .i64 (wrap64 ((rd x13_4 (rd x8_3 x15_4)) + 1))))) ?hg ?ho ?hn ?hr ?_; (case ho => rfl); (case hg => rfl); (case hn => rfl); (case hr => first | (go_simp; done) | (go_simp; rfl)); intro w70 hw; have hg : w68.grownBy w70 (some go60) := (by rw [hw]; exact HP69.2); have hp_ : Kd.R (Kd.int .i64) 3 w70 w.heap.size (fun k_ => some k_ ≠ (.slice (some ad163) x8_3.length co43 : Value).ownBlock ∧ some k_ ≠ (.slice (some ⟨go53, 0, none⟩) x14_4.length co61 : Value).ownBlock) (.slice (some ⟨go60, 0, none⟩) x13_4.length co45) y188 := (by rw [hw, Ny188.out]; exact HP69.1); clear HP69; have n0_ := Aside0.mk (Kd.S_after (v := (.slice (some ⟨go60, 0, none⟩) x13_4.length co45)) (v1 := (.slice (some ⟨go60, 0, none⟩) x13_4.length co45)) (ok := (fun k_ => some k_ ≠ (.slice (some ad163) x8_3.length co43 : Value).ownBlock ∧ some k_ ≠ (.slice (some ⟨go53, 0, none⟩) x14_4.length co61 : Value).ownBlock ∧ some k_ ≠ (v185 : Value).ownBlock)) (by (with_reducible repeat (first | apply Kd.S_alloc | apply Kd.S_drewN | apply Kd.S_drew)); exact Kd.S_mono HO_7.out (fun _ hk => ⟨⟨hk.1.1, ⟨hk.1.2.2.1, hk.2⟩⟩, hk.1.2.1⟩)) hg (.inl rfl)); have n1_ := Aside0.mk (Kd.R_after (v := (.slice (some ⟨go60, 0, none⟩) x13_4.length co45)) (v1 := (.slice (some ⟨go60, 0, none⟩) x13_4.length co45)) (ok := (fun k_ => some k_ ≠ (.slice (some ⟨go53, 0, none⟩) x14_4.length co61 : Value).ownBlock)) (by (with_reducible repeat (first | apply Kd.R_alloc | apply Kd.R_drewN | apply Kd.R_drew)); exact Kd.R_mono HO_8.out (fun _ hk => ⟨hk.1.2, hk.1.1⟩)) hg (.inl rfl)); have n2_ := Aside0.mk (hp_); have n3_ := Aside0.mk (Kd.R_after (v := (.slice (some ⟨go60, 0, none⟩) x13_4.length co45)) (v1 := (.slice (some ⟨go60, 0, none⟩) x13_4.length co45)) (ok := (fun k_ => some k_ ≠ (.slice (some ad163) x8_3.length co43 : Value).ownBlock)) (by (with_reducible repeat (first | apply Kd.R_alloc | apply Kd.R_drewN | apply Kd.R_drew)); exact Kd.R_mono HO_14.out (fun _ hk => ⟨hk.1.1, hk.1.2⟩)) hg (.inl rfl)); have n4_ := Aside0.mk (Kd.S_after (v := (.slice (some ⟨go60, 0, none⟩) x13_4.length co45)) (v1 := (.slice (some ⟨go60, 0, none⟩) x13_4.length co45)) (ok := (fun k_ => some k_ ≠ (v139 : Value).ownBlock ∧ some k_ ≠ (.slice (some ad163) x8_3.length co43 : Value).ownBlock ∧ some k_ ≠ (.slice (some ⟨go53, 0, none⟩) x14_4.length co61 : Value).ownBlock)) (by (with_reducible repeat (first | apply Kd.S_alloc | apply Kd.S_drewN | apply Kd.S_drew)); exact Kd.S_mono HO186.out (fun _ hk => ⟨⟨hk.1, ⟨hk.2.1, hk.2.2.2⟩⟩, hk.2.2.1⟩)) hg (.inl rfl)); have n5_ := Aside0.mk ((by rw [hw]; exact below_set (HB.out) GB60.out : Below w.heap.size w w70)); clear HO_7; clear HO_8; clear HO_13; clear HO_14; clear HO186; clear HB; have HO_7 := n0_; have HO_8 := n1_; have HO_13 := n2_; have HO_14 := n3_; have HO186 := n4_; have HB := n5_; clear n0_ n1_ n2_ n3_ n4_ n5_; clear hg hw hp_))
                                    go_roundg k5
                                    case measure => have := HJ3.out; have := HK2.out; have := HK3.out; have := HK4.out; have := HK5.out; omega
                                    case rel => exact ⟨(y184), (y188), (y172), (wrap64 (x15_4 + 1)), (by first | rfl | (simp; done) | (simp [*]; done)), H', ⟨by have := HJ3.out; have := HK2.out; have := HK3.out; have := HK4.out; have := HK5.out; omega⟩, ⟨by (with_reducible repeat (first | apply Kd.S_alloc | apply Kd.S_drewN | apply Kd.S_drew)); exact Kd.S_mono HO_7.out (fun _ hk => ⟨hk.1.1, ⟨hk.1.2.2, ⟨hk.2, hk.1.2.1⟩⟩⟩)⟩, ⟨by (with_reducible repeat (first | apply Kd.R_alloc | apply Kd.R_drewN | apply Kd.R_drew)); exact Kd.R_mono HO_8.out (fun _ hk => ⟨hk.2, hk.1⟩)⟩, ⟨by (with_reducible repeat (first | apply Kd.S_alloc | apply Kd.S_drewN | apply Kd.S_drew)); exact Kd.S_mono HO186.out (fun _ hk => ⟨hk.1.1, ⟨hk.1.2.1, ⟨hk.2, hk.1.2.2⟩⟩⟩)⟩, ⟨by (with_reducible repeat (first | apply Kd.R_alloc | apply Kd.R_drewN | apply Kd.R_drew)); exact HO_13.out⟩, ⟨by (with_reducible repeat (first | apply Kd.R_alloc | apply Kd.R_drewN | apply Kd.R_drew)); exact HO_14.out⟩, ⟨by repeat (first | (with_reducible first | exact HB.out | apply below_alloc | apply pw_below_drewN | apply below_drew1) | exact HB.out)⟩⟩
                                  · rw [if_neg c52] at H
                                    have c52b0 : decide ((rd x14_4 (rd x8_3 x15_4)) < x17_5) = false := decide_eq_false c52
                                    clear c52
                                    by_cases c71 : (rd x8_3 x15_4) < (x13_4.length : Int)
                                    case neg => rw [if_neg c71] at H; exact absurd H (by simp)
                                    rw [if_pos c71] at H
                                    have c71b0 : decide ((rd x8_3 x15_4) < (x13_4.length : Int)) = true := decide_eq_true c71
                                    clear c71
                                    by_cases c72 : 0 ≤ (rd x13_4 (rd x8_3 x15_4))
                                    case neg => rw [if_neg c72] at H; exact absurd H (by simp)
                                    rw [if_pos c72] at H
                                    have c72b0 : decide (0 ≤ (rd x13_4 (rd x8_3 x15_4))) = true := decide_eq_true c72
                                    clear c72
                                    by_cases c73 : (rd x13_4 (rd x8_3 x15_4)) < ((rd_L10 l1 (rd x8_3 x15_4)).length : Int)
                                    case neg => rw [if_neg c73] at H; exact absurd H (by simp)
                                    rw [if_pos c73] at H
                                    have c73b0 : decide ((rd x13_4 (rd x8_3 x15_4)) < ((rd_L10 l1 (rd x8_3 x15_4)).length : Int)) = true := decide_eq_true c73
                                    clear c73
                                    replace H := Option.bind_eq_some_iff.mp H
                                    obtain ⟨⟨t192, t193, t196⟩, A740, H⟩ := H
                                    replace H : (if x12_4.length < 2513169434916 then (spec_Ends.l3 k5 l0 l1 y138 x8_3 (x12_4 ++ [(⟨(rd x8_3 x15_4), (⟨t192, t193, t196⟩ : S54), (-1)⟩ : S56)]) (x13_4.set ((rd x8_3 x15_4) : Int).toNat (wrap64 ((rd x13_4 (rd x8_3 x15_4)) + 1))) x14_4 (wrap64 (x15_4 + 1))) else (none)) = some r := H
                                    have A74 := Aside0.mk A740
                                    clear A740
                                    by_cases c75 : x12_4.length < 2513169434916
                                    case neg => rw [if_neg c75] at H; exact absurd H (by simp)
                                    rw [if_pos c75] at H
                                    have LMc75 := Aside0.mk c75
                                    clear c75
                                    obtain ⟨y197, hy197⟩ : ∃ y_ : List (S56), y_ = (x12_4 ++ [(⟨(rd x8_3 x15_4), (⟨t192, t193, t196⟩ : S54), (-1)⟩ : S56)]) := ⟨_, rfl⟩
                                    replace H : (spec_Ends.l3 k5 l0 l1 y138 x8_3 y197 (x13_4.set ((rd x8_3 x15_4) : Int).toNat (wrap64 ((rd x13_4 (rd x8_3 x15_4)) + 1))) x14_4 (wrap64 (x15_4 + 1))) = some r := by first | (rw [hy197]; with_reducible exact H) | (have H2_ := (Option.bind_some _ _).symm.trans H; rw [hy197]; with_reducible exact H2_) | (have H2_ := (Option.bind_some _ _).symm.trans H; with_reducible exact H2_) | with_reducible exact H | (rw [hy197]; exact H) | exact H
                                    have Ny197 := Aside0.mk hy197
                                    clear hy197
                                    obtain ⟨y201, hy201⟩ : ∃ y_ : List Int, y_ = (x13_4.set ((rd x8_3 x15_4) : Int).toNat (wrap64 ((rd x13_4 (rd x8_3 x15_4)) + 1))) := ⟨_, rfl⟩
                                    replace H : (spec_Ends.l3 k5 l0 l1 y138 x8_3 y197 y201 x14_4 (wrap64 (x15_4 + 1))) = some r := by first | (rw [hy201]; with_reducible exact H) | (have H2_ := (Option.bind_some _ _).symm.trans H; rw [hy201]; with_reducible exact H2_) | (have H2_ := (Option.bind_some _ _).symm.trans H; with_reducible exact H2_) | with_reducible exact H | (rw [hy201]; exact H) | exact H
                                    have Ny201 := Aside0.mk hy201
                                    clear hy201
                                    have H' := Aside0.mk H
                                    clear H
                                    have p167 : 0 ≤ ((rd x8_3 x15_4) : Int) := of_decide_eq_true (by first | (with_reducible assumption) | assumption)
                                    have q167 : (rd x8_3 x15_4) < (l1.length : Int) := of_decide_eq_true (by first | (with_reducible assumption) | assumption)
                                    obtain ⟨ad167, A167_0, c167_0, e167, hx167_0, hl167_0, hi167_0⟩ := at_L10 HR1.out (rd x8_3 x15_4) p167 q167
                                    obtain rfl : ad165 = ad167 := (by injection e167)
                                    replace hx167_0 := (HB.out.cell (World.block_lt_of_cell? w _ hx167_0)).trans hx167_0
                                    have HR167_0 := Aside0.mk hi167_0
                                    have HC167_0 := Aside0.mk hl167_0
                                    clear hi167_0 hl167_0
                                    replace p167 := eq_true p167
                                    replace q167 := eq_true q167
                                    obtain ⟨Ao77, co77, eo77⟩ := Kd.R_slice HO_14.out
                                    subst eo77
                                    have p171 : 0 ≤ ((rd x8_3 x15_4) : Int) := of_decide_eq_true (by first | (with_reducible assumption) | assumption)
                                    have q171 : (rd x8_3 x15_4) < (x14_4.length : Int) := of_decide_eq_true (by first | (with_reducible assumption) | assumption)
                                    obtain ⟨ad171, e171, hx171_0⟩ := Kd.at_int (Kd.R_reads' HO_14.out).2.2 (rd x8_3 x15_4) p171 q171
                                    cases e171
                                    replace p171 := eq_true p171
                                    replace q171 := eq_true q171
                                    try go_wp2
                                    have n0_ := Aside0.mk (Kd.S_drew HO_7.out)
                                    have n1_ := Aside0.mk (Kd.R_drew HO_8.out)
                                    have n2_ := Aside0.mk (Kd.S_drew HO_12.out)
                                    have n3_ := Aside0.mk (Kd.R_drew HO_13.out)
                                    have n4_ := Aside0.mk (Kd.R_drew HO_14.out)
                                    have n5_ := Aside0.mk (below_drew1 HB.out)
                                    clear HO_7
                                    clear HO_8
                                    clear HO_12
                                    clear HO_13
                                    clear HO_14
                                    clear HB
                                    have HO_7 := n0_
                                    have HO_8 := n1_
                                    have HO_12 := n2_
                                    have HO_13 := n3_
                                    have HO_14 := n4_
                                    have HB := n5_
                                    clear n0_ n1_ n2_ n3_ n4_ n5_
                                    have p189 : 0 ≤ ((rd x8_3 x15_4) : Int) := of_decide_eq_true (by first | (with_reducible assumption) | assumption)
                                    have q189 : (rd x8_3 x15_4) < (l1.length : Int) := of_decide_eq_true (by first | (with_reducible assumption) | assumption)
                                    obtain ⟨ad189, A189_0, c189_0, e189, hx189_0, hl189_0, hi189_0⟩ := at_L10 HR1.out (rd x8_3 x15_4) p189 q189
                                    have hw189_0 := hx189_0
                                    obtain rfl : ad165 = ad189 := (by injection e189)
                                    replace hx189_0 := (HB.out.cell (World.block_lt_of_cell? w _ hx189_0)).trans hx189_0
                                    have HR189_0 := Aside0.mk hi189_0
                                    have HC189_0 := Aside0.mk hl189_0
                                    clear hi189_0 hl189_0
                                    replace p189 := eq_true p189
                                    replace q189 := eq_true q189
                                    have p190 : 0 ≤ ((rd x8_3 x15_4) : Int) := of_decide_eq_true (by first | (with_reducible assumption) | assumption)
                                    have q190 : (rd x8_3 x15_4) < (x13_4.length : Int) := of_decide_eq_true (by first | (with_reducible assumption) | assumption)
                                    obtain ⟨ad190, e190, hx190_0⟩ := Kd.at_int (Kd.R_reads' HO_13.out).2.2 (rd x8_3 x15_4) p190 q190
                                    obtain rfl : ad164 = ad190 := (by injection e190)
                                    replace p190 := eq_true p190
                                    replace q190 := eq_true q190
                                    have p191 : 0 ≤ ((rd x13_4 (rd x8_3 x15_4)) : Int) := of_decide_eq_true (by first | (with_reducible assumption) | assumption)
                                    have q191 : (rd x13_4 (rd x8_3 x15_4)) < ((rd_L10 l1 (rd x8_3 x15_4)).length : Int) := of_decide_eq_true (by first | (with_reducible assumption) | assumption)
                                    obtain ⟨ad191, A191_1, c191_1, e191, hx191_0, hx191_1, hx191_2, hl191_1, hi191_1⟩ := at_T54 HR189_0.out (rd x13_4 (rd x8_3 x15_4)) p191 q191
                                    have hw191_2 := hx191_2
                                    have hw191_1 := hx191_1
                                    have hw191_0 := hx191_0
                                    cases e191
                                    replace hx191_0 := (HB.out.cell (World.block_lt_of_cell? w _ hx191_0)).trans hx191_0
                                    replace hx191_1 := (HB.out.cell (World.block_lt_of_cell? w _ hx191_1)).trans hx191_1
                                    replace hx191_2 := (HB.out.cell (World.block_lt_of_cell? w _ hx191_2)).trans hx191_2
                                    have HR191_1 := Aside0.mk hi191_1
                                    have HC191_1 := Aside0.mk hl191_1
                                    clear hi191_1 hl191_1
                                    replace p191 := eq_true p191
                                    replace q191 := eq_true q191
                                    refine start_ (n := 17) (S := fun w' => w'.cell? (ad165.add ((rd x8_3 x15_4)).toNat) = some (.slice (some ad191) (rd_L10 l1 (rd x8_3 x15_4)).length c189_0) ∧ w'.cell? (ad164.add ((rd x8_3 x15_4)).toNat) = some (.int .i64 (rd x13_4 (rd x8_3 x15_4))) ∧ w'.cell? (ad191.add (((rd x13_4 (rd x8_3 x15_4))).toNat * 3)) = some (.int .i64 ((rd_T54 (rd_L10 l1 (rd x8_3 x15_4)) (rd x13_4 (rd x8_3 x15_4))).f0)) ∧ w'.cell? ⟨(ad191.add (((rd x13_4 (rd x8_3 x15_4))).toNat * 3)).block, (ad191.add (((rd x13_4 (rd x8_3 x15_4))).toNat * 3)).off + 1, none⟩ = some (.slice A191_1 ((rd_T54 (rd_L10 l1 (rd x8_3 x15_4)) (rd x13_4 (rd x8_3 x15_4))).f1).length c191_1) ∧ w'.cell? ⟨(ad191.add (((rd x13_4 (rd x8_3 x15_4))).toNat * 3)).block, (ad191.add (((rd x13_4 (rd x8_3 x15_4))).toNat * 3)).off + 2, none⟩ = some (.bool ((rd_T54 (rd_L10 l1 (rd x8_3 x15_4)) (rd x13_4 (rd x8_3 x15_4))).f2))) (ds := [14, 15]) #[false, false, false, false, false, false, false, false, false, false, false, false, false, false, false, false, false] (by kernel_rfl) rfl rfl ⟨((HB.out.cell (World.block_lt_of_cell? w _ hw189_0)).trans hw189_0), hx190_0, ((HB.out.cell (World.block_lt_of_cell? w _ hw191_0)).trans hw191_0), ((HB.out.cell (World.block_lt_of_cell? w _ hw191_1)).trans hw191_1), ((HB.out.cell (World.block_lt_of_cell? w _ hw191_2)).trans hw191_2)⟩ (fun hHeld => ?_); refine with_tabW spec_Ends.tab33 spec_Ends.bits33 (fun HT_ HW_ => ?_)
                                    generalize wr.drew = w78 at HO_7 HO_8 HO_12 HO_13 HO_14 HB HR189_0 HR191_1 hx189_0 hx190_0 hx191_0 hx191_1 hx191_2 hHeld ⊢
                                    refine pure_ (i := 0) (N := some 135) (v := ?_) (a' := ?_) #[true, false, false, false, false, false, false, false, false, false, false, false, false, false, false, false, false] rfl rfl (any_of HT_.out (by kernel_rfl)) (fun _ _ _ h => h) (Or.inl ⟨by rfl, ?_⟩) ?_ ?_
                                    rotate_left
                                    · intro w'
                                      go_simp
                                      with_reducible rfl
                                    rotate_left
                                    · simp only [Act.put, sT_, s0_, sS_, i64_w, i32_w]
                                      rfl
                                    refine pure_ (i := 1) (N := some 136) (v := ?_) (a' := ?_) #[true, true, false, false, false, false, false, false, false, false, false, false, false, false, false, false, false] rfl rfl (any_of HT_.out (by kernel_rfl)) (fun _ _ _ h => h) (Or.inl ⟨by rfl, ?_⟩) ?_ ?_
                                    rotate_left
                                    · intro w'
                                      go_simp
                                      with_reducible rfl
                                    rotate_left
                                    · simp only [Act.put, sT_, s0_, sS_, i64_w, i32_w]
                                      rfl
                                    refine pure_ (i := 2) (N := some 137) (v := ?_) (a' := ?_) #[true, true, true, false, false, false, false, false, false, false, false, false, false, false, false, false, false] rfl rfl (any_of HT_.out (by kernel_rfl)) (fun _ _ _ h => h) (Or.inl ⟨by rfl, ?_⟩) ?_ ?_
                                    rotate_left
                                    · intro w'
                                      go_simp
                                      with_reducible rfl
                                    rotate_left
                                    · simp only [Act.put, sT_, s0_, sS_, i64_w, i32_w]
                                      rfl
                                    refine pure_ (i := 3) (N := some 138) (v := ?_) (a' := ?_) #[true, true, true, true, false, false, false, false, false, false, false, false, false, false, false, false, false] rfl rfl (any_of HT_.out (by kernel_rfl)) (fun _ _ _ h => h) (Or.inl ⟨by rfl, ?_⟩) ?_ ?_
                                    rotate_left
                                    · intro w'
                                      go_simp
                                      with_reducible rfl
                                    rotate_left
                                    · simp only [Act.put, sT_, s0_, sS_, i64_w, i32_w]
                                      rfl
                                    refine pure_ (i := 4) (N := some 139) (v := ?_) (a' := ?_) #[true, true, true, true, true, false, false, false, false, false, false, false, false, false, false, false, false] rfl rfl (any_of HT_.out (by kernel_rfl)) (fun _ _ _ h => h) (Or.inl ⟨by rfl, ?_⟩) ?_ ?_
                                    rotate_left
                                    · intro w'
                                      go_simp
                                      with_reducible rfl
                                    rotate_left
                                    · simp only [Act.put, sT_, s0_, sS_, i64_w, i32_w]
                                      rfl
                                    refine pure_ (i := 6) (N := some 141) (v := ?_) (a' := ?_) #[true, true, true, true, true, false, true, false, false, false, false, false, false, false, false, false, false] rfl rfl (any_of HT_.out (by kernel_rfl)) (fun _ _ _ h => h) (Or.inl ⟨by rfl, ?_⟩) ?_ ?_
                                    rotate_left
                                    · intro w'
                                      go_simp
                                      with_reducible rfl
                                    rotate_left
                                    · simp only [Act.put, sT_, s0_, sS_, i64_w, i32_w]
                                      rfl
                                    refine pure_ (i := 7) (N := some 142) (v := ?_) (a' := ?_) #[true, true, true, true, true, false, true, true, false, false, false, false, false, false, false, false, false] rfl rfl (any_of HT_.out (by kernel_rfl)) (fun _ _ _ h => h) (Or.inl ⟨by rfl, ?_⟩) ?_ ?_
                                    rotate_left
                                    · intro w'
                                      go_simp
                                      with_reducible rfl
                                    rotate_left
                                    · simp only [Act.put, sT_, s0_, sS_, i64_w, i32_w]
                                      rfl
                                    refine pure_ (i := 8) (N := some 143) (v := ?_) (a' := ?_) #[true, true, true, true, true, false, true, true, true, false, false, false, false, false, false, false, false] rfl rfl (any_of HT_.out (by kernel_rfl)) (fun _ _ _ h => h) (Or.inl ⟨by rfl, ?_⟩) ?_ ?_
                                    rotate_left
                                    · intro w'
                                      go_simp
                                      with_reducible rfl
                                    rotate_left
                                    · simp only [Act.put, sT_, s0_, sS_, i64_w, i32_w]
                                      rfl
                                    refine take_ (i := 5) (N := some 140) (v := ?_) (a' := ?_) #[true, true, true, true, true, true, true, true, true, false, false, false, false, false, false, false, false] rfl rfl (take_ofW HT_.out HW_.out (by kernel_rfl)) (fun _ _ _ h => h) (Or.inl ⟨by rfl, ?_⟩) hHeld ?_ ?_
                                    rotate_left
                                    · rintro w' ⟨s0, s1, s2, s3, s4⟩
                                      go_simp
                                      with_reducible rfl
                                    rotate_left
                                    · simp only [Act.put, sT_, s0_, sS_, i64_w, i32_w]
                                      rfl
                                    refine take_ (i := 9) (N := some 144) (v := ?_) (a' := ?_) #[true, true, true, true, true, true, true, true, true, true, false, false, false, false, false, false, false] rfl rfl (take_ofW HT_.out HW_.out (by kernel_rfl)) (fun _ _ _ h => h) (Or.inl ⟨by rfl, ?_⟩) hHeld ?_ ?_
                                    rotate_left
                                    · rintro w' ⟨s0, s1, s2, s3, s4⟩
                                      go_simp
                                      with_reducible rfl
                                    rotate_left
                                    · simp only [Act.put, sT_, s0_, sS_, i64_w, i32_w]
                                      rfl
                                    refine pure_ (i := 10) (N := some 145) (v := ?_) (a' := ?_) #[true, true, true, true, true, true, true, true, true, true, true, false, false, false, false, false, false] rfl rfl (any_of HT_.out (by kernel_rfl)) (fun _ _ _ h => h) (Or.inl ⟨by rfl, ?_⟩) ?_ ?_
                                    rotate_left
                                    · intro w'
                                      go_simp
                                      with_reducible rfl
                                    rotate_left
                                    · simp only [Act.put, sT_, s0_, sS_, i64_w, i32_w]
                                      rfl
                                    refine take_ (i := 11) (N := some 146) (v := ?_) (a' := ?_) #[true, true, true, true, true, true, true, true, true, true, true, true, false, false, false, false, false] rfl rfl (take_ofW HT_.out HW_.out (by kernel_rfl)) (fun _ _ _ h => h) (Or.inl ⟨by rfl, ?_⟩) hHeld ?_ ?_
                                    rotate_left
                                    · rintro w' ⟨s0, s1, s2, s3, s4⟩
                                      go_simp
                                      with_reducible rfl
                                    rotate_left
                                    · simp only [Act.put, sT_, s0_, sS_, i64_w, i32_w]
                                      rfl
                                    refine one_ (i := 12) (N := some 147) #[true, true, true, true, true, true, true, true, true, true, true, true, true, false, false, false, false] rfl rfl (one_of HT_.out (by kernel_rfl)) (by decide) (fun K hK => ?_)
                                    refine goes_ Try.func25 (by kernel_rfl) rfl #[.agg #[.int .i64 ((rd_T54 (rd_L10 l1 (rd x8_3 x15_4)) (rd x13_4 (rd x8_3 x15_4))).f0), .slice A191_1 ((rd_T54 (rd_L10 l1 (rd x8_3 x15_4)) (rd x13_4 (rd x8_3 x15_4))).f1).length c191_1, .bool ((rd_T54 (rd_L10 l1 (rd x8_3 x15_4)) (rd x13_4 (rd x8_3 x15_4))).f2)]] (by rfl) rfl rfl (by (try simp only [List.map_toArray, List.map_cons, List.map_nil]); first | done | rfl | (simp only [List.length_drop, List.length_take]; rfl)) ?_
                                    with_reducible refine (spec_l16Arrival.calls ((rd_T54 (rd_L10 l1 (rd x8_3 x15_4)) (rd x13_4 (rd x8_3 x15_4))).f0) _ _ ((rd_T54 (rd_L10 l1 (rd x8_3 x15_4)) (rd x13_4 (rd x8_3 x15_4))).f1) ((rd_T54 (rd_L10 l1 (rd x8_3 x15_4)) (rd x13_4 (rd x8_3 x15_4))).f2) t192 t193 t196 _ ?side1 ?side2 A74.out).mono ?_
                                    (case side1 => repeat (first | exact (Kd.C_below HR191_1.out HB.out) | (with_reducible refine Kd.C_alloc ?_ _) | (with_reducible refine Kd.C_drewN ?_ _) | (with_reducible refine Kd.C_drew ?_)))
                                    (case side2 => exact HC191_1.out)
                                    rintro e w79 ⟨v194, rfl, ho0, hb⟩
                                    have HS1_ := (hb.cell (World.block_lt_of_cell? _ _ (hHeld.2.1))).trans (hHeld.2.1)
                                    refine ⟨_, rfl, ?_⟩
                                    have n0_ := Aside0.mk (Kd.S_elder' (by (with_reducible repeat (first | apply Kd.S_alloc | apply Kd.S_drewN | apply Kd.S_drew)); exact HO_7.out) (Kd.R_base ho0) hb)
                                    have n1_ := Aside0.mk (Kd.R_elder' (by (with_reducible repeat (first | apply Kd.R_alloc | apply Kd.R_drewN | apply Kd.R_drew)); exact HO_8.out) (Kd.R_base ho0) hb)
                                    have n2_ := Aside0.mk (Kd.S_elder' (by (with_reducible repeat (first | apply Kd.S_alloc | apply Kd.S_drewN | apply Kd.S_drew)); exact HO_12.out) (Kd.R_base ho0) hb)
                                    have n3_ := Aside0.mk (Kd.R_elder' (by (with_reducible repeat (first | apply Kd.R_alloc | apply Kd.R_drewN | apply Kd.R_drew)); exact HO_13.out) (Kd.R_base ho0) hb)
                                    have n4_ := Aside0.mk (Kd.R_elder' (by (with_reducible repeat (first | apply Kd.R_alloc | apply Kd.R_drewN | apply Kd.R_drew)); exact HO_14.out) (Kd.R_base ho0) hb)
                                    have n5_ := Aside0.mk (Kd.R_lower (Kd.R_new' (Kd.R_new' (Kd.R_new' ho0 (Kd.R_lt (by (with_reducible repeat (first | apply Kd.R_alloc | apply Kd.R_drewN | apply Kd.R_drew)); exact HO_8.out))) (Kd.R_lt (by (with_reducible repeat (first | apply Kd.R_alloc | apply Kd.R_drewN | apply Kd.R_drew)); exact HO_13.out))) (Kd.R_lt (by (with_reducible repeat (first | apply Kd.R_alloc | apply Kd.R_drewN | apply Kd.R_drew)); exact HO_14.out))) (below_size (by repeat (first | (with_reducible first | exact HB.out | apply below_alloc | apply pw_below_drewN | apply below_drew1) | exact HB.out))))
                                    have n6_ := Aside0.mk (below_step (by repeat (first | (with_reducible first | exact HB.out | apply below_alloc | apply pw_below_drewN | apply below_drew1) | exact HB.out)) hb)
                                    clear HO_7
                                    clear HO_8
                                    clear HO_12
                                    clear HO_13
                                    clear HO_14
                                    clear HB
                                    have HO_7 := n0_
                                    have HO_8 := n1_
                                    have HO_12 := n2_
                                    have HO_13 := n3_
                                    have HO_14 := n4_
                                    have HO195 := n5_
                                    have HB := n6_
                                    clear n0_ n1_ n2_ n3_ n4_ n5_ n6_
                                    (try clear hb)
                                    (try clear hb2)
                                    (try clear hk)
                                    (try clear hi)
                                    (try clear ho0)
                                    obtain ⟨Ao80, co80, eo80⟩ := Kd.R_slice HO195.out
                                    (first | subst eo80 | (injection eo80 with f1_ f2_ f3_; have f4_ := f1_.symm; have f5_ := f3_.symm; clear f1_ f2_ f3_; subst f4_; subst f5_))
                                    refine hK.out _ _ ⟨((HB.out.cell (World.block_lt_of_cell? w _ hw189_0)).trans hw189_0), HS1_, ((HB.out.cell (World.block_lt_of_cell? w _ hw191_0)).trans hw191_0), ((HB.out.cell (World.block_lt_of_cell? w _ hw191_1)).trans hw191_1), ((HB.out.cell (World.block_lt_of_cell? w _ hw191_2)).trans hw191_2)⟩ (fun hHeld => ?_)
                                    clear hK K
                                    refine norm_ (a' := ?_) ?_ ?_
                                    rotate_left
                                    · show Act.put _ (some 147) _ = _
                                      simp only [Act.put, sT_, s0_, sS_, i64_w, i32_w]
                                      rfl
                                    refine pure_ (i := 13) (N := some 148) (v := ?_) (a' := ?_) #[true, true, true, true, true, true, true, true, true, true, true, true, true, true, false, false, false] rfl rfl (any_of HT_.out (by kernel_rfl)) (fun _ _ _ h => h) (Or.inl ⟨by rfl, ?_⟩) ?_ ?_
                                    rotate_left
                                    · intro w'
                                      go_simp
                                      with_reducible rfl
                                    rotate_left
                                    · simp only [Act.put, sT_, s0_, sS_, i64_w, i32_w]
                                      rfl
                                    refine last_ (i := 14) (N := some 149) #[true, true, true, true, true, true, true, true, true, true, true, true, true, true, true, false, false] rfl rfl (one_of HT_.out (by kernel_rfl)) (by decide) (fun K hK => ?_)
                                    refine value_ (w1 := ?_) (v := ?_) (by rfl) rfl ?_ ?_
                                    rotate_left 2
                                    · go_simp
                                      constructor
                                      · rfl
                                      · rfl
                                    refine hK.out _ _ ?_
                                    clear hK K
                                    refine norm_ (a' := ?_) ?_ ?_
                                    rotate_left
                                    · show Act.put _ (some 149) _ = _
                                      simp only [Act.put, sT_, s0_, sS_, i64_w, i32_w]
                                      rfl
                                    refine last_ (i := 15) (N := some 150) #[true, true, true, true, true, true, true, true, true, true, true, true, true, true, true, true, false] rfl rfl (one_of HT_.out (by kernel_rfl)) (by decide) (fun K hK => ?_)
                                    refine Kd.S_append_step k56 (w0 := w) w.heap.size (by rfl) (.tmp 135) (.tmp 149) 27 56 (.agg #[(.int .i64 0), (.int .i64 0), (.slice none 0 0), (.bool false), (.int .i64 0)]) 56 rfl Try.underlying27 info56 rfl (by decide) (by omega) u12 x12_4 (⟨(rd x8_3 x15_4), (⟨t192, t193, t196⟩ : S54), (-1)⟩ : S56) [.int .i64 (rd x8_3 x15_4), .int .i64 t192, .slice Ao80 t193.length co80, .bool t196, .int .i64 (-1)] (fun k_ => some k_ ≠ (v139 : Value).ownBlock ∧ some k_ ≠ (.slice (some ad163) x8_3.length co43 : Value).ownBlock ∧ some k_ ≠ (.slice (some ad164) x13_4.length co45 : Value).ownBlock ∧ some k_ ≠ (.slice (some ad171) x14_4.length co77 : Value).ownBlock) (fun k_ => some k_ = (.slice Ao80 t193.length co80 : Value).ownBlock) rfl rfl ?aP (fun k_ hk_ => ((Kd.R_mono (ok' := fun k_ => ((fun k_ => some k_ ≠ (v139 : Value).ownBlock ∧ some k_ ≠ (.slice (some ad163) x8_3.length co43 : Value).ownBlock ∧ some k_ ≠ (.slice (some ad164) x13_4.length co45 : Value).ownBlock ∧ some k_ ≠ (.slice (some ad171) x14_4.length co77 : Value).ownBlock)) k_ ∧ some k_ ≠ (u12 : Value).ownBlock) (Kd.R_apart' (Kd.R_apart' (HO195.out) (Kd.S_typed HO_7.out) (by decide)) (Kd.S_typed HO_12.out) (by decide)) (fun k_ hk => ⟨⟨hk.1.2, ⟨hk.1.1.1.1.2, ⟨hk.1.1.1.2, hk.1.1.2⟩⟩⟩, hk.2⟩))).1 k_ hk_.symm) ?aF ?aO ?aB ?aS ?aL ?_
                                    (case aP => exact k56_mkM _ _ _ (⟨(rd x8_3 x15_4), (⟨t192, t193, t196⟩ : S54), (-1)⟩ : S56) (Kd.R_mono (Kd.R_tight rfl (Kd.R_mono (ok' := fun k_ => ((fun k_ => some k_ ≠ (v139 : Value).ownBlock ∧ some k_ ≠ (.slice (some ad163) x8_3.length co43 : Value).ownBlock ∧ some k_ ≠ (.slice (some ad164) x13_4.length co45 : Value).ownBlock ∧ some k_ ≠ (.slice (some ad171) x14_4.length co77 : Value).ownBlock)) k_ ∧ some k_ ≠ (u12 : Value).ownBlock) (Kd.R_apart' (Kd.R_apart' (HO195.out) (Kd.S_typed HO_7.out) (by decide)) (Kd.S_typed HO_12.out) (by decide)) (fun k_ hk => ⟨⟨hk.1.2, ⟨hk.1.1.1.1.2, ⟨hk.1.1.1.2, hk.1.1.2⟩⟩⟩, hk.2⟩))) (fun _ h_ => h_)))
                                    (case aB => exact (by repeat (first | (with_reducible first | exact HB.out | apply below_alloc | apply pw_below_drewN | apply below_drew1) | exact HB.out)))
                                    (case aF => exact (fun k_ hk => ⟨Kd.fresh' (Kd.S_lt (by (with_reducible repeat (first | apply Kd.S_alloc | apply Kd.S_drewN | apply Kd.S_drew)); exact HO_7.out)) k_ hk, Kd.fresh' (Kd.R_lt (by (with_reducible repeat (first | apply Kd.R_alloc | apply Kd.R_drewN | apply Kd.R_drew)); exact HO_8.out)) k_ hk, Kd.fresh' (Kd.R_lt (by (with_reducible repeat (first | apply Kd.R_alloc | apply Kd.R_drewN | apply Kd.R_drew)); exact HO_13.out)) k_ hk, Kd.fresh' (Kd.R_lt (by (with_reducible repeat (first | apply Kd.R_alloc | apply Kd.R_drewN | apply Kd.R_drew)); exact HO_14.out)) k_ hk⟩))
                                    (case aO => exact (by (with_reducible repeat (first | apply Kd.S_alloc | apply Kd.S_drewN | apply Kd.S_drew)); exact Kd.S_mono HO_12.out (fun k_ hk => ⟨⟨hk.1.1, ⟨hk.1.2.1, ⟨hk.1.2.2.1, hk.1.2.2.2⟩⟩⟩, fun e_ => hk.2 e_⟩)))
                                    (case aS => exact (below_size (by repeat (first | (with_reducible first | exact HB.out | apply below_alloc | apply pw_below_drewN | apply below_drew1) | exact HB.out))))
                                    (case aL => have := LMc75.out; omega)
                                    intro v198 w81 ho hb hg hat
                                    rw [← Ny197.out] at ho
                                    have n0_ := Aside0.mk (Kd.S_after (ok := (fun k_ => some k_ ≠ (.slice (some ad163) x8_3.length co43 : Value).ownBlock ∧ some k_ ≠ (.slice (some ad164) x13_4.length co45 : Value).ownBlock ∧ some k_ ≠ (.slice (some ad171) x14_4.length co77 : Value).ownBlock ∧ some k_ ≠ (.slice Ao80 t193.length co80 : Value).ownBlock)) (by (with_reducible repeat (first | apply Kd.S_alloc | apply Kd.S_drewN | apply Kd.S_drew)); exact Kd.S_mono HO_7.out (fun _ hk => ⟨⟨hk.1.1, ⟨hk.1.2.2.1, ⟨hk.1.2.2.2, hk.2⟩⟩⟩, hk.1.2.1⟩)) hg hat)
                                    have n1_ := Aside0.mk (Kd.R_over' (by (with_reducible repeat (first | apply Kd.R_alloc | apply Kd.R_drewN | apply Kd.R_drew)); exact HO_8.out) (Kd.S_typed (by (with_reducible repeat (first | apply Kd.S_alloc | apply Kd.S_drewN | apply Kd.S_drew)); exact HO_12.out)) (by decide) hg)
                                    have n2_ := Aside0.mk (Kd.R_over' (by (with_reducible repeat (first | apply Kd.R_alloc | apply Kd.R_drewN | apply Kd.R_drew)); exact HO_13.out) (Kd.S_typed (by (with_reducible repeat (first | apply Kd.S_alloc | apply Kd.S_drewN | apply Kd.S_drew)); exact HO_12.out)) (by decide) hg)
                                    have n3_ := Aside0.mk (Kd.R_over' (by (with_reducible repeat (first | apply Kd.R_alloc | apply Kd.R_drewN | apply Kd.R_drew)); exact HO_14.out) (Kd.S_typed (by (with_reducible repeat (first | apply Kd.S_alloc | apply Kd.S_drewN | apply Kd.S_drew)); exact HO_12.out)) (by decide) hg)
                                    have n4_ := Aside0.mk (hb)
                                    have n5_ := Aside0.mk (ho)
                                    clear HO_7
                                    clear HO_8
                                    clear HO_13
                                    clear HO_14
                                    clear HB
                                    clear HO_12
                                    clear HO195
                                    have HO_7 := n0_
                                    have HO_8 := n1_
                                    have HO_13 := n2_
                                    have HO_14 := n3_
                                    have HB := n4_
                                    have HO199 := n5_
                                    clear n0_ n1_ n2_ n3_ n4_ n5_
                                    clear ho hb hg hat
                                    refine hK.out _ _ ?_
                                    clear hK K
                                    refine norm_ (a' := ?_) ?_ ?_
                                    rotate_left
                                    · show Act.put _ (some 150) _ = _
                                      simp only [Act.put, sT_, s0_, sS_, i64_w, i32_w]
                                      rfl
                                    refine pure_ (i := 16) (N := some 12) (v := ?_) (a' := ?_) #[true, true, true, true, true, true, true, true, true, true, true, true, true, true, true, true, true] rfl rfl (any_of HT_.out (by kernel_rfl)) (fun _ _ _ h => h) (Or.inl ⟨by rfl, ?_⟩) ?_ ?_
                                    rotate_left
                                    · intro w'
                                      go_simp
                                      with_reducible rfl
                                    rotate_left
                                    · simp only [Act.put, sT_, s0_, sS_, i64_w, i32_w]
                                      rfl
                                    refine done_ (done_of HT_.out (by kernel_rfl)) ?_
                                    have p200 : 0 ≤ ((rd x8_3 x15_4) : Int) := of_decide_eq_true (by first | (with_reducible assumption) | assumption)
                                    have q200 : (rd x8_3 x15_4) < (x13_4.length : Int) := of_decide_eq_true (by first | (with_reducible assumption) | assumption)
                                    obtain ⟨ad200, e200, hx200_0⟩ := Kd.at_int (Kd.R_reads' HO_13.out).2.2 (rd x8_3 x15_4) p200 q200
                                    obtain rfl : ad164 = ad200 := (by injection e200)
                                    replace p200 := eq_true p200
                                    replace q200 := eq_true q200
                                    have p76 : 0 ≤ ((rd x8_3 x15_4) : Int) := of_decide_eq_true (by first | (with_reducible assumption) | assumption)
                                    have q76 : ((rd x8_3 x15_4) : Int) < ((x13_4.length : Int) : Int) := of_decide_eq_true (by first | (with_reducible assumption) | assumption)
                                    obtain ⟨go76, co76, eo76, gb76, gl76, cl76, HG76⟩ := Kd.R_form HO_13.out (by omega)
                                    (first | cases eo76 | (injection eo76 with ea_ en_ ec_; (first | subst ea_ | (injection ea_ with ea_; subst ea_)); subst ec_; clear en_))
                                    have GB76 := Aside0.mk gb76
                                    have GG76 := Aside0.mk HG76
                                    clear gb76 gl76 HG76
                                    (first | simp only [add_plain] at hx190_0 | skip)
                                    (first | simp only [add_plain] at hx200_0 | skip)
                                    obtain ⟨hx76_0, hf76_0⟩ := Kd.R_celln 0 HO_13.out ((rd x8_3 x15_4) : Int) p76 q76
                                    replace p76 := eq_true p76
                                    replace q76 := eq_true q76
                                    have n_ := Aside0.mk (Kd.R_mono (ok' := (fun k_ => some k_ ≠ (.slice (some ad163) x8_3.length co43 : Value).ownBlock ∧ some k_ ≠ (.slice (some ad171) x14_4.length co77 : Value).ownBlock)) HO_13.out (fun k_ hk => ⟨hk.1.1, hk.1.2⟩))
                                    clear HO_13
                                    have HO_13 := n_
                                    clear n_
                                    obtain ⟨hy82_, hz82_⟩ := Kd.R_celln 0 HO_13.out ((rd x8_3 x15_4) : Int) (of_decide_eq_true (by first | (with_reducible assumption) | assumption)) (of_decide_eq_true (by first | (with_reducible assumption) | assumption))
                                    have HP82 := Kd.R_putg HO_13.out ((rd x8_3 x15_4) : Int) (wrap64 ((rd x13_4 (rd x8_3 x15_4)) + 1))
                                    try go_wp2_with (first | ((with_reducible refine gate_store (t := 3) (p := 156) rfl ?_); refine store_event (t := 3) (p := 156) (v := ?vo_w83) (w1 := (w81.setCell ⟨go76, ((rd x8_3 x15_4) : Int).toNat, none⟩ (.int .i64 (wrap64 ((rd x13_4 (rd x8_3 x15_4)) + 1))))) ?hg ?ho ?hn ?hr ?_; (case ho => rfl); (case hg => rfl); (case hn => rfl); (case hr => first | (go_simp; done) | (go_simp; rfl)); intro w83 hw; have hg : w81.grownBy w83 (some go76) := (by rw [hw]; exact HP82.2); have hp_ : Kd.R (Kd.int .i64) 3 w83 w.heap.size (fun k_ => some k_ ≠ (.slice (some ad163) x8_3.length co43 : Value).ownBlock ∧ some k_ ≠ (.slice (some ad171) x14_4.length co77 : Value).ownBlock) (.slice (some ⟨go76, 0, none⟩) x13_4.length co45) y201 := (by rw [hw, Ny201.out]; exact HP82.1); clear HP82; have n0_ := Aside0.mk (Kd.S_after (v := (.slice (some ⟨go76, 0, none⟩) x13_4.length co45)) (v1 := (.slice (some ⟨go76, 0, none⟩) x13_4.length co45)) (ok := (fun k_ => some k_ ≠ (.slice (some ad163) x8_3.length co43 : Value).ownBlock ∧ some k_ ≠ (.slice (some ad171) x14_4.length co77 : Value).ownBlock ∧ some k_ ≠ (v198 : Value).ownBlock)) (by (with_reducible repeat (first | apply Kd.S_alloc | apply Kd.S_drewN | apply Kd.S_drew)); exact Kd.S_mono HO_7.out (fun _ hk => ⟨⟨hk.1.1, ⟨hk.1.2.2.1, hk.2⟩⟩, hk.1.2.1⟩)) hg (.inl rfl)); have n1_ := Aside0.mk (Kd.R_after (v := (.slice (some ⟨go76, 0, none⟩) x13_4.length co45)) (v1 := (.slice (some ⟨go76, 0, none⟩) x13_4.length co45)) (ok := (fun k_ => some k_ ≠ (.slice (some ad171) x14_4.length co77 : Value).ownBlock)) (by (with_reducible repeat (first | apply Kd.R_alloc | apply Kd.R_drewN | apply Kd.R_drew)); exact Kd.R_mono HO_8.out (fun _ hk => ⟨hk.1.2, hk.1.1⟩)) hg (.inl rfl)); have n2_ := Aside0.mk (hp_); have n3_ := Aside0.mk (Kd.R_after (v := (.slice (some ⟨go76, 0, none⟩) x13_4.length co45)) (v1 := (.slice (some ⟨go76, 0, none⟩) x13_4.length co45)) (ok := (fun k_ => some k_ ≠ (.slice (some ad163) x8_3.length co43 : Value).ownBlock)) (by (with_reducible repeat (first | apply Kd.R_alloc | apply Kd.R_drewN | apply Kd.R_drew)); exact Kd.R_mono HO_14.out (fun _ hk => ⟨hk.1.1, hk.1.2⟩)) hg (.inl rfl)); have n4_ := Aside0.mk (Kd.S_after (v := (.slice (some ⟨go76, 0, none⟩) x13_4.length co45)) (v1 := (.slice (some ⟨go76, 0, none⟩) x13_4.length co45)) (ok := (fun k_ => some k_ ≠ (v139 : Value).ownBlock ∧ some k_ ≠ (.slice (some ad163) x8_3.length co43 : Value).ownBlock ∧ some k_ ≠ (.slice (some ad171) x14_4.length co77 : Value).ownBlock)) (by (with_reducible repeat (first | apply Kd.S_alloc | apply Kd.S_drewN | apply Kd.S_drew)); exact Kd.S_mono HO199.out (fun _ hk => ⟨⟨hk.1, ⟨hk.2.1, hk.2.2.2⟩⟩, hk.2.2.1⟩)) hg (.inl rfl)); have n5_ := Aside0.mk ((by rw [hw]; exact below_set (HB.out) GB76.out : Below w.heap.size w w83)); clear HO_7; clear HO_8; clear HO_13; clear HO_14; clear HO199; clear HB; have HO_7 := n0_; have HO_8 := n1_; have HO_13 := n2_; have HO_14 := n3_; have HO199 := n4_; have HB := n5_; clear n0_ n1_ n2_ n3_ n4_ n5_; clear hg hw hp_))
                                    go_roundg k5
                                    case measure => have := HJ3.out; have := HK2.out; have := HK3.out; have := HK4.out; have := HK5.out; omega
                                    case rel => exact ⟨(y197), (y201), (x14_4), (wrap64 (x15_4 + 1)), (by first | rfl | (simp; done) | (simp [*]; done)), H', ⟨by have := HJ3.out; have := HK2.out; have := HK3.out; have := HK4.out; have := HK5.out; omega⟩, ⟨by (with_reducible repeat (first | apply Kd.S_alloc | apply Kd.S_drewN | apply Kd.S_drew)); exact Kd.S_mono HO_7.out (fun _ hk => ⟨hk.1.1, ⟨hk.1.2.2, ⟨hk.2, hk.1.2.1⟩⟩⟩)⟩, ⟨by (with_reducible repeat (first | apply Kd.R_alloc | apply Kd.R_drewN | apply Kd.R_drew)); exact Kd.R_mono HO_8.out (fun _ hk => ⟨hk.2, hk.1⟩)⟩, ⟨by (with_reducible repeat (first | apply Kd.S_alloc | apply Kd.S_drewN | apply Kd.S_drew)); exact Kd.S_mono HO199.out (fun _ hk => ⟨hk.1.1, ⟨hk.1.2.1, ⟨hk.2, hk.1.2.2⟩⟩⟩)⟩, ⟨by (with_reducible repeat (first | apply Kd.R_alloc | apply Kd.R_drewN | apply Kd.R_drew)); exact HO_13.out⟩, ⟨by (with_reducible repeat (first | apply Kd.R_alloc | apply Kd.R_drewN | apply Kd.R_drew)); exact HO_14.out⟩, ⟨by repeat (first | (with_reducible first | exact HB.out | apply below_alloc | apply pw_below_drewN | apply below_drew1) | exact HB.out)⟩⟩
                        · rw [if_neg c34] at H
                          have c34b0 : decide (x15_4 < (x8_3.length : Int)) = false := decide_eq_false c34
                          clear c34
                          have H' := Aside0.mk H
                          clear H
                          obtain ⟨Ao84, co84, eo84⟩ := Kd.R_slice HO_8.out
                          subst eo84
                          go_wp2
                          go_loopg [12, 19] k4 (fun kq v12 v19 w' => ∃ (x12_5 : List (S56)) (x19_5 : Int), v19 = .int .i64 x19_5 ∧ Aside0 (spec_Ends.l5 kq l0 y138 x12_5 x19_5 = some r) ∧ Aside0 (kq ≤ k4) ∧ Aside0 (Kd.S k56 56 w' w.heap.size (fun k_ => some k_ ≠ (v12 : Value).ownBlock) v139 y138) ∧ Aside0 (Kd.S k56 56 w' w.heap.size (fun k_ => some k_ ≠ (v139 : Value).ownBlock) v12 x12_5) ∧ Aside0 (Below w.heap.size w w'))
                          case atStart => exact ⟨(x12_4), (0), (by first | rfl | (simp; done) | (simp [*]; done)), H', ⟨Nat.le_refl _⟩, ⟨by (with_reducible repeat (first | apply Kd.S_alloc | apply Kd.S_drewN | apply Kd.S_drew)); exact Kd.S_mono HO_7.out (fun _ hk => hk.2.1)⟩, ⟨by (with_reducible repeat (first | apply Kd.S_alloc | apply Kd.S_drewN | apply Kd.S_drew)); exact Kd.S_mono HO_12.out (fun _ hk => hk.1)⟩, ⟨by repeat (first | (with_reducible first | exact HB.out | apply below_alloc | apply pw_below_drewN | apply below_drew1) | exact HB.out)⟩⟩
                          case round =>
                            clear H'
                            try clear c1
                            try clear p1
                            try clear q1
                            try clear hx1
                            try clear c2
                            try clear p2
                            try clear q2
                            try clear hx2
                            try clear c3
                            try clear c5
                            try clear p6
                            try clear q6
                            try clear hx6
                            try clear hf6
                            try clear c7
                            try clear p7
                            try clear q7
                            try clear hx7
                            try clear hf7
                            try clear c16
                            try clear p16
                            try clear q16
                            try clear hx16
                            try clear c17
                            try clear p17
                            try clear q17
                            try clear hx17
                            try clear c18
                            try clear p18
                            try clear q18
                            try clear hx18
                            try clear c19
                            try clear p19
                            try clear q19
                            try clear hx19
                            try clear p20
                            try clear q20
                            try clear hx20
                            try clear c25
                            try clear c34
                            try clear c34b0
                            try clear c52
                            try clear c52b0
                            try clear c59
                            try clear p60
                            try clear q60
                            try clear hx60
                            try clear hf60
                            try clear p64
                            try clear c71
                            try clear c71b0
                            try clear c72
                            try clear c72b0
                            try clear c73
                            try clear c73b0
                            try clear c75
                            try clear p76
                            try clear q76
                            try clear hx76
                            try clear hf76
                            try clear hx164_0
                            try clear hx166_0
                            try clear hx167_0
                            try clear hx171_0
                            try clear hx176_0
                            try clear hx177_0
                            try clear hx178_0
                            try clear hx178_1
                            try clear hx178_2
                            try clear hx187_0
                            try clear hx189_0
                            try clear hx190_0
                            try clear hx191_0
                            try clear hx191_1
                            try clear hx191_2
                            try clear hx200_0
                            try clear hx60_0
                            try clear hx76_0
                            try clear p167
                            try clear p171
                            try clear p178
                            try clear p187
                            try clear p189
                            try clear p190
                            try clear p191
                            try clear p200
                            try clear p60
                            try clear p76
                            try clear q167
                            try clear q171
                            try clear q178
                            try clear q187
                            try clear q189
                            try clear q190
                            try clear q191
                            try clear q200
                            try clear q60
                            try clear q76
                            obtain ⟨x12_5, x19_5, rfl, HA, HK5, HO_7, HO_12, HB⟩ := hrel
                            cases gk with
                            | zero => exact absurd HA.out (by simp [spec_Ends.l5])
                            | succ k5 =>
                              have H := HA.out
                              clear HA
                              simp only [spec_Ends.l5] at H
                              by_cases c85 : x19_5 < (l0.length : Int)
                              · rw [if_pos c85] at H
                                have c85b0 : decide (x19_5 < (l0.length : Int)) = true := decide_eq_true c85
                                clear c85
                                by_cases c86 : x12_5.length < 2513169434916
                                case neg => rw [if_neg c86] at H; exact absurd H (by simp)
                                rw [if_pos c86] at H
                                have LMc86 := Aside0.mk c86
                                clear c86
                                obtain ⟨y202, hy202⟩ : ∃ y_ : List (S56), y_ = (x12_5 ++ [(⟨x19_5, (⟨0, ([] : List Int), false⟩ : S54), 1000000000001⟩ : S56)]) := ⟨_, rfl⟩
                                replace H : (spec_Ends.l5 k5 l0 y138 y202 (wrap64 (x19_5 + 1))) = some r := by first | (rw [hy202]; with_reducible exact H) | (have H2_ := (Option.bind_some _ _).symm.trans H; rw [hy202]; with_reducible exact H2_) | (have H2_ := (Option.bind_some _ _).symm.trans H; with_reducible exact H2_) | with_reducible exact H | (rw [hy202]; exact H) | exact H
                                have Ny202 := Aside0.mk hy202
                                clear hy202
                                have H' := Aside0.mk H
                                clear H
                                go_wp2_with (first | ((with_reducible refine gate_builtin (b := .append) (xs := #[.tmp 163, .tmp 166]) rfl ?_); (try (refine gate_guard (by rfl) ?_; dsimp only)); at_builtin; refine Kd.S_append k56 (w0 := w) w.heap.size rfl (.tmp 163) (.tmp 166) 27 56 (.agg #[(.int .i64 0), (.int .i64 0), (.slice none 0 0), (.bool false), (.int .i64 0)]) 56 rfl Try.underlying27 info56 rfl (by decide) (by omega) u12 x12_5 (⟨x19_5, (⟨0, ([] : List Int), false⟩ : S54), 1000000000001⟩ : S56) [.int .i64 x19_5, .int .i64 0, .slice none 0 0, .bool false, .int .i64 1000000000001] (fun k_ => some k_ ≠ (v139 : Value).ownBlock) (fun _ => False) rfl rfl ?aP (fun k_ hk_ => hk_.elim) ?aF ?aO ?aB ?aS ?aL ?_; (case aP => exact k56_mkM _ _ _ (⟨x19_5, (⟨0, ([] : List Int), false⟩ : S54), 1000000000001⟩ : S56) (Kd.R_nil _ _ _ _ _)); (case aB => exact (by repeat (first | (with_reducible first | exact HB.out | apply below_alloc | apply pw_below_drewN | apply below_drew1) | exact HB.out))); (case aF => exact (fun k_ hk => Kd.fresh' (Kd.S_lt (by (with_reducible repeat (first | apply Kd.S_alloc | apply Kd.S_drewN | apply Kd.S_drew)); exact HO_7.out)) k_ hk)); (case aO => exact (by (with_reducible repeat (first | apply Kd.S_alloc | apply Kd.S_drewN | apply Kd.S_drew)); exact Kd.S_mono HO_12.out (fun k_ hk => ⟨hk, fun e_ => e_⟩))); (case aS => exact (below_size (by repeat (first | (with_reducible first | exact HB.out | apply below_alloc | apply pw_below_drewN | apply below_drew1) | exact HB.out)))); (case aL => have := LMc86.out; omega); intro v203 w87 ho hb hg hat; rw [← Ny202.out] at ho; have n0_ := Aside0.mk (Kd.S_after (ok := (fun _ => True)) (by (with_reducible repeat (first | apply Kd.S_alloc | apply Kd.S_drewN | apply Kd.S_drew)); exact Kd.S_mono HO_7.out (fun _ hk => ⟨trivial, hk⟩)) hg hat); have n1_ := Aside0.mk (hb); have n2_ := Aside0.mk (ho); clear HO_7; clear HB; clear HO_12; have HO_7 := n0_; have HB := n1_; have HO204 := n2_; clear n0_ n1_ n2_; clear ho hb hg hat))
                                go_roundg k5
                                case measure => have := HJ3.out; have := HK2.out; have := HK3.out; have := HK4.out; have := HK5.out; omega
                                case rel => exact ⟨(y202), (wrap64 (x19_5 + 1)), (by first | rfl | (simp; done) | (simp [*]; done)), H', ⟨by have := HJ3.out; have := HK2.out; have := HK3.out; have := HK4.out; have := HK5.out; omega⟩, ⟨by (with_reducible repeat (first | apply Kd.S_alloc | apply Kd.S_drewN | apply Kd.S_drew)); exact Kd.S_mono HO_7.out (fun _ hk => hk.2)⟩, ⟨by (with_reducible repeat (first | apply Kd.S_alloc | apply Kd.S_drewN | apply Kd.S_drew)); exact HO204.out⟩, ⟨by repeat (first | (with_reducible first | exact HB.out | apply below_alloc | apply pw_below_drewN | apply below_drew1) | exact HB.out)⟩⟩
                              · rw [if_neg c85] at H
                                have c85b0 : decide (x19_5 < (l0.length : Int)) = false := decide_eq_false c85
                                clear c85
                                by_cases c88 : (x12_5.length : Int) > 400
                                · rw [if_pos c88] at H
                                  have c88b0 : decide (400 < (x12_5.length : Int)) = true := decide_eq_true c88
                                  have c88b1 : decide (400 < x12_5.length) = true := decide_eq_true (by omega)
                                  clear c88
                                  obtain rfl := Option.some.inj H
                                  obtain ⟨Ao89, co89, eo89⟩ := Kd.S_slice HO_12.out
                                  subst eo89
                                  go_wp2
                                  go_ret
                                  exact ⟨_, by first | rfl | (simp [errW_none, errW_some] <;> rfl) | (simp [*, errW_none, errW_some] <;> rfl), by (with_reducible repeat (first | apply Kd.S_alloc | apply Kd.S_drewN | apply Kd.S_drew)); exact Kd.S_mono HO_7.out (fun _ hk => trivial), by repeat (first | (with_reducible first | exact HB.out | apply below_alloc | apply pw_below_drewN | apply below_drew1) | exact HB.out)⟩
                                · rw [if_neg c88] at H
                                  have c88b0 : decide (400 < (x12_5.length : Int)) = false := decide_eq_false c88
                                  have c88b1 : decide (400 < x12_5.length) = false := decide_eq_false (by omega)
                                  clear c88
                                  obtain rfl := Option.some.inj H
                                  obtain ⟨Ao90, co90, eo90⟩ := Kd.S_slice HO_12.out
                                  subst eo90
                                  go_wp2
                                  go_ret
                                  exact ⟨_, by first | rfl | (simp [errW_none, errW_some] <;> rfl) | (simp [*, errW_none, errW_some] <;> rfl), by (with_reducible repeat (first | apply Kd.S_alloc | apply Kd.S_drewN | apply Kd.S_drew)); exact Kd.S_mono HO_12.out (fun _ hk => trivial), by repeat (first | (with_reducible first | exact HB.out | apply below_alloc | apply pw_below_drewN | apply below_drew1) | exact HB.out)⟩
end Go.Proofs.Ytmkhiaikfeoedaa.QFnExactInputsOk
