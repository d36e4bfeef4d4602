import Derived.Test.YtmkhiaikfeoedaaE1QFnExactInputsOkx0
import Derived.Test.YtmkhiaikfeoedaaE1QFnExactInputsOkx14
namespace Go.Proofs.Ytmkhiaikfeoedaa.QFnExactInputsOk
open Go.RowKit Go.Proofs.YtmkhiaikfeoedaaW.PrintWords Go.Proofs.YtmkhiaikfeoedaaW.PrintLast Go.Proofs.YtmkhiaikfeoedaaW.PrintMore
attribute [local go_sem] max2_int min2_int max_two min_two max_three min_three max_four min_four   -- for this text's walks alone
set_option linter.unusedVariables false
set_option linter.unusedSimpArgs false
def laws_heldComingS.l0 : Nat → List (S56) → Int → Int → Option (Int)
  | 0, _, _, _ => none
  | k + 1, x0, x1, x5 => if x5 < (x0.length : Int) then (if 0 ≤ x5 then (if ((rd_T56 x0 x5).f0) = x1 then (if ((rd_T56 x0 x5).f1.f0) = (wrap64 (x1 + 1)) then ((laws_heldIntS.f k ((rd_T56 x0 x5).f1.f1) (wrap64 ((wrap64 (x1 + 1)) + 1))).bind fun t322 => (if t322 < 0 then (some (-1)) else (if (((rd_T56 x0 x5).f1.f2) != ((Int.tmod t322 3) == 0)) = true then (some (-1)) else (if ((rd_T56 x0 x5).f2) = (wrap64 (t322 + 1)) then (laws_heldComingS.l0 k x0 (wrap64 ((wrap64 (t322 + 1)) + 1)) (wrap64 (x5 + 1))) else (some (-1)))))) else (some (-1))) else (some (-1))) else (none)) else (some x1)
def laws_heldComingS.f (k : Nat) (l0 : List (S56)) (a1 : Int) : Option (Int) := laws_heldComingS.l0 k l0 a1 0
set_option maxHeartbeats 8000000 in
set_option maxRecDepth 100000 in
theorem laws_heldComingS.calls (k : Nat) (A0 : Option Addr) (c0 : Nat) (l0 : List (S56)) (a1 : Int) (r : Int) (w : World) (hr0 : Kd.C k56 w A0 l0.length l0) (hc0 : l0.length ≤ c0) (h : laws_heldComingS.f k l0 a1 = some r) :
    Calls Try.prog 19 #[.slice A0 l0.length c0, .int .i64 a1] w fun e w' => e = .returned (.int .i64 r) ∧ Drawn0 w w' := by
  have HR0 := Aside0.mk hr0
  have HC0 := Aside0.mk hc0
  clear hr0 hc0
  have H : (laws_heldComingS.l0 k l0 a1 0) = some r := h
  clear h
  have H' := Aside0.mk H
  clear H
  go_enter Try.func19, Try.ntmps19
  go_wp2
  go_loopg [1, 5] k (fun kq v1 v5 w' => ∃ (x1_1 : Int) (x5_1 : Int), v1 = .int .i64 x1_1 ∧ v5 = .int .i64 x5_1 ∧ Aside0 (laws_heldComingS.l0 kq l0 x1_1 x5_1 = some r) ∧ Aside0 (kq ≤ k) ∧ Drawn0 w w')
  case atStart => exact ⟨(a1), (0), (by first | rfl | (simp; done) | (simp [*]; done)), (by first | rfl | (simp; done) | (simp [*]; done)), H', ⟨Nat.le_refl _⟩, by repeat (first | exact Drawn0.refl _ | apply Drawn0.step)⟩
  case round =>
    clear H'
    try clear c1
    try clear p2
    obtain ⟨x1_1, x5_1, rfl, rfl, HA, HK1, ⟨m1, rfl⟩⟩ := hrel
    cases gk with
    | zero => exact absurd HA.out (by simp [laws_heldComingS.l0])
    | succ k1 =>
      have H := HA.out
      clear HA
      simp only [laws_heldComingS.l0] at H
      by_cases c3 : x5_1 < (l0.length : Int)
      · rw [if_pos c3] at H
        have c3b0 : decide (x5_1 < (l0.length : Int)) = true := decide_eq_true c3
        clear c3
        by_cases c4 : 0 ≤ x5_1
        case neg => rw [if_neg c4] at H; exact absurd H (by simp)
        rw [if_pos c4] at H
        have c4b0 : decide (0 ≤ x5_1) = true := decide_eq_true c4
        clear c4
        by_cases c5 : ((rd_T56 l0 x5_1).f0) = x1_1
        · rw [if_pos c5] at H
          have c5b0 : (((rd_T56 l0 x5_1).f0) == x1_1) = true := beq_iff_eq.mpr c5
          have c5b1 : (((rd_T56 l0 x5_1).f0) != x1_1) = false := bne_eq_false_iff_eq.mpr c5
          clear c5
          by_cases c6 : ((rd_T56 l0 x5_1).f1.f0) = (wrap64 (x1_1 + 1))
          · rw [if_pos c6] at H
            have c6b0 : (((rd_T56 l0 x5_1).f1.f0) == (wrap64 (x1_1 + 1))) = true := beq_iff_eq.mpr c6
            have c6b1 : (((rd_T56 l0 x5_1).f1.f0) != (wrap64 (x1_1 + 1))) = false := bne_eq_false_iff_eq.mpr c6
            clear c6
            replace H := Option.bind_eq_some_iff.mp H
            obtain ⟨t322, A70, H⟩ := H
            replace H : (if t322 < 0 then (some (-1)) else (if (((rd_T56 l0 x5_1).f1.f2) != ((Int.tmod t322 3) == 0)) = true then (some (-1)) else (if ((rd_T56 l0 x5_1).f2) = (wrap64 (t322 + 1)) then (laws_heldComingS.l0 k1 l0 (wrap64 ((wrap64 (t322 + 1)) + 1)) (wrap64 (x5_1 + 1))) else (some (-1))))) = some r := H
            have A7 := Aside0.mk A70
            clear A70
            by_cases c8 : t322 < 0
            · rw [if_pos c8] at H
              have c8b0 : decide (t322 < 0) = true := decide_eq_true c8
              clear c8
              obtain rfl := Option.some.inj H
              have p319 : 0 ≤ (x5_1 : Int) := of_decide_eq_true (by first | (with_reducible assumption) | assumption)
              have q319 : x5_1 < (l0.length : Int) := of_decide_eq_true (by first | (with_reducible assumption) | assumption)
              obtain ⟨ad319, A319_2, c319_2, e319, hx319_0, hx319_1, hx319_2, hx319_3, hx319_4, hl319_2, hi319_2⟩ := at_T56 HR0.out x5_1 p319 q319
              cases e319
              have HR319_2 := Aside0.mk hi319_2
              have HC319_2 := Aside0.mk hl319_2
              clear hi319_2 hl319_2
              replace p319 := eq_true p319
              replace q319 := eq_true q319
              have p320 : 0 ≤ (x5_1 : Int) := of_decide_eq_true (by first | (with_reducible assumption) | assumption)
              have q320 : x5_1 < (l0.length : Int) := of_decide_eq_true (by first | (with_reducible assumption) | assumption)
              obtain ⟨ad320, A320_2, c320_2, e320, hx320_0, hx320_1, hx320_2, hx320_3, hx320_4, hl320_2, hi320_2⟩ := at_T56 HR0.out x5_1 p320 q320
              obtain rfl : ad319 = ad320 := (by injection e320)
              have HR320_2 := Aside0.mk hi320_2
              have HC320_2 := Aside0.mk hl320_2
              clear hi320_2 hl320_2
              replace p320 := eq_true p320
              replace q320 := eq_true q320
              have ea_ := Option.some.inj (hx319_2.symm.trans hx320_2)
              injection ea_ with ea_ en_ ec_
              subst ea_
              subst ec_
              clear en_
              have p321 : 0 ≤ (x5_1 : Int) := of_decide_eq_true (by first | (with_reducible assumption) | assumption)
              have q321 : x5_1 < (l0.length : Int) := of_decide_eq_true (by first | (with_reducible assumption) | assumption)
              obtain ⟨ad321, A321_2, c321_2, e321, hx321_0, hx321_1, hx321_2, hx321_3, hx321_4, hl321_2, hi321_2⟩ := at_T56 HR0.out x5_1 p321 q321
              obtain rfl : ad319 = ad321 := (by injection e321)
              have HR321_2 := Aside0.mk hi321_2
              have HC321_2 := Aside0.mk hl321_2
              clear hi321_2 hl321_2
              replace p321 := eq_true p321
              replace q321 := eq_true q321
              have ea_ := Option.some.inj (hx319_2.symm.trans hx321_2)
              injection ea_ with ea_ en_ ec_
              subst ea_
              subst ec_
              clear en_
              go_wp2_with (first | ((with_reducible refine gate_callee (f := 38) rfl ?_); refine goesL_ (some 38) rfl rfl Try.func38 (by kernel_rfl) rfl #[.slice A319_2 ((rd_T56 l0 x5_1).f1.f1).length c319_2, .int .i64 (wrap64 ((wrap64 (x1_1 + 1)) + 1))] rfl (by (try simp only [List.map_toArray, List.map_cons, List.map_nil]); first | done | rfl | (simp only [List.length_drop, List.length_take]; rfl)) ?_; (with_reducible refine (laws_heldIntS.calls k1 _ _ ((rd_T56 l0 x5_1).f1.f1) (wrap64 ((wrap64 (x1_1 + 1)) + 1)) t322 _ ?side1 ?side2 A7.out).mono ?_); (case side1 => repeat (first | exact HR321_2.out | (with_reducible refine Kd.C_alloc ?_ _) | (with_reducible refine Kd.C_drewN ?_ _) | (with_reducible refine Kd.C_drew ?_))); (case side2 => exact HC321_2.out); rintro e w' ⟨rfl, ⟨nd, rfl⟩⟩; refine ⟨_, rfl, ?_⟩))
              go_ret
              exact ⟨by first | rfl | (simp; done) | (simp [*]; done), by repeat (first | exact Drawn0.refl _ | apply Drawn0.step)⟩
            · rw [if_neg c8] at H
              have c8b0 : decide (t322 < 0) = false := decide_eq_false c8
              clear c8
              by_cases c9 : (((rd_T56 l0 x5_1).f1.f2) != ((Int.tmod t322 3) == 0)) = true
              · rw [if_pos c9] at H
                have c9b0 : (((rd_T56 l0 x5_1).f1.f2) != ((Int.tmod t322 3) == 0)) = true := c9
                (try (have c9b1 : decide (((rd_T56 l0 x5_1).f1.f2) = ((Int.tmod t322 3) == 0)) = false := by simpa using c9))
                (try (have c9b2 : (((rd_T56 l0 x5_1).f1.f2) == ((Int.tmod t322 3) == 0)) = false := by simpa using c9))
                (try (have c9b3 : ¬ (((rd_T56 l0 x5_1).f1.f2) = ((Int.tmod t322 3) == 0)) := by simpa using c9))
                clear c9
                obtain rfl := Option.some.inj H
                have p319 : 0 ≤ (x5_1 : Int) := of_decide_eq_true (by first | (with_reducible assumption) | assumption)
                have q319 : x5_1 < (l0.length : Int) := of_decide_eq_true (by first | (with_reducible assumption) | assumption)
                obtain ⟨ad319, A319_2, c319_2, e319, hx319_0, hx319_1, hx319_2, hx319_3, hx319_4, hl319_2, hi319_2⟩ := at_T56 HR0.out x5_1 p319 q319
                cases e319
                have HR319_2 := Aside0.mk hi319_2
                have HC319_2 := Aside0.mk hl319_2
                clear hi319_2 hl319_2
                replace p319 := eq_true p319
                replace q319 := eq_true q319
                have p320 : 0 ≤ (x5_1 : Int) := of_decide_eq_true (by first | (with_reducible assumption) | assumption)
                have q320 : x5_1 < (l0.length : Int) := of_decide_eq_true (by first | (with_reducible assumption) | assumption)
                obtain ⟨ad320, A320_2, c320_2, e320, hx320_0, hx320_1, hx320_2, hx320_3, hx320_4, hl320_2, hi320_2⟩ := at_T56 HR0.out x5_1 p320 q320
                obtain rfl : ad319 = ad320 := (by injection e320)
                have HR320_2 := Aside0.mk hi320_2
                have HC320_2 := Aside0.mk hl320_2
                clear hi320_2 hl320_2
                replace p320 := eq_true p320
                replace q320 := eq_true q320
                have ea_ := Option.some.inj (hx319_2.symm.trans hx320_2)
                injection ea_ with ea_ en_ ec_
                subst ea_
                subst ec_
                clear en_
                have p321 : 0 ≤ (x5_1 : Int) := of_decide_eq_true (by first | (with_reducible assumption) | assumption)
                have q321 : x5_1 < (l0.length : Int) := of_decide_eq_true (by first | (with_reducible assumption) | assumption)
                obtain ⟨ad321, A321_2, c321_2, e321, hx321_0, hx321_1, hx321_2, hx321_3, hx321_4, hl321_2, hi321_2⟩ := at_T56 HR0.out x5_1 p321 q321
                obtain rfl : ad319 = ad321 := (by injection e321)
                have HR321_2 := Aside0.mk hi321_2
                have HC321_2 := Aside0.mk hl321_2
                clear hi321_2 hl321_2
                replace p321 := eq_true p321
                replace q321 := eq_true q321
                have ea_ := Option.some.inj (hx319_2.symm.trans hx321_2)
                injection ea_ with ea_ en_ ec_
                subst ea_
                subst ec_
                clear en_
                go_wp2_with (first | ((with_reducible refine gate_callee (f := 38) rfl ?_); refine goesL_ (some 38) rfl rfl Try.func38 (by kernel_rfl) rfl #[.slice A319_2 ((rd_T56 l0 x5_1).f1.f1).length c319_2, .int .i64 (wrap64 ((wrap64 (x1_1 + 1)) + 1))] rfl (by (try simp only [List.map_toArray, List.map_cons, List.map_nil]); first | done | rfl | (simp only [List.length_drop, List.length_take]; rfl)) ?_; (with_reducible refine (laws_heldIntS.calls k1 _ _ ((rd_T56 l0 x5_1).f1.f1) (wrap64 ((wrap64 (x1_1 + 1)) + 1)) t322 _ ?side1 ?side2 A7.out).mono ?_); (case side1 => repeat (first | exact HR321_2.out | (with_reducible refine Kd.C_alloc ?_ _) | (with_reducible refine Kd.C_drewN ?_ _) | (with_reducible refine Kd.C_drew ?_))); (case side2 => exact HC321_2.out); rintro e w' ⟨rfl, ⟨nd, rfl⟩⟩; refine ⟨_, rfl, ?_⟩; have p323 : 0 ≤ (x5_1 : Int) := of_decide_eq_true (by first | (with_reducible assumption) | assumption); have q323 : x5_1 < (l0.length : Int) := of_decide_eq_true (by first | (with_reducible assumption) | assumption); obtain ⟨ad323, A323_2, c323_2, e323, hx323_0, hx323_1, hx323_2, hx323_3, hx323_4, hl323_2, hi323_2⟩ := at_T56 HR0.out x5_1 p323 q323; obtain rfl : ad319 = ad323 := (by injection e323); have HR323_2 := Aside0.mk hi323_2; have HC323_2 := Aside0.mk hl323_2; clear hi323_2 hl323_2; replace p323 := eq_true p323; replace q323 := eq_true q323; have ea_ := Option.some.inj (hx319_2.symm.trans hx323_2); injection ea_ with ea_ en_ ec_; subst ea_; subst ec_; clear en_))
                go_ret
                exact ⟨by first | rfl | (simp; done) | (simp [*]; done), by repeat (first | exact Drawn0.refl _ | apply Drawn0.step)⟩
              · rw [if_neg c9] at H
                have c9b0 : (((rd_T56 l0 x5_1).f1.f2) != ((Int.tmod t322 3) == 0)) = false := by simpa using c9
                (try (have c9b1 : decide (((rd_T56 l0 x5_1).f1.f2) = ((Int.tmod t322 3) == 0)) = true := by simpa using c9))
                (try (have c9b2 : (((rd_T56 l0 x5_1).f1.f2) == ((Int.tmod t322 3) == 0)) = true := by simpa using c9))
                clear c9
                by_cases c10 : ((rd_T56 l0 x5_1).f2) = (wrap64 (t322 + 1))
                · rw [if_pos c10] at H
                  have c10b0 : (((rd_T56 l0 x5_1).f2) == (wrap64 (t322 + 1))) = true := beq_iff_eq.mpr c10
                  have c10b1 : (((rd_T56 l0 x5_1).f2) != (wrap64 (t322 + 1))) = false := bne_eq_false_iff_eq.mpr c10
                  clear c10
                  have H' := Aside0.mk H
                  clear H
                  have p319 : 0 ≤ (x5_1 : Int) := of_decide_eq_true (by first | (with_reducible assumption) | assumption)
                  have q319 : x5_1 < (l0.length : Int) := of_decide_eq_true (by first | (with_reducible assumption) | assumption)
                  obtain ⟨ad319, A319_2, c319_2, e319, hx319_0, hx319_1, hx319_2, hx319_3, hx319_4, hl319_2, hi319_2⟩ := at_T56 HR0.out x5_1 p319 q319
                  cases e319
                  have HR319_2 := Aside0.mk hi319_2
                  have HC319_2 := Aside0.mk hl319_2
                  clear hi319_2 hl319_2
                  replace p319 := eq_true p319
                  replace q319 := eq_true q319
                  have p320 : 0 ≤ (x5_1 : Int) := of_decide_eq_true (by first | (with_reducible assumption) | assumption)
                  have q320 : x5_1 < (l0.length : Int) := of_decide_eq_true (by first | (with_reducible assumption) | assumption)
                  obtain ⟨ad320, A320_2, c320_2, e320, hx320_0, hx320_1, hx320_2, hx320_3, hx320_4, hl320_2, hi320_2⟩ := at_T56 HR0.out x5_1 p320 q320
                  obtain rfl : ad319 = ad320 := (by injection e320)
                  have HR320_2 := Aside0.mk hi320_2
                  have HC320_2 := Aside0.mk hl320_2
                  clear hi320_2 hl320_2
                  replace p320 := eq_true p320
                  replace q320 := eq_true q320
                  have ea_ := Option.some.inj (hx319_2.symm.trans hx320_2)
                  injection ea_ with ea_ en_ ec_
                  subst ea_
                  subst ec_
                  clear en_
                  have p321 : 0 ≤ (x5_1 : Int) := of_decide_eq_true (by first | (with_reducible assumption) | assumption)
                  have q321 : x5_1 < (l0.length : Int) := of_decide_eq_true (by first | (with_reducible assumption) | assumption)
                  obtain ⟨ad321, A321_2, c321_2, e321, hx321_0, hx321_1, hx321_2, hx321_3, hx321_4, hl321_2, hi321_2⟩ := at_T56 HR0.out x5_1 p321 q321
                  obtain rfl : ad319 = ad321 := (by injection e321)
                  have HR321_2 := Aside0.mk hi321_2
                  have HC321_2 := Aside0.mk hl321_2
                  clear hi321_2 hl321_2
                  replace p321 := eq_true p321
                  replace q321 := eq_true q321
                  have ea_ := Option.some.inj (hx319_2.symm.trans hx321_2)
                  injection ea_ with ea_ en_ ec_
                  subst ea_
                  subst ec_
                  clear en_
                  go_wp2_with (first | ((with_reducible refine gate_callee (f := 38) rfl ?_); refine goesL_ (some 38) rfl rfl Try.func38 (by kernel_rfl) rfl #[.slice A319_2 ((rd_T56 l0 x5_1).f1.f1).length c319_2, .int .i64 (wrap64 ((wrap64 (x1_1 + 1)) + 1))] rfl (by (try simp only [List.map_toArray, List.map_cons, List.map_nil]); first | done | rfl | (simp only [List.length_drop, List.length_take]; rfl)) ?_; (with_reducible refine (laws_heldIntS.calls k1 _ _ ((rd_T56 l0 x5_1).f1.f1) (wrap64 ((wrap64 (x1_1 + 1)) + 1)) t322 _ ?side1 ?side2 A7.out).mono ?_); (case side1 => repeat (first | exact HR321_2.out | (with_reducible refine Kd.C_alloc ?_ _) | (with_reducible refine Kd.C_drewN ?_ _) | (with_reducible refine Kd.C_drew ?_))); (case side2 => exact HC321_2.out); rintro e w' ⟨rfl, ⟨nd, rfl⟩⟩; refine ⟨_, rfl, ?_⟩; have p323 : 0 ≤ (x5_1 : Int) := of_decide_eq_true (by first | (with_reducible assumption) | assumption); have q323 : x5_1 < (l0.length : Int) := of_decide_eq_true (by first | (with_reducible assumption) | assumption); obtain ⟨ad323, A323_2, c323_2, e323, hx323_0, hx323_1, hx323_2, hx323_3, hx323_4, hl323_2, hi323_2⟩ := at_T56 HR0.out x5_1 p323 q323; obtain rfl : ad319 = ad323 := (by injection e323); have HR323_2 := Aside0.mk hi323_2; have HC323_2 := Aside0.mk hl323_2; clear hi323_2 hl323_2; replace p323 := eq_true p323; replace q323 := eq_true q323; have ea_ := Option.some.inj (hx319_2.symm.trans hx323_2); injection ea_ with ea_ en_ ec_; subst ea_; subst ec_; clear en_; have p324 : 0 ≤ (x5_1 : Int) := of_decide_eq_true (by first | (with_reducible assumption) | assumption); have q324 : x5_1 < (l0.length : Int) := of_decide_eq_true (by first | (with_reducible assumption) | assumption); obtain ⟨ad324, A324_2, c324_2, e324, hx324_0, hx324_1, hx324_2, hx324_3, hx324_4, hl324_2, hi324_2⟩ := at_T56 HR0.out x5_1 p324 q324; obtain rfl : ad319 = ad324 := (by injection e324); have HR324_2 := Aside0.mk hi324_2; have HC324_2 := Aside0.mk hl324_2; clear hi324_2 hl324_2; replace p324 := eq_true p324; replace q324 := eq_true q324; have ea_ := Option.some.inj (hx319_2.symm.trans hx324_2); injection ea_ with ea_ en_ ec_; subst ea_; subst ec_; clear en_))
                  go_roundg k1
                  case measure => have := HK1.out; omega
                  case rel => exact ⟨(wrap64 ((wrap64 (t322 + 1)) + 1)), (wrap64 (x5_1 + 1)), (by first | rfl | (simp; done) | (simp [*]; done)), (by first | rfl | (simp; done) | (simp [*]; done)), H', ⟨by have := HK1.out; omega⟩, by repeat (first | exact Drawn0.refl _ | apply Drawn0.step)⟩
                · rw [if_neg c10] at H
                  have c10b0 : (((rd_T56 l0 x5_1).f2) == (wrap64 (t322 + 1))) = false := beq_eq_false_iff_ne.mpr c10
                  have c10b1 : (((rd_T56 l0 x5_1).f2) != (wrap64 (t322 + 1))) = true := bne_iff_ne.mpr c10
                  obtain rfl := Option.some.inj H
                  have p319 : 0 ≤ (x5_1 : Int) := of_decide_eq_true (by first | (with_reducible assumption) | assumption)
                  have q319 : x5_1 < (l0.length : Int) := of_decide_eq_true (by first | (with_reducible assumption) | assumption)
                  obtain ⟨ad319, A319_2, c319_2, e319, hx319_0, hx319_1, hx319_2, hx319_3, hx319_4, hl319_2, hi319_2⟩ := at_T56 HR0.out x5_1 p319 q319
                  cases e319
                  have HR319_2 := Aside0.mk hi319_2
                  have HC319_2 := Aside0.mk hl319_2
                  clear hi319_2 hl319_2
                  replace p319 := eq_true p319
                  replace q319 := eq_true q319
                  have p320 : 0 ≤ (x5_1 : Int) := of_decide_eq_true (by first | (with_reducible assumption) | assumption)
                  have q320 : x5_1 < (l0.length : Int) := of_decide_eq_true (by first | (with_reducible assumption) | assumption)
                  obtain ⟨ad320, A320_2, c320_2, e320, hx320_0, hx320_1, hx320_2, hx320_3, hx320_4, hl320_2, hi320_2⟩ := at_T56 HR0.out x5_1 p320 q320
                  obtain rfl : ad319 = ad320 := (by injection e320)
                  have HR320_2 := Aside0.mk hi320_2
                  have HC320_2 := Aside0.mk hl320_2
                  clear hi320_2 hl320_2
                  replace p320 := eq_true p320
                  replace q320 := eq_true q320
                  have ea_ := Option.some.inj (hx319_2.symm.trans hx320_2)
                  injection ea_ with ea_ en_ ec_
                  subst ea_
                  subst ec_
                  clear en_
                  have p321 : 0 ≤ (x5_1 : Int) := of_decide_eq_true (by first | (with_reducible assumption) | assumption)
                  have q321 : x5_1 < (l0.length : Int) := of_decide_eq_true (by first | (with_reducible assumption) | assumption)
                  obtain ⟨ad321, A321_2, c321_2, e321, hx321_0, hx321_1, hx321_2, hx321_3, hx321_4, hl321_2, hi321_2⟩ := at_T56 HR0.out x5_1 p321 q321
                  obtain rfl : ad319 = ad321 := (by injection e321)
                  have HR321_2 := Aside0.mk hi321_2
                  have HC321_2 := Aside0.mk hl321_2
                  clear hi321_2 hl321_2
                  replace p321 := eq_true p321
                  replace q321 := eq_true q321
                  have ea_ := Option.some.inj (hx319_2.symm.trans hx321_2)
                  injection ea_ with ea_ en_ ec_
                  subst ea_
                  subst ec_
                  clear en_
                  go_wp2_with (first | ((with_reducible refine gate_callee (f := 38) rfl ?_); refine goesL_ (some 38) rfl rfl Try.func38 (by kernel_rfl) rfl #[.slice A319_2 ((rd_T56 l0 x5_1).f1.f1).length c319_2, .int .i64 (wrap64 ((wrap64 (x1_1 + 1)) + 1))] rfl (by (try simp only [List.map_toArray, List.map_cons, List.map_nil]); first | done | rfl | (simp only [List.length_drop, List.length_take]; rfl)) ?_; (with_reducible refine (laws_heldIntS.calls k1 _ _ ((rd_T56 l0 x5_1).f1.f1) (wrap64 ((wrap64 (x1_1 + 1)) + 1)) t322 _ ?side1 ?side2 A7.out).mono ?_); (case side1 => repeat (first | exact HR321_2.out | (with_reducible refine Kd.C_alloc ?_ _) | (with_reducible refine Kd.C_drewN ?_ _) | (with_reducible refine Kd.C_drew ?_))); (case side2 => exact HC321_2.out); rintro e w' ⟨rfl, ⟨nd, rfl⟩⟩; refine ⟨_, rfl, ?_⟩; have p323 : 0 ≤ (x5_1 : Int) := of_decide_eq_true (by first | (with_reducible assumption) | assumption); have q323 : x5_1 < (l0.length : Int) := of_decide_eq_true (by first | (with_reducible assumption) | assumption); obtain ⟨ad323, A323_2, c323_2, e323, hx323_0, hx323_1, hx323_2, hx323_3, hx323_4, hl323_2, hi323_2⟩ := at_T56 HR0.out x5_1 p323 q323; obtain rfl : ad319 = ad323 := (by injection e323); have HR323_2 := Aside0.mk hi323_2; have HC323_2 := Aside0.mk hl323_2; clear hi323_2 hl323_2; replace p323 := eq_true p323; replace q323 := eq_true q323; have ea_ := Option.some.inj (hx319_2.symm.trans hx323_2); injection ea_ with ea_ en_ ec_; subst ea_; subst ec_; clear en_; have p324 : 0 ≤ (x5_1 : Int) := of_decide_eq_true (by first | (with_reducible assumption) | assumption); have q324 : x5_1 < (l0.length : Int) := of_decide_eq_true (by first | (with_reducible assumption) | assumption); obtain ⟨ad324, A324_2, c324_2, e324, hx324_0, hx324_1, hx324_2, hx324_3, hx324_4, hl324_2, hi324_2⟩ := at_T56 HR0.out x5_1 p324 q324; obtain rfl : ad319 = ad324 := (by injection e324); have HR324_2 := Aside0.mk hi324_2; have HC324_2 := Aside0.mk hl324_2; clear hi324_2 hl324_2; replace p324 := eq_true p324; replace q324 := eq_true q324; have ea_ := Option.some.inj (hx319_2.symm.trans hx324_2); injection ea_ with ea_ en_ ec_; subst ea_; subst ec_; clear en_))
                  go_ret
                  exact ⟨by first | rfl | (simp; done) | (simp [*]; done), by repeat (first | exact Drawn0.refl _ | apply Drawn0.step)⟩
          · rw [if_neg c6] at H
            have c6b0 : (((rd_T56 l0 x5_1).f1.f0) == (wrap64 (x1_1 + 1))) = false := beq_eq_false_iff_ne.mpr c6
            have c6b1 : (((rd_T56 l0 x5_1).f1.f0) != (wrap64 (x1_1 + 1))) = true := bne_iff_ne.mpr c6
            obtain rfl := Option.some.inj H
            have p319 : 0 ≤ (x5_1 : Int) := of_decide_eq_true (by first | (with_reducible assumption) | assumption)
            have q319 : x5_1 < (l0.length : Int) := of_decide_eq_true (by first | (with_reducible assumption) | assumption)
            obtain ⟨ad319, A319_2, c319_2, e319, hx319_0, hx319_1, hx319_2, hx319_3, hx319_4, hl319_2, hi319_2⟩ := at_T56 HR0.out x5_1 p319 q319
            cases e319
            have HR319_2 := Aside0.mk hi319_2
            have HC319_2 := Aside0.mk hl319_2
            clear hi319_2 hl319_2
            replace p319 := eq_true p319
            replace q319 := eq_true q319
            have p320 : 0 ≤ (x5_1 : Int) := of_decide_eq_true (by first | (with_reducible assumption) | assumption)
            have q320 : x5_1 < (l0.length : Int) := of_decide_eq_true (by first | (with_reducible assumption) | assumption)
            obtain ⟨ad320, A320_2, c320_2, e320, hx320_0, hx320_1, hx320_2, hx320_3, hx320_4, hl320_2, hi320_2⟩ := at_T56 HR0.out x5_1 p320 q320
            obtain rfl : ad319 = ad320 := (by injection e320)
            have HR320_2 := Aside0.mk hi320_2
            have HC320_2 := Aside0.mk hl320_2
            clear hi320_2 hl320_2
            replace p320 := eq_true p320
            replace q320 := eq_true q320
            have ea_ := Option.some.inj (hx319_2.symm.trans hx320_2)
            injection ea_ with ea_ en_ ec_
            subst ea_
            subst ec_
            clear en_
            go_wp2
            go_ret
            exact ⟨by first | rfl | (simp; done) | (simp [*]; done), by repeat (first | exact Drawn0.refl _ | apply Drawn0.step)⟩
        · rw [if_neg c5] at H
          have c5b0 : (((rd_T56 l0 x5_1).f0) == x1_1) = false := beq_eq_false_iff_ne.mpr c5
          have c5b1 : (((rd_T56 l0 x5_1).f0) != x1_1) = true := bne_iff_ne.mpr c5
          obtain rfl := Option.some.inj H
          have p319 : 0 ≤ (x5_1 : Int) := of_decide_eq_true (by first | (with_reducible assumption) | assumption)
          have q319 : x5_1 < (l0.length : Int) := of_decide_eq_true (by first | (with_reducible assumption) | assumption)
          obtain ⟨ad319, A319_2, c319_2, e319, hx319_0, hx319_1, hx319_2, hx319_3, hx319_4, hl319_2, hi319_2⟩ := at_T56 HR0.out x5_1 p319 q319
          cases e319
          have HR319_2 := Aside0.mk hi319_2
          have HC319_2 := Aside0.mk hl319_2
          clear hi319_2 hl319_2
          replace p319 := eq_true p319
          replace q319 := eq_true q319
          go_wp2
          go_ret
          exact ⟨by first | rfl | (simp; done) | (simp [*]; done), by repeat (first | exact Drawn0.refl _ | apply Drawn0.step)⟩
      · rw [if_neg c3] at H
        have c3b0 : decide (x5_1 < (l0.length : Int)) = false := decide_eq_false c3
        clear c3
        obtain rfl := Option.some.inj H
        go_wp2
        go_ret
        exact ⟨by first | rfl | (simp; done) | (simp [*]; done), by repeat (first | exact Drawn0.refl _ | apply Drawn0.step)⟩
end Go.Proofs.Ytmkhiaikfeoedaa.QFnExactInputsOk
