import Derived.Test.YtmkhiaikfeoedaaE1QFnExactInputsOkx0
import Derived.Test.YtmkhiaikfeoedaaE1InputsOkSpec
namespace Go.Proofs.Ytmkhiaikfeoedaa.QFnExactInputsOk
open Go.RowKit Go.Proofs.YtmkhiaikfeoedaaW.PrintWords Go.Proofs.YtmkhiaikfeoedaaW.PrintLast Go.Proofs.YtmkhiaikfeoedaaW.PrintMore
attribute [local go_sem] max2_int min2_int max_two min_two max_three min_three max_four min_four   -- for this text's walks alone
set_option linter.unusedVariables false
set_option linter.unusedSimpArgs false
def spec_InputsOk.d0 (l0 : List (S58)) : Decidable (Go.Proofs.Ytmkhiaikfeoedaa.GFnExactInputsOk.sm_SourceS l0) := by
  unfold Go.Proofs.Ytmkhiaikfeoedaa.GFnExactInputsOk.sm_SourceS Go.Proofs.Ytmkhiaikfeoedaa.GFnExactInputsOk.sm_Source Go.Proofs.Ytmkhiaikfeoedaa.GFnExactInputsOk.sm_StringS
  infer_instance
def spec_InputsOk.d1 (l1 : List (List (S54))) : Decidable (Go.Proofs.Ytmkhiaikfeoedaa.GFnExactInputsOk.sm_ArrivalSS l1) := by
  unfold Go.Proofs.Ytmkhiaikfeoedaa.GFnExactInputsOk.sm_ArrivalSS Go.Proofs.Ytmkhiaikfeoedaa.GFnExactInputsOk.sm_ArrivalS Go.Proofs.Ytmkhiaikfeoedaa.GFnExactInputsOk.sm_Arrival Go.Proofs.Ytmkhiaikfeoedaa.GFnExactInputsOk.sm_IntS
  infer_instance
def spec_InputsOk.f (l0 : List (S58)) (l1 : List (List (S54))) : Option (Bool) := @ite _ (Go.Proofs.Ytmkhiaikfeoedaa.GFnExactInputsOk.sm_SourceS l0 ∧ Go.Proofs.Ytmkhiaikfeoedaa.GFnExactInputsOk.sm_ArrivalSS l1) (@instDecidableAnd _ _ (spec_InputsOk.d0 l0) (spec_InputsOk.d1 l1)) (some (Go.Proofs.Ytmkhiaikfeoedaa.InputsOk.inputsB l0 l1)) none
theorem spec_InputsOk.calls (A0 : Option Addr) (c0 : Nat) (l0 : List (S58)) (A1 : Option Addr) (c1 : Nat) (l1 : List (List (S54))) (r : Bool) (w : World) (hr0 : Kd.C k58 w A0 l0.length l0) (hc0 : l0.length ≤ c0) (hr1 : Kd.C (Kd.slice 54 k54) w A1 l1.length l1) (hc1 : l1.length ≤ c1) (h : spec_InputsOk.f l0 l1 = some r) :
    Calls Try.prog 22 #[.slice A0 l0.length c0, .slice A1 l1.length c1] w fun e w' => e = .returned (.bool r) ∧ Below w.heap.size w w' := by
  unfold spec_InputsOk.f at h
  by_cases hl : Go.Proofs.Ytmkhiaikfeoedaa.GFnExactInputsOk.sm_SourceS l0 ∧ Go.Proofs.Ytmkhiaikfeoedaa.GFnExactInputsOk.sm_ArrivalSS l1
  · rw [if_pos hl] at h
    obtain rfl := Option.some.inj h
    exact Go.Proofs.Ytmkhiaikfeoedaa.InputsOk.spec_inputs_calls A0 A1 c0 c1 l0 l1 w hr0 hc0 hr1 hc1 hl.1 hl.2
  · rw [if_neg hl] at h; cases h
end Go.Proofs.Ytmkhiaikfeoedaa.QFnExactInputsOk
