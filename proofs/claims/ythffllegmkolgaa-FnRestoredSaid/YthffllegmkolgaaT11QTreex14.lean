import Derived.Test.YthffllegmkolgaaT11QTreex0
import Derived.Test.YthffllegmkolgaaT11In
namespace Go.Proofs.Ythffllegmkolgaa.QTree
open Go.RowKit Go.Proofs.YthffllegmkolgaaW.PrintWords Go.Proofs.YthffllegmkolgaaW.PrintLast Go.Proofs.YthffllegmkolgaaW.PrintMore
attribute [local go_sem] max2_int min2_int max_two min_two max_three min_three max_four min_four   -- for this text's walks alone
set_option linter.unusedVariables false
set_option linter.unusedSimpArgs false
def spec_l17In.f (l0 : List (S48)) (a1_0 : ByteArray) (a1_1 : ByteArray) (a1_2 : Int) (a1_3 : Bool) : Option (List (S48)) := if l0.length ≤ 1000000000 then some (TreeK.insC ⟨a1_0, a1_1, a1_2, a1_3⟩ l0) else none
theorem spec_l17In.calls (P0_ : Nat → Prop) (u9000_ : Value) (l0 : List (S48)) (a1_0 : ByteArray) (a1_1 : ByteArray) (a1_2 : Int) (a1_3 : Bool) (r : List (S48)) (w0 w : World) (hB : Below w0.heap.size w0 w) (ho0 : Kd.R k48 48 w w0.heap.size P0_ u9000_ l0) (h : spec_l17In.f l0 a1_0 a1_1 a1_2 a1_3 = some r) :
    Calls Try.prog 91 #[u9000_, .agg #[.string a1_0, .string a1_1, .int .i64 a1_2, .bool a1_3]] w fun e w' => ∃ v0_ : Value, e = .returned (v0_) ∧ Kd.R k48 48 w' w0.heap.size (fun k_ => (P0_ k_ ∨ w.heap.size ≤ k_)) v0_ r ∧ Below w0.heap.size w0 w' ∧ Kept w w' (fun k_ => P0_ k_) := by
  unfold spec_l17In.f at h
  by_cases hl : l0.length ≤ 1000000000
  · rw [if_pos hl] at h
    obtain rfl := Option.some.inj h
    exact TreeK.call_in P0_ u9000_ l0 ⟨a1_0, a1_1, a1_2, a1_3⟩ w0 w hB ho0 hl
  · rw [if_neg hl] at h; cases h
end Go.Proofs.Ythffllegmkolgaa.QTree
