/- Joined: QTreex1, QTreex18. -/
import Derived.Test.YthffllegmkolgaaT10QTreex0
import Derived.Test.YthffllegmkolgaaT10QTreex8
import Derived.Test.YthffllegmkolgaaT10QTreex17
namespace Go.Proofs.Ythffllegmkolgaa.QTree
open Go.RowKit Go.Proofs.YthffllegmkolgaaW.PrintWords Go.Proofs.YthffllegmkolgaaW.PrintLast Go.Proofs.YthffllegmkolgaaW.PrintMore
attribute [local go_sem] max2_int min2_int max_two min_two max_three min_three max_four min_four   -- for this text's walks alone
set_option linter.unusedVariables false
set_option linter.unusedSimpArgs false
theorem eqA105 (d : Nat) (w : World) (x0 y0 : ByteArray) (x1 y1 : ByteArray) :
    (Op.equalIn (d + 2) 105 (.agg #[.string x0, .string x1]) (.agg #[.string y0, .string y1])).run Try.prog w = .ok (x0.toList == y0.toList && (x1.toList == y1.toList)) w := by
  refine eqA_of Try.underlying105 (by kernel_rfl) ?_
  refine eqf_cons (by rfl) (by go_simp; rfl) (by go_simp; rfl) (by go_simp) ?_
  exact eqf_last (by rfl) (by go_simp; rfl) (by go_simp; rfl) (by go_simp)
end Go.Proofs.Ythffllegmkolgaa.QTree

namespace Go.Proofs.Ythffllegmkolgaa.QTree
open Go.RowKit Go.Proofs.YthffllegmkolgaaW.PrintWords Go.Proofs.YthffllegmkolgaaW.PrintLast Go.Proofs.YthffllegmkolgaaW.PrintMore
attribute [local go_sem] max2_int min2_int max_two min_two max_three min_three max_four min_four   -- for this text's walks alone
set_option linter.unusedVariables false
set_option linter.unusedSimpArgs false
attribute [local go_sem high] eqA105
def spec_l1Once.f (s0_0 : List Int) (s0_1 : Int) (s0_2 : Int) (a1 : Int) : Option (Bool × Int × Int) := (spec_l1Below.f s0_0 s0_1 s0_2 a1).bind fun bt561 => (some ((bt561.1 == 0), bt561.2.1, bt561.2.2))
def spec_l1PickInt.f (s0_0 : List Int) (s0_1 : Int) (s0_2 : Int) (l1 : List Int) : Option (Int × Int × Int) := (spec_l1Below.f s0_0 s0_1 s0_2 (l1.length : Int)).bind fun bt564 => (if 0 ≤ bt564.1 then (if bt564.1 < (l1.length : Int) then (some (rd l1 bt564.1, bt564.2.1, bt564.2.2)) else (none)) else (none))
def impl_NewTree.f (a0 : Int) : Option ((List (S48)) × (List (List (S48))) × Int × Int) := (impl_within.f a0 1 50).bind fun t569 => (if t569 = true then (some (([] : List (S48)), ([] : List (List (S48))), 0, a0)) else (some (([] : List (S48)), ([] : List (List (S48))), 0, 0)))
def laws_at.f (l0 : List Int) (a1 : Int) : Option (Int) := if a1 < (l0.length : Int) then (if 0 ≤ a1 then (some (wrap64 (rd l0 a1))) else (none)) else (some (Int.tmod (wrap64 ((wrap64 (a1 * 7)) + (l0.length : Int))) 256))
def laws_last.l0 : Nat → List (S48) → ByteArray → Int → Option (ByteArray × Bool)
  | 0, _, _, _ => none
  | k + 1, x0, x1, x8 => if x8 ≥ 0 then (if x8 < (x0.length : Int) then (if 0 ≤ x8 then (if ((rd_T48 x0 x8).f0).toList = x1.toList then (some ((rd_T48 x0 x8).f1, !((rd_T48 x0 x8).f3))) else (laws_last.l0 k x0 x1 (wrap64 (x8 - 1)))) else (none)) else (laws_last.l0 k x0 x1 (wrap64 (x8 - 1)))) else (some ((⟨#[]⟩ : ByteArray), false))
def laws_last.f (k : Nat) (l0 : List (S48)) (a1 : ByteArray) (a2 : Int) : Option (ByteArray × Bool) := laws_last.l0 k l0 a1 (wrap64 (a2 - 1))
def laws_samePairs.l0 : Nat → List (S105) → List (S105) → Int → Option (Bool)
  | 0, _, _, _ => none
  | k + 1, x0, x1, x5 => if x5 < (x0.length : Int) then (if 0 ≤ x5 then (if x5 < (x1.length : Int) then (if (!((((rd_T105 x0 x5).f0).toList) == (((rd_T105 x1 x5).f0).toList)) || (!((((rd_T105 x0 x5).f1).toList) == (((rd_T105 x1 x5).f1).toList)))) = true then (some false) else (laws_samePairs.l0 k x0 x1 (wrap64 (x5 + 1)))) else (none)) else (none)) else (some true)
def laws_samePairs.f (k : Nat) (l0 : List (S105)) (l1 : List (S105)) : Option (Bool) := if (l0.length : Int) = (l1.length : Int) then (laws_samePairs.l0 k l0 l1 0) else (some false)
end Go.Proofs.Ythffllegmkolgaa.QTree
