import Derived.Test.YthffllegmkolgaaT7QTreex0
import Derived.Test.YthffllegmkolgaaT7CelSort
namespace Go.Proofs.Ythffllegmkolgaa.QTree
open Go.RowKit Go.Proofs.YthffllegmkolgaaW.PrintWords Go.Proofs.YthffllegmkolgaaW.PrintLast Go.Proofs.YthffllegmkolgaaW.PrintMore
attribute [local go_sem] max2_int min2_int max_two min_two max_three min_three max_four min_four   -- for this text's walks alone
set_option linter.unusedVariables false
set_option linter.unusedSimpArgs false
def impl_Cell_73.ok (l0 : List (S48)) : Bool := l0.all (fun c => decide (1 ≤ c.f2 ∧ c.f2 ≤ 400)) && TreeK.noTie l0 && decide (l0.length < 4611686018427387904)
def impl_Cell_73.f (l0 : List (S48)) : Option (List (S48)) := if impl_Cell_73.ok l0 = true then some (TreeK.srt l0) else none
end Go.Proofs.Ythffllegmkolgaa.QTree
