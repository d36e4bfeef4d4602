import Derived.Test.YthffllegmkolgaaT10QTreex0
import Derived.Test.YthffllegmkolgaaT10In
namespace Go.Proofs.Ythffllegmkolgaa.QTree
open Go.RowKit Go.Proofs.YthffllegmkolgaaW.PrintWords Go.Proofs.YthffllegmkolgaaW.PrintLast Go.Proofs.YthffllegmkolgaaW.PrintMore
attribute [local go_sem] max2_int min2_int max_two min_two max_three min_three max_four min_four   -- for this text's walks alone
set_option linter.unusedVariables false
set_option linter.unusedSimpArgs false
def spec_l17In.f (l0 : List (S48)) (a1_0 : ByteArray) (a1_1 : ByteArray) (a1_2 : Int) (a1_3 : Bool) : Option (List (S48)) := if l0.length ≤ 1000000000 then some (TreeK.insC ⟨a1_0, a1_1, a1_2, a1_3⟩ l0) else none
end Go.Proofs.Ythffllegmkolgaa.QTree
