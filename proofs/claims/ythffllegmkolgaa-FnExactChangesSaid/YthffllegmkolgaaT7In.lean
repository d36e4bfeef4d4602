/- The reference's l17In, called: a cell is put where it stands. -/
import Derived.Test.YthffllegmkolgaaT7TreeSort
import Derived.Test.YthffllegmkolgaaT7TreeSpec2
import Derived.Test.YthffllegmkolgaaT7TreeCalls
import Derived.Test.YthffllegmkolgaaT7WKept
import Derived.Laws.IdiomCopy
import Derived.Lib.SliceRun
import Derived.BigQuiet
import Derived.Deep.RegionHeld3
import Derived.StillTailTactics
namespace Go.Proofs.Ythffllegmkolgaa.TreeK
open Go.RowKit Go.Proofs.YthffllegmkolgaaW.PrintWords Go.Proofs.YthffllegmkolgaaW.PrintLast Go.Proofs.YthffllegmkolgaaW.PrintMore Go.Proofs.Ythffllegmkolgaa.QTree
set_option linter.unusedSimpArgs false
set_option linter.unusedVariables false
theorem setCells4 (w : World) (g o : Nat) (a b c d : Value) : w.setCells g o [a, b, c, d] = (((w.setCell ⟨g, o, none⟩ a).setCell ⟨g, o + 1, none⟩ b).setCell ⟨g, o + 2, none⟩ c).setCell ⟨g, o + 3, none⟩ d := rfl
end Go.Proofs.Ythffllegmkolgaa.TreeK
