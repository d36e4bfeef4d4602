/- The program's flush of a tree, in memory. -/
import Derived.Test.YthffllegmkolgaaT7TreeOwn
import Derived.Test.YthffllegmkolgaaT7QTreex15
import Derived.Test.YthffllegmkolgaaT7QTreex13
import Derived.Handy
namespace Go.Proofs.Ythffllegmkolgaa.TreeK
open Go.RowKit Go.Proofs.YthffllegmkolgaaW.PrintWords Go.Proofs.YthffllegmkolgaaW.PrintLast Go.Proofs.YthffllegmkolgaaW.PrintMore Go.Proofs.Ythffllegmkolgaa.QTree Go.Proofs.Ythffllegmkolgaa.EvKit
set_option linter.unusedSimpArgs false
set_option linter.unusedVariables false
abbrev blkT (w : World) (g : Nat) (v0 v1 : Value) (s q : Int) : Prop := w.heap[g]? = some (.cells #[v0, v1, .int .i64 s, .int .i64 q] 31 (0, 0))
end Go.Proofs.Ythffllegmkolgaa.TreeK
