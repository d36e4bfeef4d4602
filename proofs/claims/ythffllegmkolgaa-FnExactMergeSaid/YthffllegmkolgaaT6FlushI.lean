/- The program's flush of a tree, in memory. -/
import Derived.Test.YthffllegmkolgaaT6TreeCopy
import Derived.Handy
namespace Go.Proofs.Ythffllegmkolgaa.TreeK
open Go.RowKit Go.Proofs.YthffllegmkolgaaW.PrintWords Go.Proofs.YthffllegmkolgaaW.PrintLast Go.Proofs.YthffllegmkolgaaW.PrintMore Go.Proofs.Ythffllegmkolgaa.QTree Go.Proofs.Ythffllegmkolgaa.EvKit
set_option linter.unusedSimpArgs false
set_option linter.unusedVariables false
theorem noTie_sub {a b : List Cel} (h : a.Sublist b) (hn : noTie b = true) : noTie a = true := by
  unfold noTie at hn ⊢
  exact decide_eq_true ((of_decide_eq_true hn).sublist h)
abbrev blkT (w : World) (g : Nat) (v0 v1 : Value) (s q : Int) : Prop := w.heap[g]? = some (.cells #[v0, v1, .int .i64 s, .int .i64 q] 31 (0, 0))
theorem blkT_put1 {w : World} {g : Nat} {v0 v1 : Value} {s q : Int} (h : blkT w g v0 v1 s q) (u : Value) : blkT (w.setCell ⟨g, 1, none⟩ u) g v0 u s q := blk_put h 1 u rfl
end Go.Proofs.Ythffllegmkolgaa.TreeK
