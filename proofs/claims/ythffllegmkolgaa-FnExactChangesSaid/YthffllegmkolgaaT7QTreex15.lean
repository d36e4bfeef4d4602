import Derived.Test.YthffllegmkolgaaT7QTreex0
import Derived.Test.YthffllegmkolgaaT7QTreex8
import Derived.Test.YthffllegmkolgaaT7QTreex12
import Derived.Test.YthffllegmkolgaaT7QTreex14
namespace Go.Proofs.Ythffllegmkolgaa.QTree
open Go.RowKit Go.Proofs.YthffllegmkolgaaW.PrintWords Go.Proofs.YthffllegmkolgaaW.PrintLast Go.Proofs.YthffllegmkolgaaW.PrintMore
attribute [local go_sem] max2_int min2_int max_two min_two max_three min_three max_four min_four   -- for this text's walks alone
set_option linter.unusedVariables false
set_option linter.unusedSimpArgs false
def spec_l17Join.l0 : Nat → List (S48) → List (S48) → Int → Option ((List (S48)))
  | 0, _, _, _ => none
  | k + 1, x1, x5, x6 => if x6 < (x1.length : Int) then (if 0 ≤ x6 then ((spec_l17In.f x5 ((rd_T48 x1 x6).f0) ((rd_T48 x1 x6).f1) ((rd_T48 x1 x6).f2) ((rd_T48 x1 x6).f3)).bind fun t334 => (spec_l17Join.l0 k x1 t334 (wrap64 (x6 + 1)))) else (none)) else (some x5)
def spec_l17Join.f (k : Nat) (l0 : List (S48)) (l1 : List (S48)) : Option ((List (S48))) := (some (([] : List (S48)) : List (S48))).bind fun y327 => (if y327.length + l0.length < 2932031007402 then (spec_l17Join.l0 k l1 (y327 ++ l0) 0) else (none))
def laws_heldCellSS.l0 : Nat → List (List (S48)) → Int → Int → Option (Int)
  | 0, _, _, _ => none
  | k + 1, x0, x1, x5 => if x5 < (x0.length : Int) then (if 0 ≤ x5 then ((laws_heldCellS.f k (rd_L6 x0 x5) x1).bind fun t404 => (if t404 < 0 then (some (-1)) else (laws_heldCellSS.l0 k x0 t404 (wrap64 (x5 + 1))))) else (none)) else (some x1)
def laws_heldCellSS.f (k : Nat) (l0 : List (List (S48))) (a1 : Int) : Option (Int) := laws_heldCellSS.l0 k l0 a1 0
def laws_heldTree.f (k : Nat) (l0_0 : List (S48)) (l0_1 : List (List (S48))) (a0_2 : Int) (a0_3 : Int) (a1 : Int) : Option (Int) := (laws_heldCellS.f k l0_0 a1).bind fun t406 => (if t406 < 0 then (some (-1)) else ((laws_heldCellSS.f k l0_1 t406).bind fun t407 => (if t407 < 0 then (some (-1)) else (some t407))))
def impl_copyTree.l0 : Nat → List (List (S48)) → Int → Int → List (S48) → List (List (S48)) → Int → Int → Option ((List (S48)) × (List (List (S48))) × Int × Int)
  | 0, _, _, _, _, _, _, _ => none
  | k + 1, x13, x14, x15, x413000, x413001, x413002, x413003 => if x15 < x14 then (if 0 ≤ x15 then (if x15 < (x13.length : Int) then ((impl_Cell_100.f (rd_L6 x13 x15)).bind fun t418 => (if x413001.length < 5864062014805 then (impl_copyTree.l0 k x13 x14 (wrap64 (x15 + 1)) x413000 (x413001 ++ [t418]) x413002 x413003) else (none))) else (none)) else (none)) else (some (x413000, x413001, x413002, x413003))
def impl_copyTree.f (k : Nat) (l0_0 : List (S48)) (l0_1 : List (List (S48))) (a0_2 : Int) (a0_3 : Int) : Option ((List (S48)) × (List (List (S48))) × Int × Int) := (impl_Cell_100.f l0_0).bind fun t414 => (impl_copyTree.l0 k l0_1 (l0_1.length : Int) 0 t414 ([] : List (List (S48))) a0_2 a0_3)
def laws_eqPair.f (a0_0 : ByteArray) (a0_1 : ByteArray) (a1_0 : ByteArray) (a1_1 : ByteArray) : Option (Bool) := if a0_0.toList = a1_0.toList then (if a0_1.toList = a1_1.toList then (some true) else (some false)) else (some false)
end Go.Proofs.Ythffllegmkolgaa.QTree
