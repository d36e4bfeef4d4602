import Derived.Test.YthffllegmkolgaaT7QTreex0
import Derived.Test.YthffllegmkolgaaT7QTreex4
namespace Go.Proofs.Ythffllegmkolgaa.QTree
open Go.RowKit Go.Proofs.YthffllegmkolgaaW.PrintWords Go.Proofs.YthffllegmkolgaaW.PrintLast Go.Proofs.YthffllegmkolgaaW.PrintMore
attribute [local go_sem] max2_int min2_int max_two min_two max_three min_three max_four min_four   -- for this text's walks alone
set_option linter.unusedVariables false
set_option linter.unusedSimpArgs false
def spec_NewTree.f (a0 : Int) : Option ((List (S48)) × (List (List (S48))) × Int × Int) := (spec_l1In.f a0 1 50).bind fun t307 => (if t307 = true then (some (([] : List (S48)), ([] : List (List (S48))), 0, a0)) else (some (([] : List (S48)), ([] : List (List (S48))), 0, 0)))
def spec_l17Copy.l0 : Nat → Int → List (S48) → List (List (S48)) → Int → Int → List (S48) → List (List (S48)) → Int → Int → Option ((List (S48)) × (List (List (S48))) × Int × Int)
  | 0, _, _, _, _, _, _, _, _, _ => none
  | k + 1, x4, x309000, x309001, x309002, x309003, x317000, x317001, x317002, x317003 => if x4 < (x309001.length : Int) then ((some (([] : List (S48)) : List (S48))).bind fun y317 => (if 0 ≤ x4 then (if y317.length + (rd_L6 x309001 x4).length < 2932031007402 then (if x317001.length < 5864062014805 then (spec_l17Copy.l0 k (wrap64 (x4 + 1)) x309000 x309001 x309002 x309003 x317000 (x317001 ++ [(y317 ++ (rd_L6 x309001 x4))]) x317002 x317003) else (none)) else (none)) else (none))) else (some (x317000, x317001, x317002, x317003))
def spec_l17Copy.f (k : Nat) (l0_0 : List (S48)) (l0_1 : List (List (S48))) (a0_2 : Int) (a0_3 : Int) : Option ((List (S48)) × (List (List (S48))) × Int × Int) := (some (([] : List (S48)) : List (S48))).bind fun y310 => (if y310.length + l0_0.length < 2932031007402 then (spec_l17Copy.l0 k 0 l0_0 l0_1 a0_2 a0_3 (y310 ++ l0_0) ([] : List (List (S48))) a0_2 a0_3) else (none))
def spec_l17Copy.T1 : Bool × List (List Nat × List Nat) := (true, [([], []), ([0], [0]), ([], []), ([2], [2]), ([], []), ([], []), ([5], [5]), ([4, 6], [4, 6]), ([1, 3, 7], [1, 3, 7]), ([], []), ([9, 8, 7, 0, 1, 2, 3, 4, 5, 6, 7, 8, 9], [8, 9])])
def spec_l17Copy.B1 : List Nat := [0, 1, 0, 4, 0, 0, 32, 112, 255, 0, 1023]
def spec_l17Copy.B5 : List Nat := [0, 1, 0, 0, 8, 0, 56, 120, 252, 508, 1023, 2047, 4095]
end Go.Proofs.Ythffllegmkolgaa.QTree
