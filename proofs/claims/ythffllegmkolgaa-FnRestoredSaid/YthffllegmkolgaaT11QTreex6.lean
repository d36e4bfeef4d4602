import Derived.Test.YthffllegmkolgaaT11QTreex0
namespace Go.Proofs.Ythffllegmkolgaa.QTree
open Go.RowKit Go.Proofs.YthffllegmkolgaaW.PrintWords Go.Proofs.YthffllegmkolgaaW.PrintLast Go.Proofs.YthffllegmkolgaaW.PrintMore
attribute [local go_sem] max2_int min2_int max_two min_two max_three min_three max_four min_four   -- for this text's walks alone
set_option linter.unusedVariables false
set_option linter.unusedSimpArgs false
def spec_l5Least.f (a0 : Int) (a1 : Int) : Option (Int) := if a0 < a1 then (some a0) else (some a1)
def spec_l17Span.l0 : Nat → List (S48) → Int → Int → Int → Option (Int × Int)
  | 0, _, _, _, _ => none
  | k + 1, x0, x4, x5, x6 => if x6 < (x0.length : Int) then (if 0 ≤ x6 then ((spec_l5Least.f x4 ((rd_T48 x0 x6).f2)).bind fun t161 => (if ((rd_T48 x0 x6).f2) > x5 then (spec_l17Span.l0 k x0 t161 ((rd_T48 x0 x6).f2) (wrap64 (x6 + 1))) else (spec_l17Span.l0 k x0 t161 x5 (wrap64 (x6 + 1))))) else (none)) else (some (x4, x5))
def spec_l17Span.f (k : Nat) (l0 : List (S48)) : Option (Int × Int) := spec_l17Span.l0 k l0 401 0 0
theorem spec_l17Span.mono_l : ∀ k, (∀ y0 y1 y2 y3, LeO (spec_l17Span.l0 k y0 y1 y2 y3) (spec_l17Span.l0 (k + 1) y0 y1 y2 y3))
  | 0 => fun _ _ _ _ r h => by simp [spec_l17Span.l0] at h
  | k + 1 => by
    have ih0 := spec_l17Span.mono_l k
    · intro y0 y1 y2 y3
      unfold spec_l17Span.l0
      repeat' first
      | (with_reducible exact ih0 _ _ _ _)
      | (with_reducible exact LeO.refl _)
      | (with_reducible exact LeO.none _)
      | (with_reducible refine LeO.ite ?_ ?_)
      | (with_reducible refine LeO.bind ?_ (fun _ => ?_))
      | exact ih0 _ _ _ _
      | exact LeO.none _
      | refine LeO.ite ?_ ?_
      | refine LeO.bind ?_ (fun _ => ?_)
theorem spec_l17Span.mono : ∀ a0 k, LeO (spec_l17Span.f k a0) (spec_l17Span.f (k + 1) a0) := by
  intro a0 k
  have ih0 := spec_l17Span.mono_l k
  unfold spec_l17Span.f
  repeat' first
      | (with_reducible exact ih0 _ _ _ _)
      | (with_reducible exact LeO.refl _)
      | (with_reducible exact LeO.none _)
      | (with_reducible refine LeO.ite ?_ ?_)
      | (with_reducible refine LeO.bind ?_ (fun _ => ?_))
      | exact ih0 _ _ _ _
      | exact LeO.none _
      | refine LeO.ite ?_ ?_
      | refine LeO.bind ?_ (fun _ => ?_)
def spec_l17All.l0 : Nat → List (S48) → Int → List (S48) → List (List (S48)) → Int → Int → Option ((List (S48)))
  | 0, _, _, _, _, _, _ => none
  | k + 1, x3, x4, x165000, x165001, x165002, x165003 => if x4 < (x165001.length : Int) then (if 0 ≤ x4 then (if x3.length + (rd_L6 x165001 x4).length < 2932031007402 then (spec_l17All.l0 k (x3 ++ (rd_L6 x165001 x4)) (wrap64 (x4 + 1)) x165000 x165001 x165002 x165003) else (none)) else (none)) else (some x3)
def spec_l17All.f (k : Nat) (l0_0 : List (S48)) (l0_1 : List (List (S48))) (a0_2 : Int) (a0_3 : Int) : Option ((List (S48))) := (some (([] : List (S48)) : List (S48))).bind fun y165 => (if y165.length + l0_0.length < 2932031007402 then (spec_l17All.l0 k (y165 ++ l0_0) 0 l0_0 l0_1 a0_2 a0_3) else (none))
theorem spec_l17All.mono_l : ∀ k, (∀ y0 y1 y2 y3 y4 y5, LeO (spec_l17All.l0 k y0 y1 y2 y3 y4 y5) (spec_l17All.l0 (k + 1) y0 y1 y2 y3 y4 y5))
  | 0 => fun _ _ _ _ _ _ r h => by simp [spec_l17All.l0] at h
  | k + 1 => by
    have ih0 := spec_l17All.mono_l k
    · intro y0 y1 y2 y3 y4 y5
      unfold spec_l17All.l0
      repeat' first
      | (with_reducible exact ih0 _ _ _ _ _ _)
      | (with_reducible exact LeO.refl _)
      | (with_reducible exact LeO.none _)
      | (with_reducible refine LeO.ite ?_ ?_)
      | (with_reducible refine LeO.bind ?_ (fun _ => ?_))
      | exact ih0 _ _ _ _ _ _
      | exact LeO.none _
      | refine LeO.ite ?_ ?_
      | refine LeO.bind ?_ (fun _ => ?_)
theorem spec_l17All.mono : ∀ a0 a1 a2 a3 k, LeO (spec_l17All.f k a0 a1 a2 a3) (spec_l17All.f (k + 1) a0 a1 a2 a3) := by
  intro a0 a1 a2 a3 k
  have ih0 := spec_l17All.mono_l k
  unfold spec_l17All.f
  repeat' first
      | (with_reducible exact ih0 _ _ _ _ _ _)
      | (with_reducible exact LeO.refl _)
      | (with_reducible exact LeO.none _)
      | (with_reducible refine LeO.ite ?_ ?_)
      | (with_reducible refine LeO.bind ?_ (fun _ => ?_))
      | exact ih0 _ _ _ _ _ _
      | exact LeO.none _
      | refine LeO.ite ?_ ?_
      | refine LeO.bind ?_ (fun _ => ?_)
end Go.Proofs.Ythffllegmkolgaa.QTree
