/- Joined: QTreex5, QTreex7. -/
import Derived.Test.YthffllegmkolgaaT11QTreex0
import Derived.Test.YthffllegmkolgaaT11QTreex4
import Derived.Test.YthffllegmkolgaaT11QTreex6
namespace Go.Proofs.Ythffllegmkolgaa.QTree
open Go.RowKit Go.Proofs.YthffllegmkolgaaW.PrintWords Go.Proofs.YthffllegmkolgaaW.PrintLast Go.Proofs.YthffllegmkolgaaW.PrintMore
attribute [local go_sem] max2_int min2_int max_two min_two max_three min_three max_four min_four   -- for this text's walks alone
set_option linter.unusedVariables false
set_option linter.unusedSimpArgs false
def spec_l17Sorted.l0 : Nat → List (S48) → Int → Option (Bool)
  | 0, _, _ => none
  | k + 1, x0, x3 => if x3 < (x0.length : Int) then (if 0 ≤ x3 then ((spec_l17Cell.f ((rd_T48 x0 x3).f0) ((rd_T48 x0 x3).f1) ((rd_T48 x0 x3).f2) ((rd_T48 x0 x3).f3)).bind fun t156 => (if t156 = true then (if x3 > 0 then (if 0 ≤ (wrap64 (x3 - 1)) then (if (wrap64 (x3 - 1)) < (x0.length : Int) then ((spec_l17Ahead.f ((rd_T48 x0 (wrap64 (x3 - 1))).f0) ((rd_T48 x0 (wrap64 (x3 - 1))).f1) ((rd_T48 x0 (wrap64 (x3 - 1))).f2) ((rd_T48 x0 (wrap64 (x3 - 1))).f3) ((rd_T48 x0 x3).f0) ((rd_T48 x0 x3).f1) ((rd_T48 x0 x3).f2) ((rd_T48 x0 x3).f3)).bind fun t159 => (if t159 = true then (spec_l17Sorted.l0 k x0 (wrap64 (x3 + 1))) else (some false))) else (none)) else (none)) else (spec_l17Sorted.l0 k x0 (wrap64 (x3 + 1)))) else (some false))) else (none)) else (some true)
def spec_l17Sorted.f (k : Nat) (l0 : List (S48)) : Option (Bool) := spec_l17Sorted.l0 k l0 0
theorem spec_l17Sorted.mono_l : ∀ k, (∀ y0 y1, LeO (spec_l17Sorted.l0 k y0 y1) (spec_l17Sorted.l0 (k + 1) y0 y1))
  | 0 => fun _ _ r h => by simp [spec_l17Sorted.l0] at h
  | k + 1 => by
    have ih0 := spec_l17Sorted.mono_l k
    · intro y0 y1
      unfold spec_l17Sorted.l0
      repeat' first
      | (with_reducible exact ih0 _ _)
      | (with_reducible exact LeO.refl _)
      | (with_reducible exact LeO.none _)
      | (with_reducible refine LeO.ite ?_ ?_)
      | (with_reducible refine LeO.bind ?_ (fun _ => ?_))
      | exact ih0 _ _
      | exact LeO.none _
      | refine LeO.ite ?_ ?_
      | refine LeO.bind ?_ (fun _ => ?_)
theorem spec_l17Sorted.mono : ∀ a0 k, LeO (spec_l17Sorted.f k a0) (spec_l17Sorted.f (k + 1) a0) := by
  intro a0 k
  have ih0 := spec_l17Sorted.mono_l k
  unfold spec_l17Sorted.f
  repeat' first
      | (with_reducible exact ih0 _ _)
      | (with_reducible exact LeO.refl _)
      | (with_reducible exact LeO.none _)
      | (with_reducible refine LeO.ite ?_ ?_)
      | (with_reducible refine LeO.bind ?_ (fun _ => ?_))
      | exact ih0 _ _
      | exact LeO.none _
      | refine LeO.ite ?_ ?_
      | refine LeO.bind ?_ (fun _ => ?_)
def spec_l17Sorted.B4 : List Nat := [0, 0, 3, 7, 15, 31, 63, 127, 255, 511, 1023, 1023, 3071, 8191, 16383, 1023, 1023, 99327, 230399, 524287, 1048575, 2097151, 4194303]
end Go.Proofs.Ythffllegmkolgaa.QTree

namespace Go.Proofs.Ythffllegmkolgaa.QTree
open Go.RowKit Go.Proofs.YthffllegmkolgaaW.PrintWords Go.Proofs.YthffllegmkolgaaW.PrintLast Go.Proofs.YthffllegmkolgaaW.PrintMore
attribute [local go_sem] max2_int min2_int max_two min_two max_three min_three max_four min_four   -- for this text's walks alone
set_option linter.unusedVariables false
set_option linter.unusedSimpArgs false
mutual
def spec_TreeOk.j0 : Nat → Bool → List (S48) → List (List (S48)) → Int → Int → Option (Bool)
  | 0, _, _, _, _, _ => none
  | k + 1, x39, x176000, x176001, x176002, x176003 => if x39 = true then (some false) else ((spec_l17Span.f k x176000).bind fun bt179 => (if bt179.2 > x176002 then (some false) else (if (x176000.length : Int) = 0 then (spec_TreeOk.j1 k (wrap64 (x176002 + 1)) x176000 x176001 x176002 x176003) else (spec_TreeOk.j1 k bt179.1 x176000 x176001 x176002 x176003))))
def spec_TreeOk.j1 : Nat → Int → List (S48) → List (List (S48)) → Int → Int → Option (Bool)
  | 0, _, _, _, _, _ => none
  | k + 1, x5, x176000, x176001, x176002, x176003 => spec_TreeOk.l0 k x5 0 x176000 x176001 x176002 x176003
def spec_TreeOk.l0 : Nat → Int → Int → List (S48) → List (List (S48)) → Int → Int → Option (Bool)
  | 0, _, _, _, _, _, _ => none
  | k + 1, x5, x6, x176000, x176001, x176002, x176003 => if x6 < (x176001.length : Int) then (if 0 ≤ x6 then (if ((rd_L6 x176001 x6).length : Int) = 0 then (spec_TreeOk.j3 k x5 x6 true x176000 x176001 x176002 x176003) else ((spec_l17Sorted.f k (rd_L6 x176001 x6)).bind fun t183 => (spec_TreeOk.j3 k x5 x6 (!t183) x176000 x176001 x176002 x176003))) else (none)) else ((spec_l17All.f k x176000 x176001 x176002 x176003).bind fun t187 => (if 401 ≤ 281474976710656 then (spec_TreeOk.l1 k t187 (List.replicate 401 false) 0) else (none)))
def spec_TreeOk.j3 : Nat → Int → Int → Bool → List (S48) → List (List (S48)) → Int → Int → Option (Bool)
  | 0, _, _, _, _, _, _, _ => none
  | k + 1, x5, x6, x80, x176000, x176001, x176002, x176003 => if x80 = true then (some false) else (if 0 ≤ x6 then (if x6 < (x176001.length : Int) then ((spec_l17Span.f k (rd_L6 x176001 x6)).bind fun bt185 => (if bt185.2 ≥ x5 then (some false) else (spec_TreeOk.l0 k bt185.1 (wrap64 (x6 + 1)) x176000 x176001 x176002 x176003))) else (none)) else (none))
def spec_TreeOk.l1 : Nat → List (S48) → List Bool → Int → Option (Bool)
  | 0, _, _, _ => none
  | k + 1, x7, x8, x9 => if x9 < (x7.length : Int) then (if 0 ≤ x9 then (if 0 ≤ ((rd_T48 x7 x9).f2) then (if ((rd_T48 x7 x9).f2) < (x8.length : Int) then (if rdOf false x8 ((rd_T48 x7 x9).f2) = true then (some false) else (spec_TreeOk.l1 k x7 (x8.set (((rd_T48 x7 x9).f2) : Int).toNat true) (wrap64 (x9 + 1)))) else (none)) else (none)) else (none)) else (some true)
end
def spec_TreeOk.f (k : Nat) (l0_0 : List (S48)) (l0_1 : List (List (S48))) (a0_2 : Int) (a0_3 : Int) : Option (Bool) := (spec_l1In.f a0_3 1 50).bind fun t176 => (if t176 = true then ((spec_l1In.f a0_2 0 400).bind fun t177 => (if t177 = true then (if (l0_0.length : Int) > a0_3 then (spec_TreeOk.j0 k true l0_0 l0_1 a0_2 a0_3) else (if (l0_1.length : Int) > 6 then (spec_TreeOk.j0 k true l0_0 l0_1 a0_2 a0_3) else ((spec_l17Sorted.f k l0_0).bind fun t178 => (spec_TreeOk.j0 k (!t178) l0_0 l0_1 a0_2 a0_3)))) else (spec_TreeOk.j0 k true l0_0 l0_1 a0_2 a0_3))) else (spec_TreeOk.j0 k true l0_0 l0_1 a0_2 a0_3))
theorem spec_TreeOk.mono_l : ∀ k, (∀ y0 y1 y2 y3 y4, LeO (spec_TreeOk.j0 k y0 y1 y2 y3 y4) (spec_TreeOk.j0 (k + 1) y0 y1 y2 y3 y4)) ∧ (∀ y0 y1 y2 y3 y4, LeO (spec_TreeOk.j1 k y0 y1 y2 y3 y4) (spec_TreeOk.j1 (k + 1) y0 y1 y2 y3 y4)) ∧ (∀ y0 y1 y2 y3 y4 y5, LeO (spec_TreeOk.l0 k y0 y1 y2 y3 y4 y5) (spec_TreeOk.l0 (k + 1) y0 y1 y2 y3 y4 y5)) ∧ (∀ y0 y1 y2 y3 y4 y5 y6, LeO (spec_TreeOk.j3 k y0 y1 y2 y3 y4 y5 y6) (spec_TreeOk.j3 (k + 1) y0 y1 y2 y3 y4 y5 y6)) ∧ (∀ y0 y1 y2, LeO (spec_TreeOk.l1 k y0 y1 y2) (spec_TreeOk.l1 (k + 1) y0 y1 y2))
  | 0 => ⟨fun _ _ _ _ _ r h => by simp [spec_TreeOk.j0] at h, fun _ _ _ _ _ r h => by simp [spec_TreeOk.j1] at h, fun _ _ _ _ _ _ r h => by simp [spec_TreeOk.l0] at h, fun _ _ _ _ _ _ _ r h => by simp [spec_TreeOk.j3] at h, fun _ _ _ r h => by simp [spec_TreeOk.l1] at h⟩
  | k + 1 => by
    obtain ⟨ih0, ih1, ih2, ih3, ih4⟩ := spec_TreeOk.mono_l k
    refine ⟨?_, ?_, ?_, ?_, ?_⟩
    · intro y0 y1 y2 y3 y4
      unfold spec_TreeOk.j0
      repeat' first
      | (with_reducible exact ih0 _ _ _ _ _)
      | (with_reducible exact ih1 _ _ _ _ _)
      | (with_reducible exact ih2 _ _ _ _ _ _)
      | (with_reducible exact ih3 _ _ _ _ _ _ _)
      | (with_reducible exact ih4 _ _ _)
      | (with_reducible exact spec_l17All.mono _ _ _ _ _)
      | (with_reducible exact spec_l17Sorted.mono _ _)
      | (with_reducible exact spec_l17Span.mono _ _)
      | (with_reducible exact LeO.refl _)
      | (with_reducible exact LeO.none _)
      | (with_reducible refine LeO.ite ?_ ?_)
      | (with_reducible refine LeO.bind ?_ (fun _ => ?_))
      | exact ih0 _ _ _ _ _
      | exact ih1 _ _ _ _ _
      | exact ih2 _ _ _ _ _ _
      | exact ih3 _ _ _ _ _ _ _
      | exact ih4 _ _ _
      | exact spec_l17All.mono _ _ _ _ _
      | exact spec_l17Sorted.mono _ _
      | exact spec_l17Span.mono _ _
      | exact LeO.none _
      | refine LeO.ite ?_ ?_
      | refine LeO.bind ?_ (fun _ => ?_)
    · intro y0 y1 y2 y3 y4
      unfold spec_TreeOk.j1
      repeat' first
      | (with_reducible exact ih0 _ _ _ _ _)
      | (with_reducible exact ih1 _ _ _ _ _)
      | (with_reducible exact ih2 _ _ _ _ _ _)
      | (with_reducible exact ih3 _ _ _ _ _ _ _)
      | (with_reducible exact ih4 _ _ _)
      | (with_reducible exact spec_l17All.mono _ _ _ _ _)
      | (with_reducible exact spec_l17Sorted.mono _ _)
      | (with_reducible exact spec_l17Span.mono _ _)
      | (with_reducible exact LeO.refl _)
      | (with_reducible exact LeO.none _)
      | (with_reducible refine LeO.ite ?_ ?_)
      | (with_reducible refine LeO.bind ?_ (fun _ => ?_))
      | exact ih0 _ _ _ _ _
      | exact ih1 _ _ _ _ _
      | exact ih2 _ _ _ _ _ _
      | exact ih3 _ _ _ _ _ _ _
      | exact ih4 _ _ _
      | exact spec_l17All.mono _ _ _ _ _
      | exact spec_l17Sorted.mono _ _
      | exact spec_l17Span.mono _ _
      | exact LeO.none _
      | refine LeO.ite ?_ ?_
      | refine LeO.bind ?_ (fun _ => ?_)
    · intro y0 y1 y2 y3 y4 y5
      unfold spec_TreeOk.l0
      repeat' first
      | (with_reducible exact ih0 _ _ _ _ _)
      | (with_reducible exact ih1 _ _ _ _ _)
      | (with_reducible exact ih2 _ _ _ _ _ _)
      | (with_reducible exact ih3 _ _ _ _ _ _ _)
      | (with_reducible exact ih4 _ _ _)
      | (with_reducible exact spec_l17All.mono _ _ _ _ _)
      | (with_reducible exact spec_l17Sorted.mono _ _)
      | (with_reducible exact spec_l17Span.mono _ _)
      | (with_reducible exact LeO.refl _)
      | (with_reducible exact LeO.none _)
      | (with_reducible refine LeO.ite ?_ ?_)
      | (with_reducible refine LeO.bind ?_ (fun _ => ?_))
      | exact ih0 _ _ _ _ _
      | exact ih1 _ _ _ _ _
      | exact ih2 _ _ _ _ _ _
      | exact ih3 _ _ _ _ _ _ _
      | exact ih4 _ _ _
      | exact spec_l17All.mono _ _ _ _ _
      | exact spec_l17Sorted.mono _ _
      | exact spec_l17Span.mono _ _
      | exact LeO.none _
      | refine LeO.ite ?_ ?_
      | refine LeO.bind ?_ (fun _ => ?_)
    · intro y0 y1 y2 y3 y4 y5 y6
      unfold spec_TreeOk.j3
      repeat' first
      | (with_reducible exact ih0 _ _ _ _ _)
      | (with_reducible exact ih1 _ _ _ _ _)
      | (with_reducible exact ih2 _ _ _ _ _ _)
      | (with_reducible exact ih3 _ _ _ _ _ _ _)
      | (with_reducible exact ih4 _ _ _)
      | (with_reducible exact spec_l17All.mono _ _ _ _ _)
      | (with_reducible exact spec_l17Sorted.mono _ _)
      | (with_reducible exact spec_l17Span.mono _ _)
      | (with_reducible exact LeO.refl _)
      | (with_reducible exact LeO.none _)
      | (with_reducible refine LeO.ite ?_ ?_)
      | (with_reducible refine LeO.bind ?_ (fun _ => ?_))
      | exact ih0 _ _ _ _ _
      | exact ih1 _ _ _ _ _
      | exact ih2 _ _ _ _ _ _
      | exact ih3 _ _ _ _ _ _ _
      | exact ih4 _ _ _
      | exact spec_l17All.mono _ _ _ _ _
      | exact spec_l17Sorted.mono _ _
      | exact spec_l17Span.mono _ _
      | exact LeO.none _
      | refine LeO.ite ?_ ?_
      | refine LeO.bind ?_ (fun _ => ?_)
    · intro y0 y1 y2
      unfold spec_TreeOk.l1
      repeat' first
      | (with_reducible exact ih0 _ _ _ _ _)
      | (with_reducible exact ih1 _ _ _ _ _)
      | (with_reducible exact ih2 _ _ _ _ _ _)
      | (with_reducible exact ih3 _ _ _ _ _ _ _)
      | (with_reducible exact ih4 _ _ _)
      | (with_reducible exact spec_l17All.mono _ _ _ _ _)
      | (with_reducible exact spec_l17Sorted.mono _ _)
      | (with_reducible exact spec_l17Span.mono _ _)
      | (with_reducible exact LeO.refl _)
      | (with_reducible exact LeO.none _)
      | (with_reducible refine LeO.ite ?_ ?_)
      | (with_reducible refine LeO.bind ?_ (fun _ => ?_))
      | exact ih0 _ _ _ _ _
      | exact ih1 _ _ _ _ _
      | exact ih2 _ _ _ _ _ _
      | exact ih3 _ _ _ _ _ _ _
      | exact ih4 _ _ _
      | exact spec_l17All.mono _ _ _ _ _
      | exact spec_l17Sorted.mono _ _
      | exact spec_l17Span.mono _ _
      | exact LeO.none _
      | refine LeO.ite ?_ ?_
      | refine LeO.bind ?_ (fun _ => ?_)
theorem spec_TreeOk.mono : ∀ a0 a1 a2 a3 k, LeO (spec_TreeOk.f k a0 a1 a2 a3) (spec_TreeOk.f (k + 1) a0 a1 a2 a3) := by
  intro a0 a1 a2 a3 k
  obtain ⟨ih0, ih1, ih2, ih3, ih4⟩ := spec_TreeOk.mono_l k
  unfold spec_TreeOk.f
  repeat' first
      | (with_reducible exact ih0 _ _ _ _ _)
      | (with_reducible exact ih1 _ _ _ _ _)
      | (with_reducible exact ih2 _ _ _ _ _ _)
      | (with_reducible exact ih3 _ _ _ _ _ _ _)
      | (with_reducible exact ih4 _ _ _)
      | (with_reducible exact spec_l17All.mono _ _ _ _ _)
      | (with_reducible exact spec_l17Sorted.mono _ _)
      | (with_reducible exact spec_l17Span.mono _ _)
      | (with_reducible exact LeO.refl _)
      | (with_reducible exact LeO.none _)
      | (with_reducible refine LeO.ite ?_ ?_)
      | (with_reducible refine LeO.bind ?_ (fun _ => ?_))
      | exact ih0 _ _ _ _ _
      | exact ih1 _ _ _ _ _
      | exact ih2 _ _ _ _ _ _
      | exact ih3 _ _ _ _ _ _ _
      | exact ih4 _ _ _
      | exact spec_l17All.mono _ _ _ _ _
      | exact spec_l17Sorted.mono _ _
      | exact spec_l17Span.mono _ _
      | exact LeO.none _
      | refine LeO.ite ?_ ?_
      | refine LeO.bind ?_ (fun _ => ?_)
end Go.Proofs.Ythffllegmkolgaa.QTree
