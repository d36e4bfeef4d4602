/- What the limits' tests come to, on the data of the law. -/
import Derived.Test.YtkfacigicohfkaaL1SqPure
import Derived.Test.YtkfacigicohfkaaL1QLimx4
import Derived.Test.YtkfacigicohfkaaL1QLimx5
import Derived.Test.YtkfacigicohfkaaL1QLimx1
import Derived.Test.YtkfacigicohfkaaL1QLimx6
import Derived.KernelRfl
namespace Go.Proofs.Ytkfacigicohfkaa.LimK
open Go.RowKit Go.Proofs.YtkfacigicohfkaaW.PrintWords Go.Proofs.YtkfacigicohfkaaW.PrintLast Go.Proofs.YtkfacigicohfkaaW.PrintMore Go.Proofs.Ytkfacigicohfkaa.QLim Go.Proofs.Ytkfacigicohfkaa.EvKit
set_option linter.unusedSimpArgs false
set_option linter.unusedVariables false
abbrev Rec := S28
abbrev nm20 : ByteArray := ⟨#[97, 98, 99, 100, 101, 102, 103, 104, 105, 106, 107, 108, 109, 110, 111, 112, 113, 114, 115, 116]⟩
def recE (i : Nat) : Rec := ⟨(i : Int), false, ⟨#[]⟩, false, ⟨#[]⟩, []⟩
def recs (j : Nat) : List Rec := (List.range j).map recE
theorem recs_succ (j : Nat) : recs (j + 1) = recs j ++ [recE j] := by unfold recs; rw [List.range_succ, List.map_append]; rfl
theorem recs_len (j : Nat) : (recs j).length = j := by simp [recs]
set_option maxRecDepth 100000 in
theorem nm_yes : impl_NameOk.f 60 nm20 = some true := by kernel_rfl
set_option maxRecDepth 100000 in
theorem nm_no : impl_NameOk.f 60 (nm20 ++ ⟨#[117]⟩) = some false := by
  have h : (nm20 ++ (⟨#[117]⟩ : ByteArray)).size = 21 := by rw [ByteArray.size_append]; rfl
  unfold impl_NameOk.f
  rw [if_neg (by rw [h]; decide), if_pos (by rw [h]; decide)]
  rfl
set_option maxRecDepth 100000 in
theorem bat_yes : impl_BatchOk.f 200 999999961 0 (-1) 0 0 0 (recs 40) = some true := by kernel_rfl
set_option maxRecDepth 100000 in
theorem bat_last : impl_LastOffset.f 200 999999961 0 (-1) 0 0 0 (recs 40) = some 1000000000 := by kernel_rfl
set_option maxRecDepth 100000 in
theorem bat_high : impl_BatchOk.f 200 999999962 0 (-1) 0 0 0 (recs 40) = some false := by kernel_rfl
set_option maxRecDepth 100000 in
theorem bat_many : impl_BatchOk.f 200 0 0 (-1) 0 0 0 (recs 40 ++ [recE 0]) = some false := by kernel_rfl
theorem tree_50 : impl_NewTree.f 50 = some ([], [], 0, 50) := by kernel_rfl
theorem tree_51 : impl_NewTree.f 51 = some ([], [], 0, 0) := by kernel_rfl
set_option maxRecDepth 100000 in
theorem rec_yes (s : ByteArray) (h : s.size = 100) : impl_RecordOk.f 20 1000000000000 false ⟨#[]⟩ false s [] = some true := by
  have h1 : impl_textOk.f s = some true := by unfold impl_textOk.f; rw [h]; rfl
  have h2 : impl_textOk.f ⟨#[]⟩ = some true := by kernel_rfl
  have h3 : impl_timeOk.f 1000000000000 = some true := by kernel_rfl
  have h4 : (⟨#[]⟩ : ByteArray).toList = [] := by rw [ByteArray.toList_eq]
  unfold impl_RecordOk.f
  simp only [h1, h2, h3, h4, Option.bind_some, if_true, Bool.false_eq_true, if_false]
  rfl
set_option maxRecDepth 100000 in
theorem rec_no (s : ByteArray) (h : s.size = 101) : impl_RecordOk.f 20 1000000000000 false ⟨#[]⟩ false s [] = some false := by
  have h1 : impl_textOk.f s = some false := by unfold impl_textOk.f; rw [h]; rfl
  have h2 : impl_textOk.f ⟨#[]⟩ = some true := by kernel_rfl
  have h3 : impl_timeOk.f 1000000000000 = some true := by kernel_rfl
  have h4 : (⟨#[]⟩ : ByteArray).toList = [] := by rw [ByteArray.toList_eq]
  unfold impl_RecordOk.f
  simp only [h1, h2, h3, h4, Option.bind_some, if_true, Bool.false_eq_true, if_false]
  rfl
end Go.Proofs.Ytkfacigicohfkaa.LimK
