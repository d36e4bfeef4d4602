/- Joined: RestI, RestS. -/
import Derived.Test.YthffllegmkolgaaT8ResPure
import Derived.Test.YthffllegmkolgaaT8ChangeI
import Derived.Test.YthffllegmkolgaaT8ChangeP
import Derived.Test.YthffllegmkolgaaT8FlushP
import Derived.Test.YthffllegmkolgaaT8LookPure
namespace Go.Proofs.Ythffllegmkolgaa.TreeK
open Go.RowKit Go.Proofs.YthffllegmkolgaaW.PrintWords Go.Proofs.YthffllegmkolgaaW.PrintLast Go.Proofs.YthffllegmkolgaaW.PrintMore Go.Proofs.Ythffllegmkolgaa.QTree Go.Proofs.Ythffllegmkolgaa.EvKit Go.Proofs.Ythffllegmkolgaa.GTree
set_option linter.unusedSimpArgs false
set_option linter.unusedVariables false
set_option linter.unnecessarySimpa false
theorem fit_right {x : Tre} (h : trB x = true) : Fit x.f0 x.f1 := by
  have h1 := few_cells h
  have h2 := tree_facts h
  rw [List.flatten_cons, List.length_append] at h1
  exact ⟨by omega, by have := h2.runs; omega, fun r hr => by have := row_len hr; omega⟩
end Go.Proofs.Ythffllegmkolgaa.TreeK

namespace Go.Proofs.Ythffllegmkolgaa.TreeK
open Go.RowKit Go.Proofs.YthffllegmkolgaaW.PrintWords Go.Proofs.YthffllegmkolgaaW.PrintLast Go.Proofs.YthffllegmkolgaaW.PrintMore Go.Proofs.Ythffllegmkolgaa.QTree Go.Proofs.Ythffllegmkolgaa.EvKit Go.Proofs.Ythffllegmkolgaa.GTree
set_option linter.unusedSimpArgs false
set_option linter.unusedVariables false
set_option linter.unnecessarySimpa false
theorem sm_cell {c : Cel} (h : cellB c = true) : sm_Cell c := by
  unfold cellB at h
  simp only [Bool.and_eq_true, decide_eq_true_eq] at h
  exact ⟨by omega, by omega, ⟨by omega, by omega⟩, trivial⟩
theorem sm_right {x : Tre} (h : trB x = true) : sm_Tree x := by
  have hf := fit_right h
  have ht := tree_facts h
  have h1 := ht.most
  have h2 := ht.seq
  exact ⟨⟨hf.1, fun c hc => sm_cell (ht.cell _ List.mem_cons_self c hc)⟩, ⟨hf.2.1, fun r hr => ⟨hf.2.2 r hr, fun c hc => sm_cell (ht.cell r (List.mem_cons_of_mem _ hr) c hc)⟩⟩, ⟨by omega, by omega⟩, ⟨by omega, by omega⟩⟩
end Go.Proofs.Ythffllegmkolgaa.TreeK
