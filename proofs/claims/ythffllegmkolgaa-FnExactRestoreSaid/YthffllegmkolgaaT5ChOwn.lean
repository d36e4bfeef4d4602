/- A changed tree is small; Put and Drop, called, with where their rows lie. -/
import Derived.Test.YthffllegmkolgaaT5FlOwn
import Derived.Test.YthffllegmkolgaaT5ChangeI
import Derived.Test.YthffllegmkolgaaT5ChangeS
namespace Go.Proofs.Ythffllegmkolgaa.TreeK
open Go.RowKit Go.Proofs.YthffllegmkolgaaW.PrintWords Go.Proofs.YthffllegmkolgaaW.PrintLast Go.Proofs.YthffllegmkolgaaW.PrintMore Go.Proofs.Ythffllegmkolgaa.QTree Go.Proofs.Ythffllegmkolgaa.EvKit Go.Proofs.Ythffllegmkolgaa.GTree
set_option linter.unusedSimpArgs false
set_option linter.unusedVariables false
theorem own_of {base : Nat} {W : World} {y : Tre} {b : Bool} {f : FuncId} {args : Array Value} (hb : base ≤ W.heap.size)
    (h : Calls Try.prog f args W fun e w' => ∃ v0 v1 : Value, e = .returned (.tuple #[.agg #[v0, v1, .int .i64 y.f2, .int .i64 y.f3], .bool b]) ∧ KC.R TC w' W.heap.size (fun _ => True) v0 y.f0 ∧ Kd.S KL TL w' W.heap.size (fun k => some k ≠ v0.ownBlock) v1 y.f1 ∧ Below W.heap.size W w') :
    Calls Try.prog f args W fun e w' => ∃ A' c' B' d', e = .returned (.tuple #[.agg #[.slice A' y.f0.length c', .slice B' y.f1.length d', .int .i64 y.f2, .int .i64 y.f3], .bool b]) ∧ Own base w' W.heap.size w'.heap.size y (.slice A' y.f0.length c') (.slice B' y.f1.length d') ∧ Below W.heap.size W w' := by
  refine h.mono ?_
  rintro e w' ⟨v0, v1, rfl, h0, h1, hb'⟩
  have ho := Own.mk_ (x := y) hb h0 h1
  obtain ⟨A', c', B', d', rfl, rfl⟩ := ho.form
  exact ⟨A', c', B', d', rfl, ho, hb'⟩
end Go.Proofs.Ythffllegmkolgaa.TreeK
