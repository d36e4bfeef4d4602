/- Loops of the laws' own helpers (copying, comparing, counting what came in), from some number of rounds on. -/
import Derived.Test.YtkfacigicohfkaaL1WWords
namespace Go.Proofs.Ytkfacigicohfkaa.EvKit
open Go.RowKit Go.Proofs.YtkfacigicohfkaaW.PrintWords
theorem w64 {i : Int} (h0 : -9223372036854775808 ≤ i) (h1 : i ≤ 9223372036854775807) : wrap64 i = i := by
  unfold wrap64; omega
theorem Ev.iteT {α : Type} {c : Prop} [Decidable c] {f g : Nat → Option α} {r : α} (hc : c) (h : Ev f r) : Ev (fun k => if c then f k else g k) r := by
  simpa only [if_pos hc] using h
theorem Ev.iteF {α : Type} {c : Prop} [Decidable c] {f g : Nat → Option α} {r : α} (hc : ¬ c) (h : Ev g r) : Ev (fun k => if c then f k else g k) r := by
  simpa only [if_neg hc] using h
def SZ (g : Int → Nat → Option Int) (Q : Prop) : Prop := ∀ left : Int, 0 ≤ left → left ≤ 1048576 → ∃ v, Ev (fun k => g left k) v ∧ v ≤ left ∧ (0 ≤ v → Q)
theorem SZ.done : SZ (fun left _ => some left) True := fun left _ _ => ⟨left, Ev.now _, Int.le_refl _, fun _ => trivial⟩
theorem SZ.call {s g : Int → Nat → Option Int} {Q1 Q2 : Prop} (hs : SZ s Q1) (h : SZ g Q2) : SZ (fun left k => (s left k).bind fun t => if t < 0 then some (-1) else g t k) (Q1 ∧ Q2) := by
  intro left h0 h1
  obtain ⟨v, a, b, c⟩ := hs left h0 h1
  by_cases hc : v < 0
  · exact ⟨-1, Ev.bind a (Ev.iteT hc (Ev.now _)), by omega, fun h => by omega⟩
  · obtain ⟨u, a2, b2, c2⟩ := h v (by omega) (by omega)
    exact ⟨u, Ev.bind a (Ev.iteF hc a2), by omega, fun h => ⟨c (by omega), c2 h⟩⟩
end Go.Proofs.Ytkfacigicohfkaa.EvKit
