/- From a value that reads as plain data (the row's words) to the printed kinds' words: numbers, bools, strings, slices and structs that came in. -/
import Derived.Test.YtkfacigicohfkaaL1WWords
import Derived.Deep.Slices
import Derived.ChangeArms
import Derived.Below
namespace Go.Proofs.Ytkfacigicohfkaa.Open
open Go.ChangeShapes Go.WideShapes Go.Proofs.YtkfacigicohfkaaW.PrintWords Go.Deep
def Opens {α : Type} (P : Program) (t : TypeId) (d : Kd α) (ok : α → Prop) : Prop :=
  ∀ {H : Type} {enc : TypeId × Value → H} {w : World} {base : Nat} {spare : Nat → Bool} {held : Bool} {fuel : Nat} {cs : List Value} {x : DataW H × List MemPlace},
    DataW.trod enc P w base spare held fuel t cs = some x → ∃ a, d.K w a cs ∧ ok a
variable {P : Program} {t : TypeId}
theorem opens_int {k : IntKind} (ht : P.underlying t = some (.int k)) : Opens P t (Kd.int k) (fun n => (Lit.int k n).wf = true) := by
  intro H enc w base spare held fuel cs x h
  obtain ⟨n, rfl, _, hw⟩ := DataW.trod_int ht h
  exact ⟨n, rfl, hw⟩
theorem opens_slice {α : Type} [Inhabited α] {e : TypeId} {d : Kd α} {ok : α → Prop} (ht : P.underlying t = some (.slice e)) (hc : P.cellsOf e = d.sz) (he : Opens P e d ok) :
    Opens P t (Kd.slice e d) (fun xs => xs.length ≤ maxLen ∧ ∀ x ∈ xs, ok x) := by
  intro H enc w base spare held fuel cs x h
  rcases open_slice ht h with ⟨rfl, _⟩ | ⟨a, len, cap, m, n, D, Pl, rfl, _, hl, hm, hmm, _, hx⟩
  · exact ⟨[], ⟨none, 0, rfl, Nat.le_refl _, rfl, by simp, fun hn => absurd hn (Nat.lt_irrefl _)⟩, Nat.zero_le _, by simp⟩
  · have hle : len ≤ m := by rw [hmm]; split <;> omega
    have hx' : ∀ i, i < len → ∃ a' : α, (∃ cs', w.cells? base (a.add (i * P.cellsOf e)) (P.cellsOf e) = some cs' ∧ d.K w a' cs') ∧ ok a' := fun i hi => by
      obtain ⟨cs', h1, h2⟩ := hx i (by omega)
      obtain ⟨a', ha, hok⟩ := he h2
      exact ⟨a', ⟨cs', h1, ha⟩, hok⟩
    obtain ⟨f, hf⟩ := choose_lt (p := fun i a' => (∃ cs', w.cells? base (a.add (i * P.cellsOf e)) (P.cellsOf e) = some cs' ∧ d.K w a' cs') ∧ ok a') hx'
    refine ⟨(List.range len).map f, ⟨some a, cap, by simp, by simpa using hl, by simp, ?_, fun _ => ⟨a, rfl, fun j p hj => ?_⟩⟩, by simp; omega, ?_⟩
    · have : maxLen = 9223372036854775807 := rfl
      simp
      omega
    · have hj' : j < len ∧ f j = p := by
        rw [List.getElem?_map] at hj
        by_cases hlt : j < len
        · rw [List.getElem?_range hlt] at hj
          exact ⟨hlt, by simpa using hj⟩
        · rw [List.getElem?_eq_none (by simpa using hlt)] at hj
          simp at hj
      obtain ⟨hlt, rfl⟩ := hj'
      obtain ⟨⟨cs', h1, h2⟩, _⟩ := hf j hlt
      obtain ⟨_, hlen, hcell⟩ := World.cells?_some h1
      refine ⟨cs', by rw [hlen, hc], h2, fun i u hu => ?_⟩
      have hil : i < P.cellsOf e := by rw [← hlen]; exact (List.getElem?_eq_some_iff.1 hu).1
      have := hcell i hil
      rw [hu, Go.Deep.add_add, hc] at this
      exact this
    · intro x hx
      obtain ⟨i, hi, rfl⟩ := List.mem_map.1 hx
      exact (hf i (List.mem_range.1 hi)).2
theorem Opens.imp {α : Type} {d : Kd α} {ok ok' : α → Prop} (h : Opens P t d ok) (hi : ∀ a, ok a → ok' a) : Opens P t d ok' := by
  intro H enc w base spare held fuel cs x hx
  obtain ⟨a, ha, hoka⟩ := h hx
  exact ⟨a, ha, hi a hoka⟩
theorem opensU8 (ht : P.underlying t = some (.int .u8)) : Opens P t (Kd.int .u8) (fun n => 0 ≤ n ∧ n ≤ 255) :=
  Opens.imp (opens_int ht) (fun n h => by
    have h' : (decide (IntKind.u8.min ≤ n) && decide (n ≤ IntKind.u8.max)) = true := h
    rw [Bool.and_eq_true, decide_eq_true_eq, decide_eq_true_eq] at h'
    exact h')
end Go.Proofs.Ytkfacigicohfkaa.Open
