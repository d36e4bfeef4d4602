/- Joined: Open, TreeLawKit. -/
import Derived.Test.YthffllegmkolgaaT8WWords
import Derived.Deep.Slices
import Derived.ChangeArms
import Derived.Below
import Derived.Test.YthffllegmkolgaaT8QTreex0
import Derived.Test.YthffllegmkolgaaT8CelSort
import Derived.Test.YthffllegmkolgaaT8QTreex2
import Derived.Test.YthffllegmkolgaaT8QTreex3
import Derived.Test.YthffllegmkolgaaT8QTreex4
import Derived.Test.YthffllegmkolgaaT8QTreex5
import Derived.Test.YthffllegmkolgaaT8QTreex6
import Derived.Test.YthffllegmkolgaaT8QTreex7
import Derived.Test.YthffllegmkolgaaT8QTreex8
import Derived.Test.YthffllegmkolgaaT8QTreex11
import Derived.Test.YthffllegmkolgaaT8LookPure
import Derived.KernelRfl
import Derived.Test.YthffllegmkolgaaT8TreeWalk
namespace Go.Proofs.Ythffllegmkolgaa.Open
open Go.ChangeShapes Go.WideShapes Go.Proofs.YthffllegmkolgaaW.PrintWords Go.Deep
def Opens {α : Type} (P : Program) (t : TypeId) (d : Kd α) (ok : α → Prop) : Prop :=
  ∀ {H : Type} {enc : TypeId × Value → H} {w : World} {base : Nat} {spare : Nat → Bool} {held : Bool} {fuel : Nat} {cs : List Value} {x : DataW H × List MemPlace},
    DataW.trod enc P w base spare held fuel t cs = some x → ∃ a, d.K w a cs ∧ ok a
variable {P : Program} {t : TypeId}
theorem opens_int {k : IntKind} (ht : P.underlying t = some (.int k)) : Opens P t (Kd.int k) (fun n => (Lit.int k n).wf = true) := by
  intro H enc w base spare held fuel cs x h
  obtain ⟨n, rfl, _, hw⟩ := DataW.trod_int ht h
  exact ⟨n, rfl, hw⟩
theorem opens_slice {α : Type} [Inhabited α] {e : TypeId} {d : Kd α} {ok : α → Prop} (ht : P.underlying t = some (.slice e)) (hc : P.cellsOf e = d.sz) (he : Opens P e d ok) :
    Opens P t (Kd.slice e d) (fun xs => xs.length ≤ maxLen ∧ ∀ x ∈ xs, ok x) := by
  intro H enc w base spare held fuel cs x h
  rcases open_slice ht h with ⟨rfl, _⟩ | ⟨a, len, cap, m, n, D, Pl, rfl, _, hl, hm, hmm, _, hx⟩
  · exact ⟨[], ⟨none, 0, rfl, Nat.le_refl _, rfl, by simp, fun hn => absurd hn (Nat.lt_irrefl _)⟩, Nat.zero_le _, by simp⟩
  · have hle : len ≤ m := by rw [hmm]; split <;> omega
    have hx' : ∀ i, i < len → ∃ a' : α, (∃ cs', w.cells? base (a.add (i * P.cellsOf e)) (P.cellsOf e) = some cs' ∧ d.K w a' cs') ∧ ok a' := fun i hi => by
      obtain ⟨cs', h1, h2⟩ := hx i (by omega)
      obtain ⟨a', ha, hok⟩ := he h2
      exact ⟨a', ⟨cs', h1, ha⟩, hok⟩
    obtain ⟨f, hf⟩ := choose_lt (p := fun i a' => (∃ cs', w.cells? base (a.add (i * P.cellsOf e)) (P.cellsOf e) = some cs' ∧ d.K w a' cs') ∧ ok a') hx'
    refine ⟨(List.range len).map f, ⟨some a, cap, by simp, by simpa using hl, by simp, ?_, fun _ => ⟨a, rfl, fun j p hj => ?_⟩⟩, by simp; omega, ?_⟩
    · have : maxLen = 9223372036854775807 := rfl
      simp
      omega
    · have hj' : j < len ∧ f j = p := by
        rw [List.getElem?_map] at hj
        by_cases hlt : j < len
        · rw [List.getElem?_range hlt] at hj
          exact ⟨hlt, by simpa using hj⟩
        · rw [List.getElem?_eq_none (by simpa using hlt)] at hj
          simp at hj
      obtain ⟨hlt, rfl⟩ := hj'
      obtain ⟨⟨cs', h1, h2⟩, _⟩ := hf j hlt
      obtain ⟨_, hlen, hcell⟩ := World.cells?_some h1
      refine ⟨cs', by rw [hlen, hc], h2, fun i u hu => ?_⟩
      have hil : i < P.cellsOf e := by rw [← hlen]; exact (List.getElem?_eq_some_iff.1 hu).1
      have := hcell i hil
      rw [hu, Go.Deep.add_add, hc] at this
      exact this
    · intro x hx
      obtain ⟨i, hi, rfl⟩ := List.mem_map.1 hx
      exact (hf i (List.mem_range.1 hi)).2
theorem Opens.imp {α : Type} {d : Kd α} {ok ok' : α → Prop} (h : Opens P t d ok) (hi : ∀ a, ok a → ok' a) : Opens P t d ok' := by
  intro H enc w base spare held fuel cs x hx
  obtain ⟨a, ha, hoka⟩ := h hx
  exact ⟨a, ha, hi a hoka⟩
theorem opensU8 (ht : P.underlying t = some (.int .u8)) : Opens P t (Kd.int .u8) (fun n => 0 ≤ n ∧ n ≤ 255) :=
  Opens.imp (opens_int ht) (fun n h => by
    have h' : (decide (IntKind.u8.min ≤ n) && decide (n ≤ IntKind.u8.max)) = true := h
    rw [Bool.and_eq_true, decide_eq_true_eq, decide_eq_true_eq] at h'
    exact h')
end Go.Proofs.Ythffllegmkolgaa.Open

namespace Go.Proofs.Ythffllegmkolgaa.QTree
open Go.RowKit Go.Proofs.YthffllegmkolgaaW.PrintWords Go.Proofs.YthffllegmkolgaaW.PrintLast Go.Proofs.YthffllegmkolgaaW.PrintMore
attribute [local go_sem] max2_int min2_int max_two min_two max_three min_three max_four min_four   -- for this text's walks alone
set_option linter.unusedVariables false
set_option linter.unusedSimpArgs false
theorem eqA105 (d : Nat) (w : World) (x0 y0 : ByteArray) (x1 y1 : ByteArray) :
    (Op.equalIn (d + 2) 105 (.agg #[.string x0, .string x1]) (.agg #[.string y0, .string y1])).run Try.prog w = .ok (x0.toList == y0.toList && (x1.toList == y1.toList)) w := by
  refine eqA_of Try.underlying105 (by kernel_rfl) ?_
  refine eqf_cons (by rfl) (by go_simp; rfl) (by go_simp; rfl) (by go_simp) ?_
  exact eqf_last (by rfl) (by go_simp; rfl) (by go_simp; rfl) (by go_simp)
end Go.Proofs.Ythffllegmkolgaa.QTree

namespace Go.Proofs.Ythffllegmkolgaa.QTree
open Go.RowKit Go.Proofs.YthffllegmkolgaaW.PrintWords Go.Proofs.YthffllegmkolgaaW.PrintLast Go.Proofs.YthffllegmkolgaaW.PrintMore
attribute [local go_sem] max2_int min2_int max_two min_two max_three min_three max_four min_four   -- for this text's walks alone
set_option linter.unusedVariables false
set_option linter.unusedSimpArgs false
def impl_Cell_73.ok (l0 : List (S48)) : Bool := l0.all (fun c => decide (1 ≤ c.f2 ∧ c.f2 ≤ 400)) && TreeK.noTie l0 && decide (l0.length < 4611686018427387904)
def impl_Cell_73.f (l0 : List (S48)) : Option (List (S48)) := if impl_Cell_73.ok l0 = true then some (TreeK.srt l0) else none
end Go.Proofs.Ythffllegmkolgaa.QTree

namespace Go.Proofs.Ythffllegmkolgaa.GTree
open Go.RowKit Go.Proofs.YthffllegmkolgaaW.PrintWords Go.Proofs.Ythffllegmkolgaa.QTree Go.Proofs.Ythffllegmkolgaa.EvKit Go.Proofs.Ythffllegmkolgaa.Open
set_option linter.unusedVariables false
structure P25 where
  f0 : List (S99)
  f1 : List (List (S99))
  f2 : Int
  f3 : Int
structure P31 where
  f0 : List (S48)
  f1 : List (List (S48))
  f2 : Int
  f3 : Int
def sm_Cell (a : S48) : Prop := a.f0.size ≤ 1048576 ∧ a.f1.size ≤ 1048576 ∧ (-9223372036854775808 ≤ a.f2 ∧ a.f2 ≤ 9223372036854775807) ∧ True
def sm_CellS (x : List (S48)) : Prop := x.length ≤ 1048576 ∧ ∀ a ∈ x, sm_Cell a
theorem at_rd_T48 (x : List (S48)) (j : Nat) (h : j < x.length) : rd_T48 x (j : Int) = x[j] := by simp [rd_T48, h]
def sm_CellSS (x : List (List (S48))) : Prop := x.length ≤ 1048576 ∧ ∀ a ∈ x, sm_CellS a
def sm_Tree (a : P31) : Prop := sm_CellS a.f0 ∧ sm_CellSS a.f1 ∧ (-9223372036854775808 ≤ a.f2 ∧ a.f2 ≤ 9223372036854775807) ∧ (-9223372036854775808 ≤ a.f3 ∧ a.f3 ≤ 9223372036854775807)
instance : Inhabited S99 := ⟨⟨default, default, default, default⟩⟩
instance : Inhabited P25 := ⟨⟨default, default, default, default⟩⟩
end Go.Proofs.Ythffllegmkolgaa.GTree

namespace Go.Proofs.Ythffllegmkolgaa.TreeK
open Go.RowKit Go.Proofs.YthffllegmkolgaaW.PrintWords Go.Proofs.YthffllegmkolgaaW.PrintLast Go.Proofs.YthffllegmkolgaaW.PrintMore Go.Proofs.Ythffllegmkolgaa.QTree Go.Proofs.Ythffllegmkolgaa.EvKit Go.Proofs.Ythffllegmkolgaa.GTree
abbrev LTre := P25
abbrev Tre := P31
def TreeC (w : World) (x : Tre) (A : Option Addr) (c : Nat) (B : Option Addr) (d : Nat) : Prop := (x.f0.length ≤ c ∧ k48.C w A x.f0.length x.f0) ∧ x.f1.length ≤ d ∧ (Kd.slice 48 k48).C w B x.f1.length x.f1
def LTreeC (w : World) (x : LTre) (A : Option Addr) (c : Nat) (B : Option Addr) (d : Nat) : Prop := (x.f0.length ≤ c ∧ k99.C w A x.f0.length x.f0) ∧ x.f1.length ≤ d ∧ (Kd.slice 99 k99).C w B x.f1.length x.f1
theorem TreeC.below {w w' : World} {x : Tre} {A B : Option Addr} {c d : Nat} (h : TreeC w x A c B d) (hb : Below w.heap.size w w') : TreeC w' x A c B d := ⟨⟨h.1.1, Kd.C_below h.1.2 hb⟩, h.2.1, Kd.C_below h.2.2 hb⟩
theorem LTreeC.below {w w' : World} {x : LTre} {A B : Option Addr} {c d : Nat} (h : LTreeC w x A c B d) (hb : Below w.heap.size w w') : LTreeC w' x A c B d := ⟨⟨h.1.1, Kd.C_below h.1.2 hb⟩, h.2.1, Kd.C_below h.2.2 hb⟩
theorem sm_m {x : List Cel} (h : sm_CellS x) : x.length ≤ 1048576 ∧ ∀ c ∈ x, -9223372036854775808 ≤ c.f2 ∧ c.f2 ≤ 9223372036854775807 := ⟨h.1, fun c hc => (h.2 c hc).2.2.1⟩
def trB (x : Tre) : Bool := treeB x.f0 x.f1 x.f2 x.f3
theorem call_tree_impl (A B : Option Addr) (c d : Nat) (x : Tre) (W : World) (h : TreeC W x A c B d) (s : sm_Tree x) :
    Calls Try.prog 18 #[.agg #[.slice A x.f0.length c, .slice B x.f1.length d, .int .i64 x.f2, .int .i64 x.f3]] W fun e w' => e = .returned (.bool (trB x)) ∧ Below W.heap.size W w' :=
  impl_tree A B c d _ _ _ _ W h.1.2 h.1.1 h.2.2 h.2.1 (sm_m s.1) ⟨s.2.1.1, fun y hy => sm_m (s.2.1.2 y hy)⟩
end Go.Proofs.Ythffllegmkolgaa.TreeK
