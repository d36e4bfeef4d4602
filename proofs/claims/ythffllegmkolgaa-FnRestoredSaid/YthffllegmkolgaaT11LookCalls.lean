/- Joined: QTreex3, LookCalls. -/
import Derived.Test.YthffllegmkolgaaT11QTreex0
import Derived.Test.YthffllegmkolgaaT11QTreex2
import Derived.Test.YthffllegmkolgaaT11WWords
import Derived.Deep.Slices
import Derived.ChangeArms
import Derived.Below
import Derived.Test.YthffllegmkolgaaT11CelSort
import Derived.Test.YthffllegmkolgaaT11QTreex4
import Derived.Test.YthffllegmkolgaaT11QTreex7
import Derived.Test.YthffllegmkolgaaT11QTreex6
import Derived.Test.YthffllegmkolgaaT11QTreex8
import Derived.Test.YthffllegmkolgaaT11QTreex12
import Derived.Test.YthffllegmkolgaaT11LookPure
import Derived.KernelRfl
import Derived.Test.YthffllegmkolgaaT11TreeWalk
import Derived.Test.YthffllegmkolgaaT11Seen
namespace Go.Proofs.Ythffllegmkolgaa.QTree
open Go.RowKit Go.Proofs.YthffllegmkolgaaW.PrintWords Go.Proofs.YthffllegmkolgaaW.PrintLast Go.Proofs.YthffllegmkolgaaW.PrintMore
attribute [local go_sem] max2_int min2_int max_two min_two max_three min_three max_four min_four   -- for this text's walks alone
set_option linter.unusedVariables false
set_option linter.unusedSimpArgs false
def laws_eqCellS.l0 : Nat → List (S48) → List (S48) → Int → Option (Bool)
  | 0, _, _, _ => none
  | k + 1, x0, x1, x5 => if x5 < (x0.length : Int) then (if 0 ≤ x5 then (if x5 < (x1.length : Int) then ((laws_eqCell.f ((rd_T48 x0 x5).f0) ((rd_T48 x0 x5).f1) ((rd_T48 x0 x5).f2) ((rd_T48 x0 x5).f3) ((rd_T48 x1 x5).f0) ((rd_T48 x1 x5).f1) ((rd_T48 x1 x5).f2) ((rd_T48 x1 x5).f3)).bind fun t142 => (if t142 = true then (laws_eqCellS.l0 k x0 x1 (wrap64 (x5 + 1))) else (some false))) else (none)) else (none)) else (some true)
def laws_eqCellS.f (k : Nat) (l0 : List (S48)) (l1 : List (S48)) : Option (Bool) := if (l0.length : Int) = (l1.length : Int) then (laws_eqCellS.l0 k l0 l1 0) else (some false)
theorem laws_eqCellS.mono_l : ∀ k, (∀ y0 y1 y2, LeO (laws_eqCellS.l0 k y0 y1 y2) (laws_eqCellS.l0 (k + 1) y0 y1 y2))
  | 0 => fun _ _ _ r h => by simp [laws_eqCellS.l0] at h
  | k + 1 => by
    have ih0 := laws_eqCellS.mono_l k
    · intro y0 y1 y2
      unfold laws_eqCellS.l0
      repeat' first
      | (with_reducible exact ih0 _ _ _)
      | (with_reducible exact LeO.refl _)
      | (with_reducible exact LeO.none _)
      | (with_reducible refine LeO.ite ?_ ?_)
      | (with_reducible refine LeO.bind ?_ (fun _ => ?_))
      | exact ih0 _ _ _
      | exact LeO.none _
      | refine LeO.ite ?_ ?_
      | refine LeO.bind ?_ (fun _ => ?_)
theorem laws_eqCellS.mono : ∀ a0 a1 k, LeO (laws_eqCellS.f k a0 a1) (laws_eqCellS.f (k + 1) a0 a1) := by
  intro a0 a1 k
  have ih0 := laws_eqCellS.mono_l k
  unfold laws_eqCellS.f
  repeat' first
      | (with_reducible exact ih0 _ _ _)
      | (with_reducible exact LeO.refl _)
      | (with_reducible exact LeO.none _)
      | (with_reducible refine LeO.ite ?_ ?_)
      | (with_reducible refine LeO.bind ?_ (fun _ => ?_))
      | exact ih0 _ _ _
      | exact LeO.none _
      | refine LeO.ite ?_ ?_
      | refine LeO.bind ?_ (fun _ => ?_)
def laws_eqCellS.B6 : List Nat := [0, 0, 3, 7, 0, 0, 48, 112, 255, 511]
def laws_eqCellSS.l0 : Nat → List (List (S48)) → List (List (S48)) → Int → Option (Bool)
  | 0, _, _, _ => none
  | k + 1, x0, x1, x5 => if x5 < (x0.length : Int) then (if 0 ≤ x5 then (if x5 < (x1.length : Int) then ((laws_eqCellS.f k (rd_L6 x0 x5) (rd_L6 x1 x5)).bind fun t145 => (if t145 = true then (laws_eqCellSS.l0 k x0 x1 (wrap64 (x5 + 1))) else (some false))) else (none)) else (none)) else (some true)
def laws_eqCellSS.f (k : Nat) (l0 : List (List (S48))) (l1 : List (List (S48))) : Option (Bool) := if (l0.length : Int) = (l1.length : Int) then (laws_eqCellSS.l0 k l0 l1 0) else (some false)
theorem laws_eqCellSS.mono_l : ∀ k, (∀ y0 y1 y2, LeO (laws_eqCellSS.l0 k y0 y1 y2) (laws_eqCellSS.l0 (k + 1) y0 y1 y2))
  | 0 => fun _ _ _ r h => by simp [laws_eqCellSS.l0] at h
  | k + 1 => by
    have ih0 := laws_eqCellSS.mono_l k
    · intro y0 y1 y2
      unfold laws_eqCellSS.l0
      repeat' first
      | (with_reducible exact ih0 _ _ _)
      | (with_reducible exact laws_eqCellS.mono _ _ _)
      | (with_reducible exact LeO.refl _)
      | (with_reducible exact LeO.none _)
      | (with_reducible refine LeO.ite ?_ ?_)
      | (with_reducible refine LeO.bind ?_ (fun _ => ?_))
      | exact ih0 _ _ _
      | exact laws_eqCellS.mono _ _ _
      | exact LeO.none _
      | refine LeO.ite ?_ ?_
      | refine LeO.bind ?_ (fun _ => ?_)
theorem laws_eqCellSS.mono : ∀ a0 a1 k, LeO (laws_eqCellSS.f k a0 a1) (laws_eqCellSS.f (k + 1) a0 a1) := by
  intro a0 a1 k
  have ih0 := laws_eqCellSS.mono_l k
  unfold laws_eqCellSS.f
  repeat' first
      | (with_reducible exact ih0 _ _ _)
      | (with_reducible exact laws_eqCellS.mono _ _ _)
      | (with_reducible exact LeO.refl _)
      | (with_reducible exact LeO.none _)
      | (with_reducible refine LeO.ite ?_ ?_)
      | (with_reducible refine LeO.bind ?_ (fun _ => ?_))
      | exact ih0 _ _ _
      | exact laws_eqCellS.mono _ _ _
      | exact LeO.none _
      | refine LeO.ite ?_ ?_
      | refine LeO.bind ?_ (fun _ => ?_)
def laws_eqCellSS.B6 : List Nat := [0, 0, 3, 7, 0, 0, 48, 112, 255, 511]
def laws_eqTree.f (k : Nat) (l0_0 : List (S48)) (l0_1 : List (List (S48))) (a0_2 : Int) (a0_3 : Int) (l1_0 : List (S48)) (l1_1 : List (List (S48))) (a1_2 : Int) (a1_3 : Int) : Option (Bool) := (laws_eqCellS.f k l0_0 l1_0).bind fun t148 => (if t148 = true then ((laws_eqCellSS.f k l0_1 l1_1).bind fun t149 => (if t149 = true then (if a0_2 = a1_2 then (if a0_3 = a1_3 then (some true) else (some false)) else (some false)) else (some false))) else (some false))
theorem laws_eqTree.mono : ∀ a0 a1 a2 a3 a4 a5 a6 a7 k, LeO (laws_eqTree.f k a0 a1 a2 a3 a4 a5 a6 a7) (laws_eqTree.f (k + 1) a0 a1 a2 a3 a4 a5 a6 a7) := by
  intro a0 a1 a2 a3 a4 a5 a6 a7 k
  unfold laws_eqTree.f
  repeat' first
      | (with_reducible exact laws_eqCellS.mono _ _ _)
      | (with_reducible exact laws_eqCellSS.mono _ _ _)
      | (with_reducible exact LeO.refl _)
      | (with_reducible exact LeO.none _)
      | (with_reducible refine LeO.ite ?_ ?_)
      | (with_reducible refine LeO.bind ?_ (fun _ => ?_))
      | exact laws_eqCellS.mono _ _ _
      | exact laws_eqCellSS.mono _ _ _
      | exact LeO.none _
      | refine LeO.ite ?_ ?_
      | refine LeO.bind ?_ (fun _ => ?_)
end Go.Proofs.Ythffllegmkolgaa.QTree

namespace Go.Proofs.Ythffllegmkolgaa.Open
open Go.ChangeShapes Go.WideShapes Go.Proofs.YthffllegmkolgaaW.PrintWords Go.Deep
def Opens {α : Type} (P : Program) (t : TypeId) (d : Kd α) (ok : α → Prop) : Prop :=
  ∀ {H : Type} {enc : TypeId × Value → H} {w : World} {base : Nat} {spare : Nat → Bool} {held : Bool} {fuel : Nat} {cs : List Value} {x : DataW H × List MemPlace},
    DataW.trod enc P w base spare held fuel t cs = some x → ∃ a, d.K w a cs ∧ ok a
variable {P : Program} {t : TypeId}
theorem opens_int {k : IntKind} (ht : P.underlying t = some (.int k)) : Opens P t (Kd.int k) (fun n => (Lit.int k n).wf = true) := by
  intro H enc w base spare held fuel cs x h
  obtain ⟨n, rfl, _, hw⟩ := DataW.trod_int ht h
  exact ⟨n, rfl, hw⟩
theorem opens_slice {α : Type} [Inhabited α] {e : TypeId} {d : Kd α} {ok : α → Prop} (ht : P.underlying t = some (.slice e)) (hc : P.cellsOf e = d.sz) (he : Opens P e d ok) :
    Opens P t (Kd.slice e d) (fun xs => xs.length ≤ maxLen ∧ ∀ x ∈ xs, ok x) := by
  intro H enc w base spare held fuel cs x h
  rcases open_slice ht h with ⟨rfl, _⟩ | ⟨a, len, cap, m, n, D, Pl, rfl, _, hl, hm, hmm, _, hx⟩
  · exact ⟨[], ⟨none, 0, rfl, Nat.le_refl _, rfl, by simp, fun hn => absurd hn (Nat.lt_irrefl _)⟩, Nat.zero_le _, by simp⟩
  · have hle : len ≤ m := by rw [hmm]; split <;> omega
    have hx' : ∀ i, i < len → ∃ a' : α, (∃ cs', w.cells? base (a.add (i * P.cellsOf e)) (P.cellsOf e) = some cs' ∧ d.K w a' cs') ∧ ok a' := fun i hi => by
      obtain ⟨cs', h1, h2⟩ := hx i (by omega)
      obtain ⟨a', ha, hok⟩ := he h2
      exact ⟨a', ⟨cs', h1, ha⟩, hok⟩
    obtain ⟨f, hf⟩ := choose_lt (p := fun i a' => (∃ cs', w.cells? base (a.add (i * P.cellsOf e)) (P.cellsOf e) = some cs' ∧ d.K w a' cs') ∧ ok a') hx'
    refine ⟨(List.range len).map f, ⟨some a, cap, by simp, by simpa using hl, by simp, ?_, fun _ => ⟨a, rfl, fun j p hj => ?_⟩⟩, by simp; omega, ?_⟩
    · have : maxLen = 9223372036854775807 := rfl
      simp
      omega
    · have hj' : j < len ∧ f j = p := by
        rw [List.getElem?_map] at hj
        by_cases hlt : j < len
        · rw [List.getElem?_range hlt] at hj
          exact ⟨hlt, by simpa using hj⟩
        · rw [List.getElem?_eq_none (by simpa using hlt)] at hj
          simp at hj
      obtain ⟨hlt, rfl⟩ := hj'
      obtain ⟨⟨cs', h1, h2⟩, _⟩ := hf j hlt
      obtain ⟨_, hlen, hcell⟩ := World.cells?_some h1
      refine ⟨cs', by rw [hlen, hc], h2, fun i u hu => ?_⟩
      have hil : i < P.cellsOf e := by rw [← hlen]; exact (List.getElem?_eq_some_iff.1 hu).1
      have := hcell i hil
      rw [hu, Go.Deep.add_add, hc] at this
      exact this
    · intro x hx
      obtain ⟨i, hi, rfl⟩ := List.mem_map.1 hx
      exact (hf i (List.mem_range.1 hi)).2
theorem Opens.imp {α : Type} {d : Kd α} {ok ok' : α → Prop} (h : Opens P t d ok) (hi : ∀ a, ok a → ok' a) : Opens P t d ok' := by
  intro H enc w base spare held fuel cs x hx
  obtain ⟨a, ha, hoka⟩ := h hx
  exact ⟨a, ha, hi a hoka⟩
theorem opensU8 (ht : P.underlying t = some (.int .u8)) : Opens P t (Kd.int .u8) (fun n => 0 ≤ n ∧ n ≤ 255) :=
  Opens.imp (opens_int ht) (fun n h => by
    have h' : (decide (IntKind.u8.min ≤ n) && decide (n ≤ IntKind.u8.max)) = true := h
    rw [Bool.and_eq_true, decide_eq_true_eq, decide_eq_true_eq] at h'
    exact h')
end Go.Proofs.Ythffllegmkolgaa.Open

namespace Go.Proofs.Ythffllegmkolgaa.QTree
open Go.RowKit Go.Proofs.YthffllegmkolgaaW.PrintWords Go.Proofs.YthffllegmkolgaaW.PrintLast Go.Proofs.YthffllegmkolgaaW.PrintMore
attribute [local go_sem] max2_int min2_int max_two min_two max_three min_three max_four min_four   -- for this text's walks alone
set_option linter.unusedVariables false
set_option linter.unusedSimpArgs false
theorem eqA105 (d : Nat) (w : World) (x0 y0 : ByteArray) (x1 y1 : ByteArray) :
    (Op.equalIn (d + 2) 105 (.agg #[.string x0, .string x1]) (.agg #[.string y0, .string y1])).run Try.prog w = .ok (x0.toList == y0.toList && (x1.toList == y1.toList)) w := by
  refine eqA_of Try.underlying105 (by kernel_rfl) ?_
  refine eqf_cons (by rfl) (by go_simp; rfl) (by go_simp; rfl) (by go_simp) ?_
  exact eqf_last (by rfl) (by go_simp; rfl) (by go_simp; rfl) (by go_simp)
end Go.Proofs.Ythffllegmkolgaa.QTree

namespace Go.Proofs.Ythffllegmkolgaa.QTree
open Go.RowKit Go.Proofs.YthffllegmkolgaaW.PrintWords Go.Proofs.YthffllegmkolgaaW.PrintLast Go.Proofs.YthffllegmkolgaaW.PrintMore
attribute [local go_sem] max2_int min2_int max_two min_two max_three min_three max_four min_four   -- for this text's walks alone
set_option linter.unusedVariables false
set_option linter.unusedSimpArgs false
def impl_Cell_73.ok (l0 : List (S48)) : Bool := l0.all (fun c => decide (1 ≤ c.f2 ∧ c.f2 ≤ 400)) && TreeK.noTie l0 && decide (l0.length < 4611686018427387904)
def impl_Cell_73.f (l0 : List (S48)) : Option (List (S48)) := if impl_Cell_73.ok l0 = true then some (TreeK.srt l0) else none
end Go.Proofs.Ythffllegmkolgaa.QTree

namespace Go.Proofs.Ythffllegmkolgaa.GTree
open Go.RowKit Go.Proofs.YthffllegmkolgaaW.PrintWords Go.Proofs.Ythffllegmkolgaa.QTree Go.Proofs.Ythffllegmkolgaa.EvKit Go.Proofs.Ythffllegmkolgaa.Open
set_option linter.unusedVariables false
structure P25 where
  f0 : List (S99)
  f1 : List (List (S99))
  f2 : Int
  f3 : Int
structure P31 where
  f0 : List (S48)
  f1 : List (List (S48))
  f2 : Int
  f3 : Int
def sm_Cell (a : S48) : Prop := a.f0.size ≤ 1048576 ∧ a.f1.size ≤ 1048576 ∧ (-9223372036854775808 ≤ a.f2 ∧ a.f2 ≤ 9223372036854775807) ∧ True
def sm_CellS (x : List (S48)) : Prop := x.length ≤ 1048576 ∧ ∀ a ∈ x, sm_Cell a
def sm_CellSS (x : List (List (S48))) : Prop := x.length ≤ 1048576 ∧ ∀ a ∈ x, sm_CellS a
def sm_Tree (a : P31) : Prop := sm_CellS a.f0 ∧ sm_CellSS a.f1 ∧ (-9223372036854775808 ≤ a.f2 ∧ a.f2 ≤ 9223372036854775807) ∧ (-9223372036854775808 ≤ a.f3 ∧ a.f3 ≤ 9223372036854775807)
instance : Inhabited S99 := ⟨⟨default, default, default, default⟩⟩
instance : Inhabited P25 := ⟨⟨default, default, default, default⟩⟩
end Go.Proofs.Ythffllegmkolgaa.GTree

namespace Go.Proofs.Ythffllegmkolgaa.TreeK
open Go.RowKit Go.Proofs.YthffllegmkolgaaW.PrintWords Go.Proofs.YthffllegmkolgaaW.PrintLast Go.Proofs.YthffllegmkolgaaW.PrintMore Go.Proofs.Ythffllegmkolgaa.QTree Go.Proofs.Ythffllegmkolgaa.EvKit Go.Proofs.Ythffllegmkolgaa.GTree
abbrev LTre := P25
abbrev Tre := P31
def TreeC (w : World) (x : Tre) (A : Option Addr) (c : Nat) (B : Option Addr) (d : Nat) : Prop := (x.f0.length ≤ c ∧ k48.C w A x.f0.length x.f0) ∧ x.f1.length ≤ d ∧ (Kd.slice 48 k48).C w B x.f1.length x.f1
def LTreeC (w : World) (x : LTre) (A : Option Addr) (c : Nat) (B : Option Addr) (d : Nat) : Prop := (x.f0.length ≤ c ∧ k99.C w A x.f0.length x.f0) ∧ x.f1.length ≤ d ∧ (Kd.slice 99 k99).C w B x.f1.length x.f1
theorem TreeC.below {w w' : World} {x : Tre} {A B : Option Addr} {c d : Nat} (h : TreeC w x A c B d) (hb : Below w.heap.size w w') : TreeC w' x A c B d := ⟨⟨h.1.1, Kd.C_below h.1.2 hb⟩, h.2.1, Kd.C_below h.2.2 hb⟩
theorem LTreeC.below {w w' : World} {x : LTre} {A B : Option Addr} {c d : Nat} (h : LTreeC w x A c B d) (hb : Below w.heap.size w w') : LTreeC w' x A c B d := ⟨⟨h.1.1, Kd.C_below h.1.2 hb⟩, h.2.1, Kd.C_below h.2.2 hb⟩
theorem sm_m {x : List Cel} (h : sm_CellS x) : x.length ≤ 1048576 ∧ ∀ c ∈ x, -9223372036854775808 ≤ c.f2 ∧ c.f2 ≤ 9223372036854775807 := ⟨h.1, fun c hc => (h.2 c hc).2.2.1⟩
def trB (x : Tre) : Bool := treeB x.f0 x.f1 x.f2 x.f3
theorem call_tree_impl (A B : Option Addr) (c d : Nat) (x : Tre) (W : World) (h : TreeC W x A c B d) (s : sm_Tree x) :
    Calls Try.prog 18 #[.agg #[.slice A x.f0.length c, .slice B x.f1.length d, .int .i64 x.f2, .int .i64 x.f3]] W fun e w' => e = .returned (.bool (trB x)) ∧ Below W.heap.size W w' :=
  impl_tree A B c d _ _ _ _ W h.1.2 h.1.1 h.2.2 h.2.1 (sm_m s.1) ⟨s.2.1.1, fun y hy => sm_m (s.2.1.2 y hy)⟩
end Go.Proofs.Ythffllegmkolgaa.TreeK

namespace Go.Proofs.Ythffllegmkolgaa.TreeK
open Go.RowKit Go.Proofs.YthffllegmkolgaaW.PrintWords Go.Proofs.YthffllegmkolgaaW.PrintLast Go.Proofs.YthffllegmkolgaaW.PrintMore Go.Proofs.Ythffllegmkolgaa.QTree Go.Proofs.Ythffllegmkolgaa.EvKit Go.Proofs.Ythffllegmkolgaa.GTree Go.Proofs.Ythffllegmkolgaa.MapKit
theorem tree_len8 {x : Tre} (s : sm_Tree x) (h : trB x = true) : (x.f0 ++ x.f1.flatten).length ≤ 8388608 := by
  have h1 := flat_len x.f1 (fun y hy => (s.2.1.2 y hy).1)
  have h2 := tree_lens h
  have h3 := s.1.1
  rw [List.length_append]
  omega
end Go.Proofs.Ythffllegmkolgaa.TreeK
