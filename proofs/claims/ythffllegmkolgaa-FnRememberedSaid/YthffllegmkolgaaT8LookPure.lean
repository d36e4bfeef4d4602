/- Joined: TreeSpec, LookPure. -/
import Derived.Test.YthffllegmkolgaaT8WWords
import Derived.Test.YthffllegmkolgaaT8TreePure
import Derived.Test.YthffllegmkolgaaT8QTreex7
import Derived.Test.YthffllegmkolgaaT8QTreex8
namespace Go.Proofs.Ythffllegmkolgaa.EvKit
open Go.RowKit Go.Proofs.YthffllegmkolgaaW.PrintWords
theorem w64 {i : Int} (h0 : -9223372036854775808 ≤ i) (h1 : i ≤ 9223372036854775807) : wrap64 i = i := by
  unfold wrap64; omega
theorem w64_succ {j n : Nat} (h : j < n) (hn : n ≤ 9223372036854775807) : wrap64 ((j : Int) + 1) = ((j + 1 : Nat) : Int) := by
  unfold wrap64; omega
theorem Ev.iteT {α : Type} {c : Prop} [Decidable c] {f g : Nat → Option α} {r : α} (hc : c) (h : Ev f r) : Ev (fun k => if c then f k else g k) r := by
  simpa only [if_pos hc] using h
theorem Ev.iteF {α : Type} {c : Prop} [Decidable c] {f g : Nat → Option α} {r : α} (hc : ¬ c) (h : Ev g r) : Ev (fun k => if c then f k else g k) r := by
  simpa only [if_neg hc] using h
def SZ (g : Int → Nat → Option Int) (Q : Prop) : Prop := ∀ left : Int, 0 ≤ left → left ≤ 1048576 → ∃ v, Ev (fun k => g left k) v ∧ v ≤ left ∧ (0 ≤ v → Q)
theorem SZ.done : SZ (fun left _ => some left) True := fun left _ _ => ⟨left, Ev.now _, Int.le_refl _, fun _ => trivial⟩
theorem SZ.call {s g : Int → Nat → Option Int} {Q1 Q2 : Prop} (hs : SZ s Q1) (h : SZ g Q2) : SZ (fun left k => (s left k).bind fun t => if t < 0 then some (-1) else g t k) (Q1 ∧ Q2) := by
  intro left h0 h1
  obtain ⟨v, a, b, c⟩ := hs left h0 h1
  by_cases hc : v < 0
  · exact ⟨-1, Ev.bind a (Ev.iteT hc (Ev.now _)), by omega, fun h => by omega⟩
  · obtain ⟨u, a2, b2, c2⟩ := h v (by omega) (by omega)
    exact ⟨u, Ev.bind a (Ev.iteF hc a2), by omega, fun h => ⟨c (by omega), c2 h⟩⟩
end Go.Proofs.Ythffllegmkolgaa.EvKit

namespace Go.Proofs.Ythffllegmkolgaa.TreeK
open Go.RowKit Go.Proofs.YthffllegmkolgaaW.PrintWords Go.Proofs.YthffllegmkolgaaW.PrintLast Go.Proofs.YthffllegmkolgaaW.PrintMore Go.Proofs.Ythffllegmkolgaa.QTree Go.Proofs.Ythffllegmkolgaa.EvKit
theorem ahead_f (a b : Cel) : spec_l17Ahead.f a.f0 a.f1 a.f2 a.f3 b.f0 b.f1 b.f2 b.f3 = some (aheadB a b) := by
  unfold spec_l17Ahead.f aheadB
  by_cases h0 : Op.bytesLess a.f0.toList b.f0.toList = true
  · rw [if_pos h0, h0]; rfl
  · rw [if_neg h0, show Op.bytesLess a.f0.toList b.f0.toList = false by simpa using h0]
    by_cases h1 : a.f0.toList = b.f0.toList
    · rw [if_pos h1, beq_iff_eq.2 h1]; rfl
    · rw [if_neg h1, beq_eq_false_iff_ne.2 h1]; rfl
theorem flat_len (rs : List (List Cel)) (h : ∀ x ∈ rs, x.length ≤ 1048576) : rs.flatten.length ≤ rs.length * 1048576 := by
  induction rs with
  | nil => simp
  | cons x xs ih =>
    have h1 := ih (fun y hy => h y (List.mem_cons_of_mem _ hy))
    have h2 := h x List.mem_cons_self
    rw [List.flatten_cons, List.length_append, List.length_cons]
    omega
theorem rdL (x : List (List Cel)) (j : Nat) (h : j < x.length) : rd_L6 x (j : Int) = x[j] := by simp [rd_L6, h]
end Go.Proofs.Ythffllegmkolgaa.TreeK

namespace Go.Proofs.Ythffllegmkolgaa.TreeK
open Go.RowKit Go.Proofs.YthffllegmkolgaaW.PrintWords Go.Proofs.YthffllegmkolgaaW.PrintLast Go.Proofs.YthffllegmkolgaaW.PrintMore Go.Proofs.Ythffllegmkolgaa.QTree Go.Proofs.Ythffllegmkolgaa.EvKit
def hitB (seq : Int) (c : Cel) (o : Option Cel) : Bool := decide (c.f2 ≤ seq) && (match o with | none => true | some d => decide (d.f2 < c.f2))
def seenC (seq : Int) (xs : List Cel) (key : List UInt8) : Option Cel := xs.foldl (fun o c => if c.f0.toList = key ∧ hitB seq c o = true then some c else o) none
theorem seenC_snoc (seq : Int) (xs : List Cel) (c : Cel) (key : List UInt8) : seenC seq (xs ++ [c]) key = if c.f0.toList = key ∧ hitB seq c (seenC seq xs key) = true then some c else seenC seq xs key := by
  unfold seenC; rw [List.foldl_append]; rfl
def zCel : Cel := ⟨⟨#[]⟩, ⟨#[]⟩, 0, false⟩
def lookR (xs : List Cel) (key : ByteArray) (seq : Int) : ByteArray × Bool := match seenC seq xs key.toList with | none => (⟨#[]⟩, false) | some c => (c.f1, !c.f3)
theorem listsB_cells : ∀ (xs : List (List Cel)) (h : List Int) (l : Int) (f : Bool), listsB h l f xs = true → ∀ c ∈ xs.flatten, cellB c = true := by
  have hcs : ∀ (x : List Cel) (l : Int) (h : List Int) (b : Int) (p : Option Cel) r, cellsB l h b p x = some r → ∀ c ∈ x, cellB c = true := by
    intro x
    induction x with
    | nil => intro _ _ _ _ _ _ c hc; cases hc
    | cons a cs ih =>
      intro l h b p r hr c hc
      rw [cellsB] at hr
      by_cases hq : cellB a = true ∧ a.f2 ∉ h ∧ a.f2 < l ∧ (∀ q ∈ p, aheadB q a = true)
      · rw [if_pos hq] at hr
        rcases List.mem_cons.1 hc with rfl | hc
        · exact hq.1
        · exact ih _ _ _ _ _ hr c hc
      · rw [if_neg hq] at hr; cases hr
  intro xs
  induction xs with
  | nil => intro _ _ _ _ c hc; cases hc
  | cons x xs ih =>
    intro h l f hl c hc
    rw [listsB] at hl
    by_cases hq : f = false ∧ x = []
    · rw [if_pos hq] at hl; cases hl
    · rw [if_neg hq] at hl
      cases hr : cellsB l h l none x with
      | none => rw [hr] at hl; cases hl
      | some r =>
        rw [hr] at hl
        rw [List.flatten_cons] at hc
        rcases List.mem_append.1 hc with hc | hc
        · exact hcs x l h l none r hr c hc
        · exact ih _ _ _ hl c hc
theorem tree_cells {m : List Cel} {rs : List (List Cel)} {s q : Int} (h : treeB m rs s q = true) : ∀ c ∈ m ++ rs.flatten, cellB c = true := by
  unfold treeB at h
  simp only [Bool.and_eq_true] at h
  have := listsB_cells _ _ _ _ h.2
  rwa [List.flatten_cons] at this
theorem tree_lens {m : List Cel} {rs : List (List Cel)} {s q : Int} (h : treeB m rs s q = true) : rs.length ≤ 6 := by
  unfold treeB at h
  simp only [Bool.and_eq_true, Bool.not_eq_true', decide_eq_false_iff_not] at h
  have := h.1.2
  omega
end Go.Proofs.Ythffllegmkolgaa.TreeK
