/- What TreeOk tells, in plain Lean, and a set of numbers kept in a map of the call's own. -/
import Derived.Test.YthffllegmkolgaaT5QTreex0
import Derived.Test.YthffllegmkolgaaT5Cmp
import Derived.Sort.Walk0
import Derived.Maps.Own
import Derived.Maps.OwnSet
import Derived.Maps.Views
namespace Go.Proofs.Ythffllegmkolgaa.TreeK
open Go.RowKit Go.Proofs.YthffllegmkolgaaW.PrintWords Go.Proofs.YthffllegmkolgaaW.PrintLast Go.Proofs.YthffllegmkolgaaW.PrintMore Go.Proofs.Ythffllegmkolgaa.QTree
abbrev Cel := S48
def cellB (c : Cel) : Bool := decide (c.f0.size ≤ 100) && decide (c.f1.size ≤ 100) && (!c.f3 || c.f1.toList == ([] : List UInt8)) && decide (1 ≤ c.f2 ∧ c.f2 ≤ 400)
def aheadB (a b : Cel) : Bool := Op.bytesLess a.f0.toList b.f0.toList || (a.f0.toList == b.f0.toList && decide (b.f2 < a.f2))
def ordI (a b : Cel) : Int := if Lib.compareBytes a.f0.data.toList b.f0.data.toList = 0 then b.f2 - a.f2 else Lib.compareBytes a.f0.data.toList b.f0.data.toList
theorem u8_lt_irrefl (a : UInt8) : ¬ a < a := by simp
theorem cmp_less : ∀ (a b : List UInt8), Op.bytesLess a b = decide (Lib.compareBytes a b < 0)
  | [], [] => rfl
  | [], _ :: _ => rfl
  | _ :: _, [] => rfl
  | a :: x, b :: y => by
    unfold Op.bytesLess Lib.compareBytes
    have ih := cmp_less x y
    by_cases h : a < b
    · rw [if_pos h]; simp [h]
    · by_cases h2 : b < a
      · rw [if_neg h, if_pos h2]
        have : ¬ a = b := fun e => by subst e; exact u8_lt_irrefl _ h2
        simp [h, this]
      · have : a = b := by
          rw [UInt8.lt_iff_toNat_lt] at h h2
          exact UInt8.toNat_inj.1 (by omega)
        subst this
        rw [if_neg h, if_neg h2, ← ih]; simp [h]
theorem cmp_eq0 : ∀ (a b : List UInt8), Lib.compareBytes a b = 0 ↔ a = b
  | [], [] => by simp [Lib.compareBytes]
  | [], _ :: _ => by simp [Lib.compareBytes]
  | _ :: _, [] => by simp [Lib.compareBytes]
  | a :: x, b :: y => by
    unfold Lib.compareBytes
    have ih := cmp_eq0 x y
    by_cases h : a < b
    · rw [if_pos h]
      have : ¬ a = b := fun e => by subst e; exact u8_lt_irrefl _ h
      simp [this]
    · by_cases h2 : b < a
      · rw [if_neg h, if_pos h2]
        have : ¬ a = b := fun e => by subst e; exact u8_lt_irrefl _ h2
        simp [this]
      · have : a = b := by
          rw [UInt8.lt_iff_toNat_lt] at h h2
          exact UInt8.toNat_inj.1 (by omega)
        subst this
        rw [if_neg h, if_neg h2, ih]; simp
theorem ba_list (a : ByteArray) : a.data.toList = a.toList := (ByteArray.toList_eq a).symm
theorem ord_ahead (a b : Cel) : decide (0 ≤ ordI a b) = !aheadB a b := by
  unfold ordI aheadB
  rw [ba_list, ba_list, cmp_less]
  have h := cmp_eq0 a.f0.toList b.f0.toList
  by_cases h0 : Lib.compareBytes a.f0.toList b.f0.toList = 0
  · rw [if_pos h0, h0, Bool.eq_iff_iff]
    have h1 : (a.f0.toList == b.f0.toList) = true := by simp [h.1 h0]
    rw [h1]; simp
  · rw [if_neg h0, Bool.eq_iff_iff]
    have h1 : (a.f0.toList == b.f0.toList) = false := beq_eq_false_iff_ne.2 (fun e => h0 (h.2 e))
    rw [h1]; simp
def cellsB (least : Int) : List Int → Int → Option Cel → List Cel → Option (List Int × Int)
  | h, b, _, [] => some (h, b)
  | h, b, p, c :: cs => if cellB c = true ∧ c.f2 ∉ h ∧ c.f2 < least ∧ (∀ q ∈ p, aheadB q c = true) then cellsB least (c.f2 :: h) (if c.f2 < b then c.f2 else b) (some c) cs else none
def listsB : List Int → Int → Bool → List (List Cel) → Bool
  | _, _, _, [] => true
  | h, l, f, x :: xs => if f = false ∧ x = [] then false else match cellsB l h l none x with | none => false | some (h', b') => listsB h' b' false xs
def treeB (m : List Cel) (rs : List (List Cel)) (seq most : Int) : Bool := decide (1 ≤ most ∧ most ≤ 50) && decide (0 ≤ seq ∧ seq ≤ 400) && !decide (most < m.length) && !decide (6 < (rs.length : Int)) && listsB [] (seq + 1) true (m :: rs)
def prc (x : List Cel) : Nat → Option Cel
  | 0 => none
  | j + 1 => x[j]?
def SetM (w : World) (b : Nat) (S : List Int) : Prop := ∃ D, w.ownsMap (H := Unit) Try.prog 3 (plainElem Try.prog 4) b S.length D ∧ ∀ i, (Lit.int .i64 i).wf = true → D.atKey (.int .i64 i) (.lit (.bool false)) = .lit (.bool (decide (i ∈ S)))
theorem SetM.drewN {w : World} {b : Nat} {S : List Int} (h : SetM w b S) (n : Nat) : SetM (w.drewN n) b S := h
theorem SetM.drew {w : World} {b : Nat} {S : List Int} (h : SetM w b S) : SetM w.drew b S := h
end Go.Proofs.Ythffllegmkolgaa.TreeK
