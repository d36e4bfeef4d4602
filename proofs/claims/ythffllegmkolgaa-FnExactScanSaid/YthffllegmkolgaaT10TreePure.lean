/- Joined: Cmp, TreePure. -/
import Derived.Test.YthffllegmkolgaaProg
import Derived.Lib.Strings
import Derived.Lib.Slices
import Derived.Lib.Walk
import Derived.Lib.Bytealg
import Derived.Test.YthffllegmkolgaaT10QTreex0
import Derived.Sort.Walk0
import Derived.Maps.Own
import Derived.Maps.OwnSet
import Derived.Maps.Views
namespace Go.Proofs.Ythffllegmkolgaa.TreeK
set_option maxHeartbeats 1000000 in
set_option maxRecDepth 100000 in
theorem compareString (a b : ByteArray) (w : World) :
    Calls Try.prog 109 #[.string a, .string b] w fun e w' => e = .returned (.int .i64 (Lib.compareBytes a.data.toList b.data.toList)) ∧ w' = w := by
  go_enter Try.func109, Try.ntmps109
  go_wp2
  rw [run_callFunc_extern Try.func137 (by kernel_rfl) (by kernel_rfl) (by kernel_rfl) (e := Extern.BytealgCompare.compare) (by kernel_rfl), Lib.run_compareString]
  simp only [Result.andThen]
  rw [Oper.upon_value]
  go_wp2
  go_ret
  exact ⟨rfl, rfl⟩
set_option maxHeartbeats 1000000 in
theorem stringsCompare (a b : ByteArray) (w : World) :
    Calls Try.prog 98 #[.string a, .string b] w fun e w' => e = .returned (.int .i64 (Lib.compareBytes a.data.toList b.data.toList)) ∧ w' = w := by
  go_enter Try.func98, Try.ntmps98
  go_wp2_with (go_at_call 109; refine (compareString _ _ _).mono ?_; rintro e w' ⟨rfl, rfl⟩)
  go_ret
  exact ⟨rfl, rfl⟩
end Go.Proofs.Ythffllegmkolgaa.TreeK

namespace Go.Proofs.Ythffllegmkolgaa.TreeK
open Go.RowKit Go.Proofs.YthffllegmkolgaaW.PrintWords Go.Proofs.YthffllegmkolgaaW.PrintLast Go.Proofs.YthffllegmkolgaaW.PrintMore Go.Proofs.Ythffllegmkolgaa.QTree
abbrev Cel := S48
def cellB (c : Cel) : Bool := decide (c.f0.size ≤ 100) && decide (c.f1.size ≤ 100) && (!c.f3 || c.f1.toList == ([] : List UInt8)) && decide (1 ≤ c.f2 ∧ c.f2 ≤ 400)
def aheadB (a b : Cel) : Bool := Op.bytesLess a.f0.toList b.f0.toList || (a.f0.toList == b.f0.toList && decide (b.f2 < a.f2))
def ordI (a b : Cel) : Int := if Lib.compareBytes a.f0.data.toList b.f0.data.toList = 0 then b.f2 - a.f2 else Lib.compareBytes a.f0.data.toList b.f0.data.toList
theorem u8_lt_irrefl (a : UInt8) : ¬ a < a := by simp
theorem cmp_less : ∀ (a b : List UInt8), Op.bytesLess a b = decide (Lib.compareBytes a b < 0)
  | [], [] => rfl
  | [], _ :: _ => rfl
  | _ :: _, [] => rfl
  | a :: x, b :: y => by
    unfold Op.bytesLess Lib.compareBytes
    have ih := cmp_less x y
    by_cases h : a < b
    · rw [if_pos h]; simp [h]
    · by_cases h2 : b < a
      · rw [if_neg h, if_pos h2]
        have : ¬ a = b := fun e => by subst e; exact u8_lt_irrefl _ h2
        simp [h, this]
      · have : a = b := by
          rw [UInt8.lt_iff_toNat_lt] at h h2
          exact UInt8.toNat_inj.1 (by omega)
        subst this
        rw [if_neg h, if_neg h2, ← ih]; simp [h]
theorem cmp_eq0 : ∀ (a b : List UInt8), Lib.compareBytes a b = 0 ↔ a = b
  | [], [] => by simp [Lib.compareBytes]
  | [], _ :: _ => by simp [Lib.compareBytes]
  | _ :: _, [] => by simp [Lib.compareBytes]
  | a :: x, b :: y => by
    unfold Lib.compareBytes
    have ih := cmp_eq0 x y
    by_cases h : a < b
    · rw [if_pos h]
      have : ¬ a = b := fun e => by subst e; exact u8_lt_irrefl _ h
      simp [this]
    · by_cases h2 : b < a
      · rw [if_neg h, if_pos h2]
        have : ¬ a = b := fun e => by subst e; exact u8_lt_irrefl _ h2
        simp [this]
      · have : a = b := by
          rw [UInt8.lt_iff_toNat_lt] at h h2
          exact UInt8.toNat_inj.1 (by omega)
        subst this
        rw [if_neg h, if_neg h2, ih]; simp
theorem ba_list (a : ByteArray) : a.data.toList = a.toList := (ByteArray.toList_eq a).symm
theorem ord_ahead (a b : Cel) : decide (0 ≤ ordI a b) = !aheadB a b := by
  unfold ordI aheadB
  rw [ba_list, ba_list, cmp_less]
  have h := cmp_eq0 a.f0.toList b.f0.toList
  by_cases h0 : Lib.compareBytes a.f0.toList b.f0.toList = 0
  · rw [if_pos h0, h0, Bool.eq_iff_iff]
    have h1 : (a.f0.toList == b.f0.toList) = true := by simp [h.1 h0]
    rw [h1]; simp
  · rw [if_neg h0, Bool.eq_iff_iff]
    have h1 : (a.f0.toList == b.f0.toList) = false := beq_eq_false_iff_ne.2 (fun e => h0 (h.2 e))
    rw [h1]; simp
def cellsB (least : Int) : List Int → Int → Option Cel → List Cel → Option (List Int × Int)
  | h, b, _, [] => some (h, b)
  | h, b, p, c :: cs => if cellB c = true ∧ c.f2 ∉ h ∧ c.f2 < least ∧ (∀ q ∈ p, aheadB q c = true) then cellsB least (c.f2 :: h) (if c.f2 < b then c.f2 else b) (some c) cs else none
def listsB : List Int → Int → Bool → List (List Cel) → Bool
  | _, _, _, [] => true
  | h, l, f, x :: xs => if f = false ∧ x = [] then false else match cellsB l h l none x with | none => false | some (h', b') => listsB h' b' false xs
def treeB (m : List Cel) (rs : List (List Cel)) (seq most : Int) : Bool := decide (1 ≤ most ∧ most ≤ 50) && decide (0 ≤ seq ∧ seq ≤ 400) && !decide (most < m.length) && !decide (6 < (rs.length : Int)) && listsB [] (seq + 1) true (m :: rs)
def restC (least : Int) (h : List Int) (b : Int) (p : Option Cel) (x : List Cel) (xs : List (List Cel)) : Bool := match cellsB least h b p x with | none => false | some (h', b') => listsB h' b' false xs
theorem lists_step {h : List Int} {l : Int} {x : List (List Cel)} {j : Nat} {y : List Cel} (hj : j < x.length) (e : x[j] = y) :
    listsB h l (decide (j = 0)) (x.drop j) = (!(decide (0 < (j : Int)) && ((y.length : Int) == 0)) && restC l h l none y (x.drop (j + 1))) := by
  rw [List.drop_eq_getElem_cons hj, e, listsB]
  have h0 : ((y.length : Int) == 0) = decide (y = []) := by rw [Bool.eq_iff_iff]; cases y <;> simp; omega
  rw [h0]
  unfold restC
  by_cases hj0 : j = 0
  · subst hj0; simp
  · have : decide (0 < (j : Int)) = true := decide_eq_true (by omega)
    rw [this]
    by_cases hy : y = [] <;> simp [hj0, hy]
theorem lists_end (h : List Int) (l : Int) (f : Bool) (x : List (List Cel)) : listsB h l f (x.drop x.length) = true := by
  rw [List.drop_length]; rfl
def prc (x : List Cel) : Nat → Option Cel
  | 0 => none
  | j + 1 => x[j]?
theorem rest_end {l : Int} {h : List Int} {b : Int} {x : List Cel} {xs : List (List Cel)} (p : Option Cel) : restC l h b p (x.drop x.length) xs = listsB h b false xs := by
  rw [List.drop_length]; rfl
theorem rest_cons (least : Int) (h : List Int) (b : Int) (p : Option Cel) (c : Cel) (cs : List Cel) (xs : List (List Cel)) :
    restC least h b p (c :: cs) xs = if cellB c = true ∧ c.f2 ∉ h ∧ c.f2 < least ∧ (∀ q ∈ p, aheadB q c = true) then restC least (c.f2 :: h) (if c.f2 < b then c.f2 else b) (some c) cs xs else false := by
  unfold restC
  rw [cellsB]
  by_cases hc : cellB c = true ∧ c.f2 ∉ h ∧ c.f2 < least ∧ (∀ q ∈ p, aheadB q c = true)
  · rw [if_pos hc, if_pos hc]
  · rw [if_neg hc, if_neg hc]
theorem rest_at0 {least : Int} {h : List Int} {b : Int} {x : List Cel} {xs : List (List Cel)} {j : Nat} {c : Cel} (h0 : j = 0) (hj : j < x.length) (e : x[j] = c) :
    restC least h b (prc x j) (x.drop j) xs = (cellB c && !decide (c.f2 ∈ h) && !decide (least ≤ c.f2) && restC least (c.f2 :: h) (if c.f2 < b then c.f2 else b) (prc x (j + 1)) (x.drop (j + 1)) xs) := by
  subst h0
  have e1 : prc x 1 = some c := by show x[0]? = _; rw [List.getElem?_eq_getElem hj, e]
  rw [List.drop_eq_getElem_cons hj, e, e1, rest_cons]
  generalize restC _ _ _ _ _ _ = R
  by_cases h1 : cellB c = true <;> by_cases h2 : c.f2 ∈ h <;> by_cases h3 : c.f2 < least <;> simp [h1, h2, h3, prc] <;> omega
theorem rest_at {least : Int} {h : List Int} {b : Int} {x : List Cel} {xs : List (List Cel)} {j i : Nat} {c d : Cel} (h0 : j = i + 1) (hj : j < x.length) (hi : i < x.length) (e : x[j] = c) (hd : x[i] = d) :
    restC least h b (prc x j) (x.drop j) xs = (cellB c && !decide (c.f2 ∈ h) && !decide (least ≤ c.f2) && aheadB d c && restC least (c.f2 :: h) (if c.f2 < b then c.f2 else b) (prc x (j + 1)) (x.drop (j + 1)) xs) := by
  subst h0
  have e1 : prc x (i + 1 + 1) = some c := by show x[i + 1]? = _; rw [List.getElem?_eq_getElem hj, e]
  have e0 : prc x (i + 1) = some d := by show x[i]? = _; rw [List.getElem?_eq_getElem hi, hd]
  rw [List.drop_eq_getElem_cons hj, e, e1, e0, rest_cons]
  generalize restC _ _ _ _ _ _ = R
  by_cases h1 : cellB c = true <;> by_cases h2 : c.f2 ∈ h <;> by_cases h3 : c.f2 < least <;> by_cases h4 : aheadB d c = true <;> simp [h1, h2, h3, h4] <;> omega
def SetM (w : World) (b : Nat) (S : List Int) : Prop := ∃ D, w.ownsMap (H := Unit) Try.prog 3 (plainElem Try.prog 4) b S.length D ∧ ∀ i, (Lit.int .i64 i).wf = true → D.atKey (.int .i64 i) (.lit (.bool false)) = .lit (.bool (decide (i ∈ S)))
theorem SetM.made (w : World) : SetM (w.alloc (.map #[] 0)) w.heap.size [] := ⟨_, World.ownsMap_made w _ _ _, fun i _ => by simp [DataW.atKey]⟩
theorem SetM.lt {w : World} {b : Nat} {S : List Int} (h : SetM w b S) : b < w.heap.size := by obtain ⟨D, h, _⟩ := h; exact h.lt
theorem SetM.kept {w w' : World} {b : Nat} {S : List Int} {row : Option Nat} (h : SetM w b S) (hg : w.grownBy w' row) (hne : some b ≠ row) : SetM w' b S := by obtain ⟨D, h, h2⟩ := h; exact ⟨D, h.kept hg hne, h2⟩
theorem SetM.below {w w' : World} {b : Nat} {S : List Int} (h : SetM w b S) (hb : Below w.heap.size w w') : SetM w' b S := h.kept (row := none) ⟨hb.os, hb.tape, hb.output, hb.size, fun i hi _ => hb.block i hi⟩ (by simp)
theorem SetM.drewN {w : World} {b : Nat} {S : List Int} (h : SetM w b S) (n : Nat) : SetM (w.drewN n) b S := h
theorem SetM.drew {w : World} {b : Nat} {S : List Int} (h : SetM w b S) : SetM w.drew b S := h
set_option maxRecDepth 100000 in
theorem SetM.look {w : World} {b : Nat} {S : List Int} (h : SetM w b S) {i : Int} (hi : (Lit.int .i64 i).wf = true) : (Instr.lookup 76 (.map (some b)) (.int .i64 i) false).run Try.prog w = .ok (.bool (decide (i ∈ S))) w := by
  obtain ⟨D, h, h2⟩ := h
  obtain ⟨v, ps, hrun, hv⟩ := h.lookup (Maps.int_keyed Try.underlying3) Try.underlying76 (z := .bool false) (by kernel_rfl) (plainElem_bool Try.underlying4 false) (Maps.keyOf_int_mk Try.underlying3 hi)
  rw [h2 i hi] at hv
  rw [hrun]
  unfold plainElem at hv
  rw [Try.underlying4] at hv
  split at hv <;> simp_all
end Go.Proofs.Ythffllegmkolgaa.TreeK
