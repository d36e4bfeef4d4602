/- Joined: TreePure, LookPure. -/
import Derived.Test.YthffllegmkolgaaProg
import Derived.Lib.Strings
import Derived.Lib.Slices
import Derived.Lib.Walk
import Derived.Lib.Bytealg
import Derived.Test.YthffllegmkolgaaT11QTreex0
import Derived.Sort.Walk0
import Derived.Maps.Own
import Derived.Maps.OwnSet
import Derived.Maps.Views
import Derived.Test.YthffllegmkolgaaT11WWords
import Derived.Test.YthffllegmkolgaaT11QTreex7
import Derived.Test.YthffllegmkolgaaT11QTreex8
namespace Go.Proofs.Ythffllegmkolgaa.TreeK
set_option maxHeartbeats 1000000 in
set_option maxRecDepth 100000 in
theorem compareString (a b : ByteArray) (w : World) :
    Calls Try.prog 109 #[.string a, .string b] w fun e w' => e = .returned (.int .i64 (Lib.compareBytes a.data.toList b.data.toList)) ∧ w' = w := by
  go_enter Try.func109, Try.ntmps109
  go_wp2
  rw [run_callFunc_extern Try.func137 (by kernel_rfl) (by kernel_rfl) (by kernel_rfl) (e := Extern.BytealgCompare.compare) (by kernel_rfl), Lib.run_compareString]
  simp only [Result.andThen]
  rw [Oper.upon_value]
  go_wp2
  go_ret
  exact ⟨rfl, rfl⟩
set_option maxHeartbeats 1000000 in
theorem stringsCompare (a b : ByteArray) (w : World) :
    Calls Try.prog 98 #[.string a, .string b] w fun e w' => e = .returned (.int .i64 (Lib.compareBytes a.data.toList b.data.toList)) ∧ w' = w := by
  go_enter Try.func98, Try.ntmps98
  go_wp2_with (go_at_call 109; refine (compareString _ _ _).mono ?_; rintro e w' ⟨rfl, rfl⟩)
  go_ret
  exact ⟨rfl, rfl⟩
end Go.Proofs.Ythffllegmkolgaa.TreeK

namespace Go.Proofs.Ythffllegmkolgaa.TreeK
open Go.RowKit Go.Proofs.YthffllegmkolgaaW.PrintWords Go.Proofs.YthffllegmkolgaaW.PrintLast Go.Proofs.YthffllegmkolgaaW.PrintMore Go.Proofs.Ythffllegmkolgaa.QTree
abbrev Cel := S48
def cellB (c : Cel) : Bool := decide (c.f0.size ≤ 100) && decide (c.f1.size ≤ 100) && (!c.f3 || c.f1.toList == ([] : List UInt8)) && decide (1 ≤ c.f2 ∧ c.f2 ≤ 400)
def aheadB (a b : Cel) : Bool := Op.bytesLess a.f0.toList b.f0.toList || (a.f0.toList == b.f0.toList && decide (b.f2 < a.f2))
def ordI (a b : Cel) : Int := if Lib.compareBytes a.f0.data.toList b.f0.data.toList = 0 then b.f2 - a.f2 else Lib.compareBytes a.f0.data.toList b.f0.data.toList
theorem u8_lt_irrefl (a : UInt8) : ¬ a < a := by simp
theorem cmp_less : ∀ (a b : List UInt8), Op.bytesLess a b = decide (Lib.compareBytes a b < 0)
  | [], [] => rfl
  | [], _ :: _ => rfl
  | _ :: _, [] => rfl
  | a :: x, b :: y => by
    unfold Op.bytesLess Lib.compareBytes
    have ih := cmp_less x y
    by_cases h : a < b
    · rw [if_pos h]; simp [h]
    · by_cases h2 : b < a
      · rw [if_neg h, if_pos h2]
        have : ¬ a = b := fun e => by subst e; exact u8_lt_irrefl _ h2
        simp [h, this]
      · have : a = b := by
          rw [UInt8.lt_iff_toNat_lt] at h h2
          exact UInt8.toNat_inj.1 (by omega)
        subst this
        rw [if_neg h, if_neg h2, ← ih]; simp [h]
theorem cmp_eq0 : ∀ (a b : List UInt8), Lib.compareBytes a b = 0 ↔ a = b
  | [], [] => by simp [Lib.compareBytes]
  | [], _ :: _ => by simp [Lib.compareBytes]
  | _ :: _, [] => by simp [Lib.compareBytes]
  | a :: x, b :: y => by
    unfold Lib.compareBytes
    have ih := cmp_eq0 x y
    by_cases h : a < b
    · rw [if_pos h]
      have : ¬ a = b := fun e => by subst e; exact u8_lt_irrefl _ h
      simp [this]
    · by_cases h2 : b < a
      · rw [if_neg h, if_pos h2]
        have : ¬ a = b := fun e => by subst e; exact u8_lt_irrefl _ h2
        simp [this]
      · have : a = b := by
          rw [UInt8.lt_iff_toNat_lt] at h h2
          exact UInt8.toNat_inj.1 (by omega)
        subst this
        rw [if_neg h, if_neg h2, ih]; simp
theorem ba_list (a : ByteArray) : a.data.toList = a.toList := (ByteArray.toList_eq a).symm
theorem ord_ahead (a b : Cel) : decide (0 ≤ ordI a b) = !aheadB a b := by
  unfold ordI aheadB
  rw [ba_list, ba_list, cmp_less]
  have h := cmp_eq0 a.f0.toList b.f0.toList
  by_cases h0 : Lib.compareBytes a.f0.toList b.f0.toList = 0
  · rw [if_pos h0, h0, Bool.eq_iff_iff]
    have h1 : (a.f0.toList == b.f0.toList) = true := by simp [h.1 h0]
    rw [h1]; simp
  · rw [if_neg h0, Bool.eq_iff_iff]
    have h1 : (a.f0.toList == b.f0.toList) = false := beq_eq_false_iff_ne.2 (fun e => h0 (h.2 e))
    rw [h1]; simp
def cellsB (least : Int) : List Int → Int → Option Cel → List Cel → Option (List Int × Int)
  | h, b, _, [] => some (h, b)
  | h, b, p, c :: cs => if cellB c = true ∧ c.f2 ∉ h ∧ c.f2 < least ∧ (∀ q ∈ p, aheadB q c = true) then cellsB least (c.f2 :: h) (if c.f2 < b then c.f2 else b) (some c) cs else none
def listsB : List Int → Int → Bool → List (List Cel) → Bool
  | _, _, _, [] => true
  | h, l, f, x :: xs => if f = false ∧ x = [] then false else match cellsB l h l none x with | none => false | some (h', b') => listsB h' b' false xs
def treeB (m : List Cel) (rs : List (List Cel)) (seq most : Int) : Bool := decide (1 ≤ most ∧ most ≤ 50) && decide (0 ≤ seq ∧ seq ≤ 400) && !decide (most < m.length) && !decide (6 < (rs.length : Int)) && listsB [] (seq + 1) true (m :: rs)
def restC (least : Int) (h : List Int) (b : Int) (p : Option Cel) (x : List Cel) (xs : List (List Cel)) : Bool := match cellsB least h b p x with | none => false | some (h', b') => listsB h' b' false xs
theorem lists_step {h : List Int} {l : Int} {x : List (List Cel)} {j : Nat} {y : List Cel} (hj : j < x.length) (e : x[j] = y) :
    listsB h l (decide (j = 0)) (x.drop j) = (!(decide (0 < (j : Int)) && ((y.length : Int) == 0)) && restC l h l none y (x.drop (j + 1))) := by
  rw [List.drop_eq_getElem_cons hj, e, listsB]
  have h0 : ((y.length : Int) == 0) = decide (y = []) := by rw [Bool.eq_iff_iff]; cases y <;> simp; omega
  rw [h0]
  unfold restC
  by_cases hj0 : j = 0
  · subst hj0; simp
  · have : decide (0 < (j : Int)) = true := decide_eq_true (by omega)
    rw [this]
    by_cases hy : y = [] <;> simp [hj0, hy]
theorem lists_end (h : List Int) (l : Int) (f : Bool) (x : List (List Cel)) : listsB h l f (x.drop x.length) = true := by
  rw [List.drop_length]; rfl
def prc (x : List Cel) : Nat → Option Cel
  | 0 => none
  | j + 1 => x[j]?
theorem rest_end {l : Int} {h : List Int} {b : Int} {x : List Cel} {xs : List (List Cel)} (p : Option Cel) : restC l h b p (x.drop x.length) xs = listsB h b false xs := by
  rw [List.drop_length]; rfl
theorem rest_cons (least : Int) (h : List Int) (b : Int) (p : Option Cel) (c : Cel) (cs : List Cel) (xs : List (List Cel)) :
    restC least h b p (c :: cs) xs = if cellB c = true ∧ c.f2 ∉ h ∧ c.f2 < least ∧ (∀ q ∈ p, aheadB q c = true) then restC least (c.f2 :: h) (if c.f2 < b then c.f2 else b) (some c) cs xs else false := by
  unfold restC
  rw [cellsB]
  by_cases hc : cellB c = true ∧ c.f2 ∉ h ∧ c.f2 < least ∧ (∀ q ∈ p, aheadB q c = true)
  · rw [if_pos hc, if_pos hc]
  · rw [if_neg hc, if_neg hc]
theorem rest_at0 {least : Int} {h : List Int} {b : Int} {x : List Cel} {xs : List (List Cel)} {j : Nat} {c : Cel} (h0 : j = 0) (hj : j < x.length) (e : x[j] = c) :
    restC least h b (prc x j) (x.drop j) xs = (cellB c && !decide (c.f2 ∈ h) && !decide (least ≤ c.f2) && restC least (c.f2 :: h) (if c.f2 < b then c.f2 else b) (prc x (j + 1)) (x.drop (j + 1)) xs) := by
  subst h0
  have e1 : prc x 1 = some c := by show x[0]? = _; rw [List.getElem?_eq_getElem hj, e]
  rw [List.drop_eq_getElem_cons hj, e, e1, rest_cons]
  generalize restC _ _ _ _ _ _ = R
  by_cases h1 : cellB c = true <;> by_cases h2 : c.f2 ∈ h <;> by_cases h3 : c.f2 < least <;> simp [h1, h2, h3, prc] <;> omega
theorem rest_at {least : Int} {h : List Int} {b : Int} {x : List Cel} {xs : List (List Cel)} {j i : Nat} {c d : Cel} (h0 : j = i + 1) (hj : j < x.length) (hi : i < x.length) (e : x[j] = c) (hd : x[i] = d) :
    restC least h b (prc x j) (x.drop j) xs = (cellB c && !decide (c.f2 ∈ h) && !decide (least ≤ c.f2) && aheadB d c && restC least (c.f2 :: h) (if c.f2 < b then c.f2 else b) (prc x (j + 1)) (x.drop (j + 1)) xs) := by
  subst h0
  have e1 : prc x (i + 1 + 1) = some c := by show x[i + 1]? = _; rw [List.getElem?_eq_getElem hj, e]
  have e0 : prc x (i + 1) = some d := by show x[i]? = _; rw [List.getElem?_eq_getElem hi, hd]
  rw [List.drop_eq_getElem_cons hj, e, e1, e0, rest_cons]
  generalize restC _ _ _ _ _ _ = R
  by_cases h1 : cellB c = true <;> by_cases h2 : c.f2 ∈ h <;> by_cases h3 : c.f2 < least <;> by_cases h4 : aheadB d c = true <;> simp [h1, h2, h3, h4] <;> omega
def SetM (w : World) (b : Nat) (S : List Int) : Prop := ∃ D, w.ownsMap (H := Unit) Try.prog 3 (plainElem Try.prog 4) b S.length D ∧ ∀ i, (Lit.int .i64 i).wf = true → D.atKey (.int .i64 i) (.lit (.bool false)) = .lit (.bool (decide (i ∈ S)))
theorem SetM.made (w : World) : SetM (w.alloc (.map #[] 0)) w.heap.size [] := ⟨_, World.ownsMap_made w _ _ _, fun i _ => by simp [DataW.atKey]⟩
theorem SetM.lt {w : World} {b : Nat} {S : List Int} (h : SetM w b S) : b < w.heap.size := by obtain ⟨D, h, _⟩ := h; exact h.lt
theorem SetM.kept {w w' : World} {b : Nat} {S : List Int} {row : Option Nat} (h : SetM w b S) (hg : w.grownBy w' row) (hne : some b ≠ row) : SetM w' b S := by obtain ⟨D, h, h2⟩ := h; exact ⟨D, h.kept hg hne, h2⟩
theorem SetM.below {w w' : World} {b : Nat} {S : List Int} (h : SetM w b S) (hb : Below w.heap.size w w') : SetM w' b S := h.kept (row := none) ⟨hb.os, hb.tape, hb.output, hb.size, fun i hi _ => hb.block i hi⟩ (by simp)
theorem SetM.drewN {w : World} {b : Nat} {S : List Int} (h : SetM w b S) (n : Nat) : SetM (w.drewN n) b S := h
theorem SetM.drew {w : World} {b : Nat} {S : List Int} (h : SetM w b S) : SetM w.drew b S := h
set_option maxRecDepth 100000 in
theorem SetM.look {w : World} {b : Nat} {S : List Int} (h : SetM w b S) {i : Int} (hi : (Lit.int .i64 i).wf = true) : (Instr.lookup 76 (.map (some b)) (.int .i64 i) false).run Try.prog w = .ok (.bool (decide (i ∈ S))) w := by
  obtain ⟨D, h, h2⟩ := h
  obtain ⟨v, ps, hrun, hv⟩ := h.lookup (Maps.int_keyed Try.underlying3) Try.underlying76 (z := .bool false) (by kernel_rfl) (plainElem_bool Try.underlying4 false) (Maps.keyOf_int_mk Try.underlying3 hi)
  rw [h2 i hi] at hv
  rw [hrun]
  unfold plainElem at hv
  rw [Try.underlying4] at hv
  split at hv <;> simp_all
end Go.Proofs.Ythffllegmkolgaa.TreeK

namespace Go.Proofs.Ythffllegmkolgaa.EvKit
open Go.RowKit Go.Proofs.YthffllegmkolgaaW.PrintWords
theorem w64 {i : Int} (h0 : -9223372036854775808 ≤ i) (h1 : i ≤ 9223372036854775807) : wrap64 i = i := by
  unfold wrap64; omega
theorem w64_succ {j n : Nat} (h : j < n) (hn : n ≤ 9223372036854775807) : wrap64 ((j : Int) + 1) = ((j + 1 : Nat) : Int) := by
  unfold wrap64; omega
theorem Ev.iteT {α : Type} {c : Prop} [Decidable c] {f g : Nat → Option α} {r : α} (hc : c) (h : Ev f r) : Ev (fun k => if c then f k else g k) r := by
  simpa only [if_pos hc] using h
theorem Ev.iteF {α : Type} {c : Prop} [Decidable c] {f g : Nat → Option α} {r : α} (hc : ¬ c) (h : Ev g r) : Ev (fun k => if c then f k else g k) r := by
  simpa only [if_neg hc] using h
def SZ (g : Int → Nat → Option Int) (Q : Prop) : Prop := ∀ left : Int, 0 ≤ left → left ≤ 1048576 → ∃ v, Ev (fun k => g left k) v ∧ v ≤ left ∧ (0 ≤ v → Q)
theorem SZ.done : SZ (fun left _ => some left) True := fun left _ _ => ⟨left, Ev.now _, Int.le_refl _, fun _ => trivial⟩
theorem SZ.call {s g : Int → Nat → Option Int} {Q1 Q2 : Prop} (hs : SZ s Q1) (h : SZ g Q2) : SZ (fun left k => (s left k).bind fun t => if t < 0 then some (-1) else g t k) (Q1 ∧ Q2) := by
  intro left h0 h1
  obtain ⟨v, a, b, c⟩ := hs left h0 h1
  by_cases hc : v < 0
  · exact ⟨-1, Ev.bind a (Ev.iteT hc (Ev.now _)), by omega, fun h => by omega⟩
  · obtain ⟨u, a2, b2, c2⟩ := h v (by omega) (by omega)
    exact ⟨u, Ev.bind a (Ev.iteF hc a2), by omega, fun h => ⟨c (by omega), c2 h⟩⟩
end Go.Proofs.Ythffllegmkolgaa.EvKit

namespace Go.Proofs.Ythffllegmkolgaa.TreeK
open Go.RowKit Go.Proofs.YthffllegmkolgaaW.PrintWords Go.Proofs.YthffllegmkolgaaW.PrintLast Go.Proofs.YthffllegmkolgaaW.PrintMore Go.Proofs.Ythffllegmkolgaa.QTree Go.Proofs.Ythffllegmkolgaa.EvKit
theorem ahead_f (a b : Cel) : spec_l17Ahead.f a.f0 a.f1 a.f2 a.f3 b.f0 b.f1 b.f2 b.f3 = some (aheadB a b) := by
  unfold spec_l17Ahead.f aheadB
  by_cases h0 : Op.bytesLess a.f0.toList b.f0.toList = true
  · rw [if_pos h0, h0]; rfl
  · rw [if_neg h0, show Op.bytesLess a.f0.toList b.f0.toList = false by simpa using h0]
    by_cases h1 : a.f0.toList = b.f0.toList
    · rw [if_pos h1, beq_iff_eq.2 h1]; rfl
    · rw [if_neg h1, beq_eq_false_iff_ne.2 h1]; rfl
theorem flat_len (rs : List (List Cel)) (h : ∀ x ∈ rs, x.length ≤ 1048576) : rs.flatten.length ≤ rs.length * 1048576 := by
  induction rs with
  | nil => simp
  | cons x xs ih =>
    have h1 := ih (fun y hy => h y (List.mem_cons_of_mem _ hy))
    have h2 := h x List.mem_cons_self
    rw [List.flatten_cons, List.length_append, List.length_cons]
    omega
theorem rdL (x : List (List Cel)) (j : Nat) (h : j < x.length) : rd_L6 x (j : Int) = x[j] := by simp [rd_L6, h]
end Go.Proofs.Ythffllegmkolgaa.TreeK

namespace Go.Proofs.Ythffllegmkolgaa.TreeK
open Go.RowKit Go.Proofs.YthffllegmkolgaaW.PrintWords Go.Proofs.YthffllegmkolgaaW.PrintLast Go.Proofs.YthffllegmkolgaaW.PrintMore Go.Proofs.Ythffllegmkolgaa.QTree Go.Proofs.Ythffllegmkolgaa.EvKit
def hitB (seq : Int) (c : Cel) (o : Option Cel) : Bool := decide (c.f2 ≤ seq) && (match o with | none => true | some d => decide (d.f2 < c.f2))
def seenC (seq : Int) (xs : List Cel) (key : List UInt8) : Option Cel := xs.foldl (fun o c => if c.f0.toList = key ∧ hitB seq c o = true then some c else o) none
theorem seenC_snoc (seq : Int) (xs : List Cel) (c : Cel) (key : List UInt8) : seenC seq (xs ++ [c]) key = if c.f0.toList = key ∧ hitB seq c (seenC seq xs key) = true then some c else seenC seq xs key := by
  unfold seenC; rw [List.foldl_append]; rfl
def zCel : Cel := ⟨⟨#[]⟩, ⟨#[]⟩, 0, false⟩
theorem seenC_mem (seq : Int) (key : List UInt8) : ∀ (xs : List Cel) (o : Option Cel) (c : Cel), xs.foldl (fun o c => if c.f0.toList = key ∧ hitB seq c o = true then some c else o) o = some c → c ∈ xs ∨ o = some c
  | [], o, c, h => .inr h
  | x :: xs, o, c, h => by
    rw [List.foldl_cons] at h
    rcases seenC_mem seq key xs _ c h with h1 | h1
    · exact .inl (List.mem_cons_of_mem _ h1)
    · by_cases hc : x.f0.toList = key ∧ hitB seq x o = true
      · rw [if_pos hc] at h1; injection h1 with h1; exact .inl (h1 ▸ List.mem_cons_self)
      · rw [if_neg hc] at h1; exact .inr h1
def lookR (xs : List Cel) (key : ByteArray) (seq : Int) : ByteArray × Bool := match seenC seq xs key.toList with | none => (⟨#[]⟩, false) | some c => (c.f1, !c.f3)
theorem listsB_cells : ∀ (xs : List (List Cel)) (h : List Int) (l : Int) (f : Bool), listsB h l f xs = true → ∀ c ∈ xs.flatten, cellB c = true := by
  have hcs : ∀ (x : List Cel) (l : Int) (h : List Int) (b : Int) (p : Option Cel) r, cellsB l h b p x = some r → ∀ c ∈ x, cellB c = true := by
    intro x
    induction x with
    | nil => intro _ _ _ _ _ _ c hc; cases hc
    | cons a cs ih =>
      intro l h b p r hr c hc
      rw [cellsB] at hr
      by_cases hq : cellB a = true ∧ a.f2 ∉ h ∧ a.f2 < l ∧ (∀ q ∈ p, aheadB q a = true)
      · rw [if_pos hq] at hr
        rcases List.mem_cons.1 hc with rfl | hc
        · exact hq.1
        · exact ih _ _ _ _ _ hr c hc
      · rw [if_neg hq] at hr; cases hr
  intro xs
  induction xs with
  | nil => intro _ _ _ _ c hc; cases hc
  | cons x xs ih =>
    intro h l f hl c hc
    rw [listsB] at hl
    by_cases hq : f = false ∧ x = []
    · rw [if_pos hq] at hl; cases hl
    · rw [if_neg hq] at hl
      cases hr : cellsB l h l none x with
      | none => rw [hr] at hl; cases hl
      | some r =>
        rw [hr] at hl
        rw [List.flatten_cons] at hc
        rcases List.mem_append.1 hc with hc | hc
        · exact hcs x l h l none r hr c hc
        · exact ih _ _ _ hl c hc
theorem tree_cells {m : List Cel} {rs : List (List Cel)} {s q : Int} (h : treeB m rs s q = true) : ∀ c ∈ m ++ rs.flatten, cellB c = true := by
  unfold treeB at h
  simp only [Bool.and_eq_true] at h
  have := listsB_cells _ _ _ _ h.2
  rwa [List.flatten_cons] at this
theorem tree_lens {m : List Cel} {rs : List (List Cel)} {s q : Int} (h : treeB m rs s q = true) : rs.length ≤ 6 := by
  unfold treeB at h
  simp only [Bool.and_eq_true, Bool.not_eq_true', decide_eq_false_iff_not] at h
  have := h.1.2
  omega
end Go.Proofs.Ythffllegmkolgaa.TreeK
