/- Joined: QTreex16, RsdPure. -/
import Derived.Test.YthffllegmkolgaaT11QTreex0
import Derived.Test.YthffllegmkolgaaT11QTreex12
import Derived.Test.YthffllegmkolgaaT11QTreex15
import Derived.Test.YthffllegmkolgaaT11ScanPure
import Derived.Test.YthffllegmkolgaaT11TreeCopy
import Derived.Test.YthffllegmkolgaaT11DelKit
import Derived.Test.YthffllegmkolgaaT11QTreex17
import Derived.Test.YthffllegmkolgaaT11QTreex18
import Derived.Test.YthffllegmkolgaaT11DrawPure
namespace Go.Proofs.Ythffllegmkolgaa.QTree
open Go.RowKit Go.Proofs.YthffllegmkolgaaW.PrintWords Go.Proofs.YthffllegmkolgaaW.PrintLast Go.Proofs.YthffllegmkolgaaW.PrintMore
attribute [local go_sem] max2_int min2_int max_two min_two max_three min_three max_four min_four   -- for this text's walks alone
set_option linter.unusedVariables false
set_option linter.unusedSimpArgs false
def laws_eqPairS.l0 : Nat → List (S105) → List (S105) → Int → Option (Bool)
  | 0, _, _, _ => none
  | k + 1, x0, x1, x5 => if x5 < (x0.length : Int) then (if 0 ≤ x5 then (if x5 < (x1.length : Int) then ((laws_eqPair.f ((rd_T105 x0 x5).f0) ((rd_T105 x0 x5).f1) ((rd_T105 x1 x5).f0) ((rd_T105 x1 x5).f1)).bind fun t522 => (if t522 = true then (laws_eqPairS.l0 k x0 x1 (wrap64 (x5 + 1))) else (some false))) else (none)) else (none)) else (some true)
def laws_eqPairS.f (k : Nat) (l0 : List (S105)) (l1 : List (S105)) : Option (Bool) := if (l0.length : Int) = (l1.length : Int) then (laws_eqPairS.l0 k l0 l1 0) else (some false)
theorem laws_eqPairS.mono_l : ∀ k, (∀ y0 y1 y2, LeO (laws_eqPairS.l0 k y0 y1 y2) (laws_eqPairS.l0 (k + 1) y0 y1 y2))
  | 0 => fun _ _ _ r h => by simp [laws_eqPairS.l0] at h
  | k + 1 => by
    have ih0 := laws_eqPairS.mono_l k
    · intro y0 y1 y2
      unfold laws_eqPairS.l0
      repeat' first
      | (with_reducible exact ih0 _ _ _)
      | (with_reducible exact LeO.refl _)
      | (with_reducible exact LeO.none _)
      | (with_reducible refine LeO.ite ?_ ?_)
      | (with_reducible refine LeO.bind ?_ (fun _ => ?_))
      | exact ih0 _ _ _
      | exact LeO.none _
      | refine LeO.ite ?_ ?_
      | refine LeO.bind ?_ (fun _ => ?_)
theorem laws_eqPairS.mono : ∀ a0 a1 k, LeO (laws_eqPairS.f k a0 a1) (laws_eqPairS.f (k + 1) a0 a1) := by
  intro a0 a1 k
  have ih0 := laws_eqPairS.mono_l k
  unfold laws_eqPairS.f
  repeat' first
      | (with_reducible exact ih0 _ _ _)
      | (with_reducible exact LeO.refl _)
      | (with_reducible exact LeO.none _)
      | (with_reducible refine LeO.ite ?_ ?_)
      | (with_reducible refine LeO.bind ?_ (fun _ => ?_))
      | exact ih0 _ _ _
      | exact LeO.none _
      | refine LeO.ite ?_ ?_
      | refine LeO.bind ?_ (fun _ => ?_)
def laws_eqPairS.B6 : List Nat := [0, 0, 3, 7, 0, 0, 48, 112, 255, 511]
def laws_markPairS.l0 : Nat → List (S105) → Int → Int → Option (Int × (List (S105)))
  | 0, _, _, _ => none
  | k + 1, x0, x1, x5 => if x5 < (x0.length : Int) then ((laws_markText.f k x1).bind fun t523 => (if 0 ≤ x5 then ((some (x0.set (x5 : Int).toNat (⟨t523, (rd_T105 x0 x5).f1⟩ : S105) : List (S105))).bind fun y524 => ((laws_markText.f k (wrap64 (x1 + 1))).bind fun t525 => (laws_markPairS.l0 k (y524.set (x5 : Int).toNat (⟨(rd_T105 y524 x5).f0, t525⟩ : S105)) (wrap64 ((wrap64 (x1 + 1)) + 1)) (wrap64 (x5 + 1))))) else (none))) else (some (x1, x0))
def laws_markPairS.f (k : Nat) (l0 : List (S105)) (a1 : Int) : Option (Int × (List (S105))) := laws_markPairS.l0 k l0 a1 0
theorem laws_markPairS.mono_l : ∀ k, (∀ y0 y1 y2, LeO (laws_markPairS.l0 k y0 y1 y2) (laws_markPairS.l0 (k + 1) y0 y1 y2))
  | 0 => fun _ _ _ r h => by simp [laws_markPairS.l0] at h
  | k + 1 => by
    have ih0 := laws_markPairS.mono_l k
    · intro y0 y1 y2
      unfold laws_markPairS.l0
      repeat' first
      | (with_reducible exact ih0 _ _ _)
      | (with_reducible exact laws_markText.mono _ _)
      | (with_reducible exact LeO.refl _)
      | (with_reducible exact LeO.none _)
      | (with_reducible refine LeO.ite ?_ ?_)
      | (with_reducible refine LeO.bind ?_ (fun _ => ?_))
      | exact ih0 _ _ _
      | exact laws_markText.mono _ _
      | exact LeO.none _
      | refine LeO.ite ?_ ?_
      | refine LeO.bind ?_ (fun _ => ?_)
theorem laws_markPairS.mono : ∀ a0 a1 k, LeO (laws_markPairS.f k a0 a1) (laws_markPairS.f (k + 1) a0 a1) := by
  intro a0 a1 k
  have ih0 := laws_markPairS.mono_l k
  unfold laws_markPairS.f
  repeat' first
      | (with_reducible exact ih0 _ _ _)
      | (with_reducible exact laws_markText.mono _ _)
      | (with_reducible exact LeO.refl _)
      | (with_reducible exact LeO.none _)
      | (with_reducible refine LeO.ite ?_ ?_)
      | (with_reducible refine LeO.bind ?_ (fun _ => ?_))
      | exact ih0 _ _ _
      | exact laws_markText.mono _ _
      | exact LeO.none _
      | refine LeO.ite ?_ ?_
      | refine LeO.bind ?_ (fun _ => ?_)
end Go.Proofs.Ythffllegmkolgaa.QTree

namespace Go.Proofs.Ythffllegmkolgaa.TreeK
open Go.RowKit Go.Proofs.YthffllegmkolgaaW.PrintWords Go.Proofs.YthffllegmkolgaaW.PrintLast Go.Proofs.YthffllegmkolgaaW.PrintMore Go.Proofs.Ythffllegmkolgaa.QTree Go.Proofs.Ythffllegmkolgaa.EvKit Go.Proofs.Ythffllegmkolgaa.GTree
set_option linter.unusedSimpArgs false
set_option linter.unusedVariables false
theorem noTie_all {x : Tre} (h : trB x = true) : noTie (allC x) = true := (noTie_iff _).2 ((all_facts h).2.1.imp (fun h => (apart_iff _ _).2 (fun h2 => h h2.2)))
def scanX (x : Tre) (fr til : ByteArray) (seq : Int) : List Par := if trB x = true then scanR (allC x) fr til seq else []
theorem scanN_len (X all : List Cel) (fr til : ByteArray) (seq : Int) (j : Nat) : (scanN X all fr til seq j).length ≤ j := by
  unfold scanN
  exact Nat.le_trans (List.length_filterMap_le _ _) (by simp)
theorem scanX_len (x : Tre) (fr til : ByteArray) (seq : Int) : (scanX x fr til seq).length ≤ 400 := by
  unfold scanX
  by_cases h : trB x = true
  · rw [if_pos h]
    refine Nat.le_trans (scanN_len _ _ _ _ _ _) ?_
    rw [(srt_perm _).length_eq]
    exact (all_facts h).1
  · rw [if_neg h]; exact Nat.zero_le _
abbrev KP := k105
abbrev TP : TypeId := 105
theorem ev_sameP (x : List Par) (hl : x.length ≤ 9223372036854775807) : Ev (fun k => laws_samePairs.f k x x) true := by
  unfold laws_samePairs.f
  simp only [if_true]
  suffices h : ∀ (d j : Nat), j + d = x.length → Ev (fun k => laws_samePairs.l0 k x x (j : Int)) true from h x.length 0 (by omega)
  intro d
  induction d with
  | zero =>
    intro j hj
    refine Ev.step (f := fun _ => some true) (fun k => ?_) (Ev.now _)
    rw [laws_samePairs.l0, if_neg (by omega)]
  | succ d ih =>
    intro j hj
    have hlt : j < x.length := by omega
    refine Ev.step (f := fun k => laws_samePairs.l0 k x x ((j + 1 : Nat) : Int)) (fun k => ?_) (ih (j + 1) (by omega))
    rw [laws_samePairs.l0, if_pos (by omega), if_pos (by omega), if_pos (by omega), w64_succ hlt hl, if_neg (by simp)]
theorem same_rowP (A A' : Option Addr) (c c' : Nat) (x : List Par) (W : World) (hc : x.length ≤ c) (h : KP.C W A x.length x) (hc' : x.length ≤ c') (h' : KP.C W A' x.length x) (s : x.length ≤ 9223372036854775807) :
    Calls Try.prog 51 #[.slice A x.length c, .slice A' x.length c'] W fun e w' => e = .returned (.bool true) ∧ Below W.heap.size W w' := by
  obtain ⟨k, hk⟩ := Ev.rounds (ev_sameP x s)
  exact (laws_samePairs.calls k A c _ A' c' _ _ W h hc h' hc' hk).mono (fun e w' ⟨h1, h2⟩ => ⟨h1, h2.below⟩)
end Go.Proofs.Ythffllegmkolgaa.TreeK

namespace Go.Proofs.Ythffllegmkolgaa.TreeK
open Go.RowKit Go.Proofs.YthffllegmkolgaaW.PrintWords Go.Proofs.YthffllegmkolgaaW.PrintLast Go.Proofs.YthffllegmkolgaaW.PrintMore Go.Proofs.Ythffllegmkolgaa.QTree Go.Proofs.Ythffllegmkolgaa.EvKit Go.Proofs.Ythffllegmkolgaa.GTree
set_option linter.unusedSimpArgs false
set_option linter.unusedVariables false
def logL (l : List Cel) : List Cel := (List.range l.length).map (fun (i : Nat) => chC (i : Int) (l.getD i zCel))
theorem log_len (l : List Cel) : (logL l).length = l.length := by simp [logL]
theorem log_is {most : Int} {l : List Cel} (hm : 1 ≤ most ∧ most ≤ 50) (hl : l.length ≤ 400) (hc : ∀ c ∈ l, okC c) : chgR (bld most l l.length) 0 = logL l := by
  have hf := bld_facts hm hl hc l.length (Nat.le_refl _)
  refine (chg_one hf.1 ?_ (fun c => ?_)).symm
  · unfold logL
    rw [List.pairwise_map]
    refine List.pairwise_lt_range.imp (fun {a b} h => ?_)
    show (a : Int) + 1 < (b : Int) + 1
    omega
  · have h1 := hf.2.2.1 c
    unfold celT at h1
    unfold allC
    rw [h1]
    unfold logL
    rw [List.mem_map]
    constructor
    · rintro ⟨i, hi, rfl⟩
      exact ⟨⟨i, List.mem_range.1 hi, rfl⟩, by show (0 : Int) < (i : Int) + 1; omega⟩
    · rintro ⟨⟨i, hi, rfl⟩, _⟩
      exact ⟨i, List.mem_range.2 hi, rfl⟩
theorem chT_chC (x : Tre) (c : Cel) (s : Int) : chT x (chC s c) = chT x c := rfl
theorem res_log {q : Int} {l : List Cel} (hq : 1 ≤ q ∧ q ≤ 50) (hl : l.length ≤ 400) (hc : ∀ c ∈ l, okC c) : resT q (logL l) = (bld q l l.length, true) := by
  have hf := bld_facts hq hl hc l.length (Nat.le_refl _)
  have hcell := tree_cells hf.1
  rw [resT, if_pos hq]
  suffices h : ∀ (d j : Nat), j + d = l.length → resF ((logL l).drop j) (j : Int) (bld q l j) = (bld q l l.length, true) by
    have := h l.length 0 (by omega)
    simpa [bld] using this
  intro d
  induction d with
  | zero =>
    intro j hj
    obtain rfl : j = l.length := by omega
    rw [← log_len l, List.drop_length]
    rfl
  | succ d ih =>
    intro j hj
    have hlt : j < (logL l).length := by rw [log_len]; omega
    have he : (logL l)[j] = chC (j : Int) (l.getD j zCel) := by simp [logL]
    have hcb : cellB (chC (j : Int) (l.getD j zCel)) = true := hcell _ ((hf.2.2.1 _).2 ⟨j, by omega, rfl⟩)
    rw [List.drop_eq_getElem_cons hlt, he, resF, if_pos ⟨hcb, rfl⟩, chT_chC]
    exact ih (j + 1) (by omega)
theorem scan_two {most q : Int} {l : List Cel} (hm : 1 ≤ most ∧ most ≤ 50) (hq : 1 ≤ q ∧ q ≤ 50) (hl : l.length ≤ 400) (hc : ∀ c ∈ l, okC c) (fr til : ByteArray) (s : Nat) (hs : s ≤ l.length) :
    scanX (bld q l l.length) fr til (s : Int) = scanX (bld most l l.length) fr til (s : Int) := by
  have h1 := bld_facts hm hl hc l.length (Nat.le_refl _)
  have h2 := bld_facts hq hl hc l.length (Nat.le_refl _)
  unfold scanX
  rw [if_pos h1.1, if_pos h2.1]
  refine scan_one (noTie_all h1.1) (scan_sorted (srt_sorted (noTie_all h2.1)) fr til _ _) (fun p => ?_)
  refine (scan_mem (fun c hc => (srt_perm _).mem_iff.2 hc) fr til _ p).trans ?_
  unfold goodP
  have e1 : lookR (allC (bld most l l.length)) p.f0 (s : Int) = lastN l p.f0 s := look_last h1.2.2.1 p.f0 s hs
  have e2 : lookR (allC (bld q l l.length)) p.f0 (s : Int) = lastN l p.f0 s := look_last h2.2.2.1 p.f0 s hs
  rw [e1, e2]
end Go.Proofs.Ythffllegmkolgaa.TreeK
