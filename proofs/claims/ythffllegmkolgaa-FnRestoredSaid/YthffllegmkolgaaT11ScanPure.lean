/- What a scan of a tree tells, in plain Lean: in the reference's order (the sorted cells, the first of each key) and as the program gathers it (the entries of a map, in whatever order, then sorted). -/
import Derived.Test.YthffllegmkolgaaT11LookPure
import Derived.Test.YthffllegmkolgaaT11TreeSort
namespace Go.Proofs.Ythffllegmkolgaa.TreeK
open Go.RowKit Go.Proofs.YthffllegmkolgaaW.PrintWords Go.Proofs.YthffllegmkolgaaW.PrintLast Go.Proofs.YthffllegmkolgaaW.PrintMore Go.Proofs.Ythffllegmkolgaa.QTree Go.Proofs.Ythffllegmkolgaa.EvKit
set_option linter.unusedSimpArgs false
set_option linter.unusedVariables false
abbrev Par := S105
def ltP (a b : Par) : Bool := Op.bytesLess a.f0.toList b.f0.toList
theorem ba_inj {a b : ByteArray} (h : a.toList = b.toList) : a = b := by
  rw [ByteArray.toList_eq, ByteArray.toList_eq] at h
  cases a; cases b
  simp only at h
  rw [Array.toList_inj.1 h]
def inR (fr til key : ByteArray) : Bool := !Op.bytesLess key.toList fr.toList && Op.bytesLess key.toList til.toList
def goodP (X : List Cel) (fr til : ByteArray) (seq : Int) (p : Par) : Prop := inR fr til p.f0 = true ∧ lookR X p.f0 seq = (p.f1, true)
def keyAt (all : List Cel) (i : Nat) : Option (List UInt8) := all[i]?.map (fun c => c.f0.toList)
def scanAt (X all : List Cel) (fr til : ByteArray) (seq : Int) (i : Nat) : Option Par :=
  match all[i]? with
  | none => none
  | some c => if (0 < i ∧ keyAt all (i - 1) = some c.f0.toList) ∨ inR fr til c.f0 = false then none
    else if (lookR X c.f0 seq).2 = true then some ⟨c.f0, (lookR X c.f0 seq).1⟩ else none
def scanN (X all : List Cel) (fr til : ByteArray) (seq : Int) (j : Nat) : List Par := (List.range j).filterMap (scanAt X all fr til seq)
def scanR (X : List Cel) (fr til : ByteArray) (seq : Int) : List Par := scanN X (srt X) fr til seq (srt X).length
theorem scanAt_some {X all : List Cel} {fr til : ByteArray} {seq : Int} {i : Nat} {p : Par} (h : scanAt X all fr til seq i = some p) :
    ∃ c, all[i]? = some c ∧ ¬ (0 < i ∧ keyAt all (i - 1) = some c.f0.toList) ∧ p.f0 = c.f0 ∧ goodP X fr til seq p := by
  unfold scanAt at h
  cases hc : all[i]? with
  | none => rw [hc] at h; cases h
  | some c =>
    rw [hc] at h
    simp only at h
    split at h
    · cases h
    · rename_i hn
      rw [not_or] at hn
      split at h
      · rename_i hl
        injection h with h
        subst h
        refine ⟨c, rfl, hn.1, rfl, by simpa using hn.2, ?_⟩
        show lookR X c.f0 seq = ((lookR X c.f0 seq).1, true)
        rw [← hl]
      · cases h
theorem scan_sorted {X all : List Cel} (ha : all.Pairwise (fun a b => aheadB a b = true)) (fr til : ByteArray) (seq : Int) (j : Nat) : (scanN X all fr til seq j).Pairwise (fun a b => ltP a b = true) := by
  unfold scanN
  rw [List.pairwise_filterMap]
  refine List.pairwise_lt_range.imp ?_
  intro i i' hlt b hb b' hb'
  obtain ⟨c, hc, _, e1, _⟩ := scanAt_some hb
  obtain ⟨c', hc', hn, e2, _⟩ := scanAt_some hb'
  unfold ltP
  rw [e1, e2]
  obtain ⟨hi, rfl⟩ := List.getElem?_eq_some_iff.1 hc
  obtain ⟨hi', rfl⟩ := List.getElem?_eq_some_iff.1 hc'
  have hp := List.pairwise_iff_getElem.1 ha
  have hd : i' - 1 < all.length := by omega
  have hne : all[i' - 1].f0.toList ≠ all[i'].f0.toList := fun e => hn ⟨by omega, by unfold keyAt; rw [List.getElem?_eq_getElem hd]; simp [e]⟩
  have h2 : Op.bytesLess all[i' - 1].f0.toList all[i'].f0.toList = true := by
    rcases (aheadB_iff _ _).1 (hp (i' - 1) i' hd hi' (by omega)) with h | ⟨h, _⟩
    · exact h
    · exact absurd h hne
  by_cases he : i = i' - 1
  · subst he; exact h2
  · rcases (aheadB_iff _ _).1 (hp i (i' - 1) hi hd (by omega)) with h | ⟨h, _⟩
    · exact bl_trans h h2
    · rw [h]; exact h2
theorem par_mem {l1 l2 : List Par} : l1.Pairwise (fun a b => ltP a b = true) → l2.Pairwise (fun a b => ltP a b = true) → (∀ c, c ∈ l1 ↔ c ∈ l2) → l1 = l2 := by
  have asy : ∀ {a b : Par}, ltP a b = true → ltP b a = true → False := fun {a b} h1 h2 => by
    have := bl_trans h1 h2
    rw [bl_irrefl] at this; cases this
  induction l1 generalizing l2 with
  | nil =>
    intro _ _ hm
    cases l2 with
    | nil => rfl
    | cons b u => exact absurd ((hm b).2 List.mem_cons_self) (by simp)
  | cons a t ih =>
    intro h1 h2 hm
    cases l2 with
    | nil => exact absurd ((hm a).1 List.mem_cons_self) (by simp)
    | cons b u =>
      obtain ⟨h1a, h1t⟩ := List.pairwise_cons.1 h1
      obtain ⟨h2b, h2u⟩ := List.pairwise_cons.1 h2
      have hab : a = b := by
        rcases List.mem_cons.1 ((hm a).1 List.mem_cons_self) with h | ha
        · exact h
        · rcases List.mem_cons.1 ((hm b).2 List.mem_cons_self) with h | hb
          · exact h.symm
          · exact (asy (h1a b hb) (h2b a ha)).elim
      subst hab
      congr 1
      refine ih h1t h2u (fun c => ⟨fun hc => ?_, fun hc => ?_⟩)
      · rcases List.mem_cons.1 ((hm c).1 (List.mem_cons_of_mem _ hc)) with h | h
        · subst h; exact (asy (h1a c hc) (h1a c hc)).elim
        · exact h
      · rcases List.mem_cons.1 ((hm c).2 (List.mem_cons_of_mem _ hc)) with h | h
        · subst h; exact (asy (h2b c hc) (h2b c hc)).elim
        · exact h
theorem first_at {α : Type} (q : α → Prop) [DecidablePred q] : ∀ (l : List α) (c : α), c ∈ l → q c → ∃ (i : Nat) (h : i < l.length), q l[i] ∧ ∀ k (hk : k < i), ¬ q (l[k]'(Nat.lt_trans hk h))
  | [], c, hc, _ => by cases hc
  | a :: l, c, hc, hq => by
    by_cases ha : q a
    · exact ⟨0, by simp, ha, fun k hk => by omega⟩
    · rcases List.mem_cons.1 hc with rfl | hc
      · exact absurd hq ha
      · obtain ⟨i, hi, h1, h2⟩ := first_at q l c hc hq
        refine ⟨i + 1, by simpa using hi, by simpa using h1, fun k hk => ?_⟩
        cases k with
        | zero => simpa using ha
        | succ k => simpa using h2 k (by omega)
theorem scan_mem {X all : List Cel} (hm : ∀ c, c ∈ X → c ∈ all) (fr til : ByteArray) (seq : Int) (p : Par) : p ∈ scanN X all fr til seq all.length ↔ goodP X fr til seq p := by
  unfold scanN
  rw [List.mem_filterMap]
  constructor
  · rintro ⟨i, _, h⟩
    obtain ⟨_, _, _, _, h⟩ := scanAt_some h
    exact h
  · rintro ⟨h1, h2⟩
    have h3 := h2
    unfold lookR at h3
    cases hs : seenC seq X p.f0.toList with
    | none => rw [hs] at h3; simp at h3
    | some c =>
      have hk : c.f0.toList = p.f0.toList ∧ c ∈ X := by
        have hg : ∀ (xs : List Cel) (o : Option Cel), (∀ d ∈ o, d.f0.toList = p.f0.toList) → ∀ d, xs.foldl (fun o c => if c.f0.toList = p.f0.toList ∧ hitB seq c o = true then some c else o) o = some d → d.f0.toList = p.f0.toList := by
          intro xs
          induction xs with
          | nil => intro o ho d hd; exact ho d hd
          | cons x xs ih =>
            intro o ho d hd
            rw [List.foldl_cons] at hd
            refine ih _ ?_ d hd
            intro e he
            by_cases hc : x.f0.toList = p.f0.toList ∧ hitB seq x o = true
            · rw [if_pos hc] at he; cases he; exact hc.1
            · rw [if_neg hc] at he; exact ho e he
        refine ⟨hg X none (by simp) c hs, ?_⟩
        rcases seenC_mem seq p.f0.toList X none c hs with h | h
        · exact h
        · cases h
      obtain ⟨i, hi, hq, hn⟩ := first_at (fun d : Cel => d.f0.toList = p.f0.toList) all c (hm c hk.2) hk.1
      refine ⟨i, List.mem_range.2 hi, ?_⟩
      have e0 : all[i].f0 = p.f0 := ba_inj hq
      unfold scanAt
      rw [List.getElem?_eq_getElem hi]
      simp only
      rw [if_neg, e0, h2, if_pos rfl]
      rw [not_or]
      refine ⟨?_, by rw [e0, h1]; simp⟩
      rintro ⟨h0, h4⟩
      unfold keyAt at h4
      rw [List.getElem?_eq_getElem (by omega)] at h4
      simp only [Option.map_some, Option.some.injEq] at h4
      exact hn (i - 1) (by omega) (h4.trans hq)
theorem scan_one {X : List Cel} (hn : noTie X = true) {fr til : ByteArray} {seq : Int} {l : List Par} (hs : l.Pairwise (fun a b => ltP a b = true)) (hm : ∀ p, p ∈ l ↔ goodP X fr til seq p) : l = scanR X fr til seq :=
  par_mem hs (scan_sorted (srt_sorted hn) fr til seq _) (fun p => by
    rw [hm p]
    exact (scan_mem (fun c hc => (srt_perm X).mem_iff.2 hc) fr til seq p).symm)
def goodK (f : List UInt8 → Option Cel) (fr til : ByteArray) (p : Par) : Prop := inR fr til p.f0 = true ∧ ∃ c, f p.f0.toList = some c ∧ c.f3 = false ∧ p.f1 = c.f1
theorem goodK_P (X : List Cel) (fr til : ByteArray) (seq : Int) (p : Par) : goodK (seenC seq X) fr til p ↔ goodP X fr til seq p := by
  unfold goodK goodP lookR
  refine and_congr_right (fun _ => ?_)
  cases seenC seq X p.f0.toList with
  | none => simp
  | some c =>
    simp only [Option.some.injEq, Prod.mk.injEq]
    constructor
    · rintro ⟨d, rfl, h1, h2⟩; exact ⟨h2.symm, by simp [h1]⟩
    · rintro ⟨h1, h2⟩; exact ⟨c, rfl, by simpa using h2, h1.symm⟩
structure Gath (f : List UInt8 → Option Cel) (fr til : ByteArray) (left : Lit → Bool) (ps : List Par) : Prop where
  one : ps.Pairwise (fun a b => a.f0.toList ≠ b.f0.toList)
  mem : ∀ p, p ∈ ps ↔ goodK f fr til p ∧ left (.string p.f0.toList) = false
theorem Gath.start {f : List UInt8 → Option Cel} {fr til : ByteArray} {left : Lit → Bool} (h : ∀ k, left (.string k) = (f k).isSome) : Gath f fr til left [] where
  one := List.Pairwise.nil
  mem p := by
    simp only [List.not_mem_nil, false_iff]
    rintro ⟨⟨_, c, h1, _⟩, h2⟩
    rw [h, h1] at h2; cases h2
theorem strike_str (left : Lit → Bool) (a b : List UInt8) : ((fun z : Lit => left z && !z.sameKey (.string b)) (.string a) = false) ↔ (left (.string a) = false ∨ a = b) := by
  simp only [Bool.and_eq_false_iff, Bool.not_eq_false']
  refine or_congr Iff.rfl ⟨fun h => by have := WideAt.sameKey_eq h; injection this, fun h => ?_⟩
  subst h
  exact WideAt.sameKey_self trivial
theorem Gath.skip {f : List UInt8 → Option Cel} {fr til : ByteArray} {left : Lit → Bool} {ps : List Par} (h : Gath f fr til left ps) {k : ByteArray} {c : Cel} (hc : f k.toList = some c) (hn : ¬ (c.f3 = false ∧ inR fr til k = true)) :
    Gath f fr til (fun z => left z && !z.sameKey (.string k.toList)) ps where
  one := h.one
  mem p := by
    rw [h.mem p, strike_str]
    constructor
    · rintro ⟨h1, h2⟩; exact ⟨h1, .inl h2⟩
    · rintro ⟨h1, h2 | h2⟩
      · exact ⟨h1, h2⟩
      · obtain ⟨h3, d, h4, h5, _⟩ := h1
        rw [h2, hc] at h4
        injection h4 with h4
        subst h4
        rw [ba_inj h2] at h3
        exact absurd ⟨h5, h3⟩ hn
theorem Gath.push {f : List UInt8 → Option Cel} {fr til : ByteArray} {left : Lit → Bool} {ps : List Par} (h : Gath f fr til left ps) {k : ByteArray} {c : Cel} (hl : left (.string k.toList) = true) (hc : f k.toList = some c) (h3 : c.f3 = false) (hi : inR fr til k = true) :
    Gath f fr til (fun z => left z && !z.sameKey (.string k.toList)) (ps ++ [⟨k, c.f1⟩]) where
  one := by
    rw [List.pairwise_append]
    refine ⟨h.one, by simp, fun a ha b hb => ?_⟩
    rw [List.mem_singleton] at hb
    subst hb
    intro e
    have := ((h.mem a).1 ha).2
    simp only at e
    rw [e, hl] at this; cases this
  mem p := by
    rw [List.mem_append, h.mem p, strike_str, List.mem_singleton]
    constructor
    · rintro (⟨h1, h2⟩ | rfl)
      · exact ⟨h1, .inl h2⟩
      · exact ⟨⟨hi, c, hc, h3, rfl⟩, .inr rfl⟩
    · rintro ⟨h1, h2 | h2⟩
      · exact .inl ⟨h1, h2⟩
      · obtain ⟨h4, d, h5, h6, h7⟩ := h1
        rw [h2, hc] at h5
        injection h5 with h5
        subst h5
        have := ba_inj h2
        obtain ⟨p0, p1⟩ := p
        simp only at this h7
        subst this h7
        exact .inr rfl
theorem Gath.done {X : List Cel} {fr til : ByteArray} {seq : Int} {left : Lit → Bool} {ps ps' : List Par} (h : Gath (seenC seq X) fr til left ps) (hl : ∀ z, left z = false) (hn : noTie X = true) (hp : ps'.Perm ps) (hs : ps'.Pairwise (fun a b => ltP b a = false)) : ps' = scanR X fr til seq := by
  refine scan_one hn ?_ (fun p => ?_)
  · have h1 : ps'.Pairwise (fun a b : Par => a.f0.toList ≠ b.f0.toList) := (hp.pairwise_iff (fun {a b} hab he => hab he.symm)).2 h.one
    refine (hs.and h1).imp ?_
    rintro a b ⟨h2, h3⟩
    rcases bl_tri a.f0.toList b.f0.toList with h | h | h
    · exact h
    · exact absurd h h3
    · unfold ltP at h2; rw [h] at h2; cases h2
  · rw [hp.mem_iff, h.mem p, goodK_P]
    exact ⟨fun h => h.1, fun h => ⟨h, hl _⟩⟩
end Go.Proofs.Ythffllegmkolgaa.TreeK
