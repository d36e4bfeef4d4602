/- Segments and twins, step by step: what LogOk and MirrorOk tell, in plain Lean; no program in sight. -/
import Derived.Test.YtoacdmohgohpdaaK2LogPure
namespace Go.Proofs.Ytoacdmohgohpdaa.LogK
open Go.RowKit Go.Proofs.YtoacdmohgohpdaaW.PrintWords Go.Proofs.YtoacdmohgohpdaaW.PrintLast Go.Proofs.YtoacdmohgohpdaaW.PrintMore Go.Proofs.Ytoacdmohgohpdaa.QFnExactBehind
def restB (next base N : Int) (rest : List Seg) (l e : Int) (bs : List Bat) : Bool := match batsB base l e bs with | none => false | some (l', e') => segsB next (if l' < base - 1 then base - 1 else l') e' N rest
theorem restB_cons (next base N : Int) (rest : List Seg) (l e : Int) (b : Bat) (bs : List Bat) : restB next base N rest l e (b :: bs) = if batchB b = true ∧ l < b.f0 ∧ base ≤ b.f0 ∧ e ≤ b.f1 then restB next base N rest (lastO b) b.f1 bs else false := by
  unfold restB
  rw [batsB]
  by_cases h : batchB b = true ∧ l < b.f0 ∧ base ≤ b.f0 ∧ e ≤ b.f1
  · rw [if_pos h, if_pos h]
  · rw [if_neg h, if_neg h]
theorem restB_many (next base N : Int) (rest : List Seg) (l e : Int) (bs : List Bat) (h : 400 < N) : restB next base N rest l e bs = false := by
  unfold restB
  split
  · rfl
  · exact segsB_many _ _ _ _ _ h
theorem segs_step {next l e n : Int} {x : List Seg} {j : Nat} {base : Int} {bs : List Bat} (hj : j < x.length) (h : x[j] = ⟨base, bs⟩) :
    segsB next l e n (x.drop j) = (!(decide (base ≤ l) || decide (base < 0) || ((bs.length : Int) == 0) && decide ((j : Int) < (x.length : Int) - 1)) && restB next base (n + bs.length) (x.drop (j + 1)) l e bs) := by
  rw [List.drop_eq_getElem_cons hj, h]
  have hd : (x.drop (j + 1) = []) ↔ ¬ ((j : Int) < (x.length : Int) - 1) := by rw [List.drop_eq_nil_iff]; omega
  have hb : (bs ≠ []) ↔ ¬ ((bs.length : Int) = 0) := by cases bs <;> simp; omega
  have h0 : ((bs.length : Int) == 0) = decide ((bs.length : Int) = 0) := rfl
  rw [segsB, h0]
  show (if l < base ∧ 0 ≤ base ∧ (bs ≠ [] ∨ x.drop (j + 1) = []) then restB next base (n + bs.length) (x.drop (j + 1)) l e bs else false) = _
  generalize restB _ _ _ _ _ _ _ = R
  by_cases h1 : base ≤ l
  · rw [if_neg (fun h => by omega)]; simp [h1]
  by_cases h2 : base < 0
  · rw [if_neg (fun h => by omega)]; simp [h2]
  by_cases h3 : (bs.length : Int) = 0 <;> by_cases h4 : (j : Int) < (x.length : Int) - 1
  · rw [if_neg (fun h => h.2.2.elim (fun h => hb.mp h h3) (fun h => hd.mp h h4))]; rw [decide_eq_true h3, decide_eq_true h4]; simp
  · rw [if_pos ⟨by omega, by omega, Or.inr (hd.mpr h4)⟩, decide_eq_false h1, decide_eq_false h2, decide_eq_false h4]; simp
  · rw [if_pos ⟨by omega, by omega, Or.inl (hb.mpr h3)⟩, decide_eq_false h1, decide_eq_false h2, decide_eq_false h3]; simp
  · rw [if_pos ⟨by omega, by omega, Or.inl (hb.mpr h3)⟩, decide_eq_false h1, decide_eq_false h2, decide_eq_false h3]; simp
theorem rest_step {next base N : Int} {rest : List Seg} {l e : Int} {bs : List Bat} {k : Nat} {b : Bat} (hk : k < bs.length) (h : bs[k] = b) :
    restB next base N rest l e (bs.drop k) = (batchB b && !decide (b.f0 ≤ l) && !decide (b.f0 < base) && !decide (b.f1 < e) && restB next base N rest (lastO b) b.f1 (bs.drop (k + 1))) := by
  rw [List.drop_eq_getElem_cons hk, h, restB_cons]
  generalize restB _ _ _ _ _ _ _ = R
  by_cases h1 : b.f0 ≤ l
  · rw [if_neg (by omega)]; simp [h1]
  by_cases h2 : b.f0 < base
  · rw [if_neg (by omega)]; simp [h2]
  by_cases h3 : b.f1 < e
  · rw [if_neg (by omega)]; simp [h3]
  cases hb : batchB b
  · simp
  · rw [if_pos ⟨rfl, by omega, by omega, by omega⟩, decide_eq_false h1, decide_eq_false h2, decide_eq_false h3]; simp
theorem rest_end (next base N : Int) (rest : List Seg) (l e : Int) (bs : List Bat) : restB next base N rest l e (bs.drop bs.length) = segsB next (if l < base - 1 then base - 1 else l) e N rest := by
  rw [List.drop_length]; rfl
theorem segs_end (next l e n : Int) (x : List Seg) : segsB next l e n (x.drop x.length) = (decide (l < next) && decide (n ≤ 400)) := by
  rw [List.drop_length, segsB, Bool.decide_and]
theorem batch_in {b0 b1 b2 b3 b4 b5 : Int} {rs : List Rec} (h : batchB ⟨b0, b1, b2, b3, b4, b5, rs⟩ = true) : 0 ≤ b0 ∧ b0 ≤ 1000000000 ∧ 1 ≤ rs.length ∧ rs.length ≤ 40 ∧ b0 + rs.length - 1 ≤ 1000000000 := by
  unfold batchB at h
  simp only [Bool.and_eq_true, decide_eq_true_eq] at h
  omega
def twinB (nm nl : Int) (t : Twn) : Bool := decide (0 ≤ t.f0 ∧ t.f0 ≤ nm - 1) && decide (0 ≤ t.f1 ∧ t.f1 ≤ nl - 1)
def twinsB (nm nl : Int) : Option Twn → List Twn → Bool
  | _, [] => true
  | none, t :: ts => twinB nm nl t && twinsB nm nl (some t) ts
  | some p, t :: ts => twinB nm nl t && !(decide (t.f0 ≤ p.f0) || decide (t.f1 < p.f1)) && twinsB nm nl (some t) ts
def prv (x : List Twn) : Nat → Option Twn
  | 0 => none
  | j + 1 => x[j]?
theorem twins_first {nm nl : Int} {x : List Twn} {t0 t1 : Int} (hj : 0 < x.length) (h : x[0] = ⟨t0, t1⟩) :
    twinsB nm nl (prv x 0) (x.drop 0) = (decide (0 ≤ t0 ∧ t0 ≤ nm - 1) && decide (0 ≤ t1 ∧ t1 ≤ nl - 1) && twinsB nm nl (prv x 1) (x.drop 1)) := by
  have e1 : prv x 1 = some (⟨t0, t1⟩ : Twn) := by show x[0]? = _; rw [List.getElem?_eq_getElem hj, h]
  rw [List.drop_eq_getElem_cons hj, h, e1]
  rfl
theorem twins_step {nm nl : Int} {x : List Twn} {j : Nat} {t0 t1 p0 p1 : Int} (hj : j + 1 < x.length) (h : x[j + 1] = ⟨t0, t1⟩) (hp : x[j] = ⟨p0, p1⟩) :
    twinsB nm nl (prv x (j + 1)) (x.drop (j + 1)) = (decide (0 ≤ t0 ∧ t0 ≤ nm - 1) && decide (0 ≤ t1 ∧ t1 ≤ nl - 1) && !(decide (t0 ≤ p0) || decide (t1 < p1)) && twinsB nm nl (prv x (j + 2)) (x.drop (j + 2))) := by
  have e1 : prv x (j + 2) = some (⟨t0, t1⟩ : Twn) := by show x[j + 1]? = _; rw [List.getElem?_eq_getElem hj, h]
  have e0 : prv x (j + 1) = some (⟨p0, p1⟩ : Twn) := by show x[j]? = _; rw [List.getElem?_eq_getElem (by omega), hp]
  rw [List.drop_eq_getElem_cons hj, h, e1, e0]
  rfl
theorem twins_end (nm nl : Int) (x : List Twn) (o : Option Twn) : twinsB nm nl o (x.drop x.length) = true := by
  rw [List.drop_length]
  cases o <;> rfl
def mirrorB (start next roll : Int) (x : List Seg) (nm : Int) (ts : List Twn) : Bool := logB start next roll x && decide (0 ≤ nm ∧ nm ≤ 1000000000) && !decide (400 < ts.length) && twinsB nm next (prv ts 0) ts
theorem log_in {start next roll : Int} {x : List Seg} (h : logB start next roll x = true) : 0 ≤ start ∧ start ≤ next ∧ next ≤ 1000000000 ∧ x.length ≤ 60 := by
  unfold logB at h
  simp only [Bool.and_eq_true, decide_eq_true_eq, Bool.not_eq_true', decide_eq_false_iff_not] at h
  omega
end Go.Proofs.Ytoacdmohgohpdaa.LogK
