/- What Behind and Across tell, in plain Lean; no program in sight. -/
import Derived.Test.YtoacdmohgohpdaaK2LogSeg
namespace Go.Proofs.Ytoacdmohgohpdaa.LogK
open Go.RowKit Go.Proofs.YtoacdmohgohpdaaW.PrintWords Go.Proofs.YtoacdmohgohpdaaW.PrintLast Go.Proofs.YtoacdmohgohpdaaW.PrintMore Go.Proofs.Ytoacdmohgohpdaa.QFnExactBehind
def allB (x : List Seg) : List Bat := x.flatMap (·.f1)
theorem batsB_all (base : Int) (bs : List Bat) : ∀ l e l' e', batsB base l e bs = some (l', e') → ∀ b ∈ bs, batchB b = true := by
  induction bs with
  | nil => intro l e l' e' _ b hb; cases hb
  | cons a bs ih =>
    intro l e l' e' h b hb
    rw [batsB] at h
    split at h
    · rename_i hc
      rcases List.mem_cons.1 hb with rfl | hb
      · exact hc.1
      · exact ih _ _ _ _ h b hb
    · cases h
theorem segsB_all (next : Int) (x : List Seg) : ∀ l e n, segsB next l e n x = true → ∀ b ∈ allB x, batchB b = true := by
  induction x with
  | nil => intro l e n _ b hb; cases hb
  | cons s ss ih =>
    intro l e n h b hb
    rw [segsB] at h
    split at h
    · split at h
      · cases h
      · rename_i h1
        rcases List.mem_append.1 (show b ∈ s.f1 ++ allB ss from hb) with hb | hb
        · exact batsB_all _ _ _ _ _ _ h1 b hb
        · exact ih _ _ _ h b hb
    · cases h
theorem log_all {start next roll : Int} {x : List Seg} (h : logB start next roll x = true) : ∀ b ∈ allB x, batchB b = true := by
  unfold logB at h
  simp only [Bool.and_eq_true] at h
  exact segsB_all _ _ _ _ _ h.2
theorem allB_take (x : List Seg) (h : ∀ s ∈ x, s.f1.length ≤ 1048576) : ∀ j, (allB (x.take j)).length ≤ j * 1048576 := by
  induction x with
  | nil => intro j; simp [allB]
  | cons s ss ih =>
    intro j
    cases j with
    | zero => simp [allB]
    | succ j =>
      have h1 := ih (fun s hs => h s (List.mem_cons_of_mem _ hs)) j
      have h2 := h s List.mem_cons_self
      show (s.f1 ++ allB (ss.take j)).length ≤ _
      rw [List.length_append]
      omega
theorem allB_step (x : List Seg) (j : Nat) (hj : j < x.length) : allB (x.take (j + 1)) = allB (x.take j) ++ x[j].f1 := by
  unfold allB
  rw [List.take_succ_eq_append_getElem hj, List.flatMap_append]
  simp
theorem allB_len (x : List Seg) (h : ∀ s ∈ x, s.f1.length ≤ 1048576) : (allB x).length ≤ x.length * 1048576 := by
  have := allB_take x h x.length
  rwa [List.take_length] at this
def inB (nm : Int) (b : Bat) : Nat → Int
  | 0 => 0
  | m + 1 => (if b.f5 < 4 ∧ nm ≤ b.f0 + ((b.f6.length : Int) - ((m + 1 : Nat) : Int)) then 1 else 0) + inB nm b m
def allN (nm : Int) : List Bat → Int
  | [] => 0
  | b :: bs => inB nm b b.f6.length + allN nm bs
theorem inB_mark (nm : Int) (b : Bat) (h : ¬ b.f5 < 4) : ∀ m, inB nm b m = 0 := by
  intro m
  induction m with
  | zero => rfl
  | succ m ih => rw [inB, ih, if_neg (fun h' => h h'.1)]; rfl
theorem inB_step (nm : Int) (b : Bat) (k : Nat) (h : k < b.f6.length) : inB nm b (b.f6.length - k) = (if b.f5 < 4 ∧ nm ≤ b.f0 + k then 1 else 0) + inB nm b (b.f6.length - (k + 1)) := by
  obtain ⟨m, hm⟩ : ∃ m, b.f6.length - k = m + 1 := ⟨b.f6.length - k - 1, by omega⟩
  rw [hm, show b.f6.length - (k + 1) = m by omega, inB]
  have : (b.f6.length : Int) - ((m + 1 : Nat) : Int) = (k : Int) := by omega
  rw [this]
theorem allN_step (nm : Int) (bs : List Bat) (i : Nat) (b : Bat) (h : i < bs.length) (e : bs[i] = b) : allN nm (bs.drop i) = inB nm b b.f6.length + allN nm (bs.drop (i + 1)) := by
  rw [List.drop_eq_getElem_cons h, e, allN]
theorem flag4 (f : Int) (h : 0 ≤ f ∧ f ≤ 7) : (Go.bits .and .i64 f 4 == 0) = decide (f < 4) := by
  have : f = 0 ∨ f = 1 ∨ f = 2 ∨ f = 3 ∨ f = 4 ∨ f = 5 ∨ f = 6 ∨ f = 7 := by omega
  rcases this with rfl | rfl | rfl | rfl | rfl | rfl | rfl | rfl <;> decide +kernel
theorem batch_fl {b0 b1 b2 b3 b4 b5 : Int} {rs : List Rec} (h : batchB ⟨b0, b1, b2, b3, b4, b5, rs⟩ = true) : 0 ≤ b5 ∧ b5 ≤ 7 := by
  unfold batchB at h
  simp only [Bool.and_eq_true, decide_eq_true_eq] at h
  omega
def behB (start next roll : Int) (x : List Seg) (m : Bool) (nm : Int) : Int := if logB start next roll x = true ∧ m = true then allN nm (allB x) else -1
def lastAt (o : Int) : Nat → Int → List Twn → Int
  | _, at_, [] => at_
  | i, at_, t :: ts => lastAt o (i + 1) (if t.f0 ≤ o then (i : Int) else at_) ts
theorem lastAt_step (o : Int) (at_ : Int) (ts : List Twn) (i : Nat) (t : Twn) (h : i < ts.length) (e : ts[i] = t) : lastAt o i at_ (ts.drop i) = lastAt o (i + 1) (if t.f0 ≤ o then (i : Int) else at_) (ts.drop (i + 1)) := by
  rw [List.drop_eq_getElem_cons h, e, lastAt]
theorem lastAt_in (o : Int) (ts : List Twn) : ∀ (i : Nat) (at_ : Int), (at_ = -1 ∨ (0 ≤ at_ ∧ at_ < i)) → (lastAt o i at_ ts = -1 ∨ (0 ≤ lastAt o i at_ ts ∧ lastAt o i at_ ts < i + ts.length)) := by
  induction ts with
  | nil => intro i at_ h; simp [lastAt]; omega
  | cons t ts ih =>
    intro i at_ h
    rw [lastAt]
    have := ih (i + 1) (if t.f0 ≤ o then (i : Int) else at_) (by split <;> omega)
    simp only [List.length_cons]
    omega
def lessI (a b : Int) : Int := if a < b then a else b
def acrossAt (start next : Int) (ts : List Twn) (o : Int) (at_ : Int) : Int :=
  if at_ < 0 then start else
    lessI ((ts.getD at_.toNat z106).f1 + o - (ts.getD at_.toNat z106).f0) (if at_ + 1 < ts.length then (ts.getD (at_ + 1).toNat z106).f1 else next)
def acrB (start next : Int) (m : Bool) (ts : List Twn) (o : Int) : Int := if m = true ∧ 0 ≤ o ∧ o ≤ 1000000000 then acrossAt start next ts o (lastAt o 0 (-1) ts) else -1
theorem twins_all (nm nl : Int) (ts : List Twn) : ∀ p, twinsB nm nl p ts = true → ∀ t ∈ ts, (0 ≤ t.f0 ∧ t.f0 ≤ nm - 1) ∧ 0 ≤ t.f1 ∧ t.f1 ≤ nl - 1 := by
  induction ts with
  | nil => intro p _ t ht; cases ht
  | cons a ts ih =>
    intro p h t ht
    have h1 : twinB nm nl a = true ∧ twinsB nm nl (some a) ts = true := by
      cases p <;> simp only [twinsB, Bool.and_eq_true] at h
      · exact h
      · exact ⟨h.1.1, h.2⟩
    rcases List.mem_cons.1 ht with rfl | ht
    · have h2 := h1.1
      unfold twinB at h2
      simpa only [Bool.and_eq_true, decide_eq_true_eq] using h2
    · exact ih _ h1.2 t ht
theorem mirror_in {start next roll : Int} {x : List Seg} {nm : Int} {ts : List Twn} (h : mirrorB start next roll x nm ts = true) : logB start next roll x = true ∧ (0 ≤ nm ∧ nm ≤ 1000000000) ∧ ts.length ≤ 400 ∧ ∀ t ∈ ts, (0 ≤ t.f0 ∧ t.f0 ≤ nm - 1) ∧ 0 ≤ t.f1 ∧ t.f1 ≤ next - 1 := by
  unfold mirrorB at h
  simp only [Bool.and_eq_true, decide_eq_true_eq, Bool.not_eq_true', decide_eq_false_iff_not] at h
  obtain ⟨⟨⟨h1, h2⟩, h3⟩, h4⟩ := h
  exact ⟨h1, h2, by omega, twins_all _ _ _ _ h4⟩
end Go.Proofs.Ytoacdmohgohpdaa.LogK
