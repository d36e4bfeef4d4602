/- The reference's TreeOk, its printed loops: what it tells is 'treeB'. Plain Lean; no machine in sight. -/
import Derived.Test.YthffllegmkolgaaT10TreePure
import Derived.Test.YthffllegmkolgaaT10QTreex7
import Derived.Test.YthffllegmkolgaaT10Ev
namespace Go.Proofs.Ythffllegmkolgaa.TreeK
open Go.RowKit Go.Proofs.YthffllegmkolgaaW.PrintWords Go.Proofs.YthffllegmkolgaaW.PrintLast Go.Proofs.YthffllegmkolgaaW.PrintMore Go.Proofs.Ythffllegmkolgaa.QTree Go.Proofs.Ythffllegmkolgaa.EvKit
theorem l1In_f (a b c : Int) : spec_l1In.f a b c = some (decide (b ≤ a ∧ a ≤ c)) := by
  unfold spec_l1In.f
  by_cases h : a ≥ b
  · rw [if_pos h]; simp [show b ≤ a from h]
  · rw [if_neg h]; simp [show ¬ b ≤ a from h]
theorem cell_f (c : Cel) : spec_l17Cell.f c.f0 c.f1 c.f2 c.f3 = some (cellB c) := by
  unfold spec_l17Cell.f cellB
  rw [l1In_f]
  have e0 : ((c.f0.size : Int) ≤ 100) = (c.f0.size ≤ 100) := by rw [eq_iff_iff]; omega
  have e1 : ((c.f1.size : Int) ≤ 100) = (c.f1.size ≤ 100) := by rw [eq_iff_iff]; omega
  simp only [e0, e1]
  by_cases h0 : c.f0.size ≤ 100 <;> by_cases h1 : c.f1.size ≤ 100 <;> by_cases h3 : c.f3 = true <;> by_cases h2 : c.f1.toList = ([] : List UInt8) <;> simp [h0, h1, h2, h3]
theorem ahead_f (a b : Cel) : spec_l17Ahead.f a.f0 a.f1 a.f2 a.f3 b.f0 b.f1 b.f2 b.f3 = some (aheadB a b) := by
  unfold spec_l17Ahead.f aheadB
  by_cases h0 : Op.bytesLess a.f0.toList b.f0.toList = true
  · rw [if_pos h0, h0]; rfl
  · rw [if_neg h0, show Op.bytesLess a.f0.toList b.f0.toList = false by simpa using h0]
    by_cases h1 : a.f0.toList = b.f0.toList
    · rw [if_pos h1, beq_iff_eq.2 h1]; rfl
    · rw [if_neg h1, beq_eq_false_iff_ne.2 h1]; rfl
def sortP : Option Cel → List Cel → Bool
  | _, [] => true
  | p, c :: cs => cellB c && (match p with | none => true | some q => aheadB q c) && sortP (some c) cs
theorem sortP_cons (p : Option Cel) (c : Cel) (cs : List Cel) : sortP p (c :: cs) = (cellB c && (match p with | none => true | some q => aheadB q c) && sortP (some c) cs) := by cases p <;> rfl
def loF (m : Int) (x : List Cel) : Int := x.foldl (fun m c => min m c.f2) m
def hiF (m : Int) (x : List Cel) : Int := x.foldl (fun m c => max m c.f2) m
theorem rd48 (x : List Cel) (j : Nat) (h : j < x.length) : rd_T48 x (j : Int) = x[j] := by simp [rd_T48, h]
theorem sorted_ev (x : List Cel) (hx : x.length ≤ 9223372036854775807) : Ev (fun k => spec_l17Sorted.f k x) (sortP none x) := by
  suffices h : ∀ (d j : Nat), j + d = x.length → Ev (fun k => spec_l17Sorted.l0 k x (j : Int)) (sortP (prc x j) (x.drop j)) by exact h x.length 0 (by omega)
  intro d
  induction d with
  | zero =>
    intro j hj
    obtain rfl : j = x.length := by omega
    refine Ev.step (f := fun _ => some true) (fun k => ?_) ?_
    · rw [spec_l17Sorted.l0, if_neg (by omega)]
    · rw [List.drop_length]; cases prc x x.length <;> exact Ev.now _
  | succ d ih =>
    intro j hj
    have hlt : j < x.length := by omega
    have hd : x.drop j = x[j] :: x.drop (j + 1) := List.drop_eq_getElem_cons hlt
    have hp : prc x (j + 1) = some x[j] := by show x[j]? = _; rw [List.getElem?_eq_getElem hlt]
    have ih' := ih (j + 1) (by omega)
    rw [hp] at ih'
    rw [hd, sortP_cons]
    cases hc : cellB x[j] with
    | false =>
      refine Ev.step (f := fun _ => some false) (fun k => ?_) ?_
      · rw [spec_l17Sorted.l0, if_pos (by omega), if_pos (by omega), rd48 x j hlt, cell_f, hc]; simp
      · simp; exact Ev.now _
    | true =>
      rcases j with _ | i
      · refine Ev.step (f := fun k => spec_l17Sorted.l0 k x ((0 + 1 : Nat) : Int)) (fun k => ?_) ?_
        · rw [spec_l17Sorted.l0, if_pos (by omega), if_pos (by omega), rd48 x 0 hlt, cell_f, hc]
          simp only [Option.bind_some, if_true]
          rw [if_neg (by simp), w64_succ hlt hx]
        · simpa [prc] using ih'
      · have hi : i < x.length := by omega
        have hpi : prc x (i + 1) = some x[i] := by show x[i]? = _; rw [List.getElem?_eq_getElem hi]
        have hw : wrap64 (((i + 1 : Nat) : Int) - 1) = (i : Int) := by unfold wrap64; omega
        rw [hpi]
        cases ha : aheadB x[i] x[i + 1] with
        | false =>
          refine Ev.step (f := fun _ => some false) (fun k => ?_) ?_
          · rw [spec_l17Sorted.l0, if_pos (by omega), if_pos (by omega), rd48 x (i + 1) hlt, cell_f, hc]
            simp only [Option.bind_some, if_true]
            rw [if_pos (by omega), hw, if_pos (by omega), if_pos (by omega), rd48 x i hi, ahead_f, ha]; simp
          · simp [ha]; exact Ev.now _
        | true =>
          refine Ev.step (f := fun k => spec_l17Sorted.l0 k x ((i + 1 + 1 : Nat) : Int)) (fun k => ?_) ?_
          · rw [spec_l17Sorted.l0, if_pos (by omega), if_pos (by omega), rd48 x (i + 1) hlt, cell_f, hc]
            simp only [Option.bind_some, if_true]
            rw [if_pos (by omega), hw, if_pos (by omega), if_pos (by omega), rd48 x i hi, ahead_f, ha, w64_succ hlt hx]; simp
          · simpa [ha] using ih'
theorem span_ev (x : List Cel) (hx : x.length ≤ 9223372036854775807) : Ev (fun k => spec_l17Span.f k x) (loF 401 x, hiF 0 x) := by
  suffices h : ∀ (d j : Nat) (a b : Int), j + d = x.length → Ev (fun k => spec_l17Span.l0 k x a b (j : Int)) (loF a (x.drop j), hiF b (x.drop j)) by exact h x.length 0 401 0 (by omega)
  intro d
  induction d with
  | zero =>
    intro j a b hj
    obtain rfl : j = x.length := by omega
    refine Ev.step (f := fun _ => some (a, b)) (fun k => ?_) ?_
    · rw [spec_l17Span.l0, if_neg (by omega)]
    · rw [List.drop_length]; exact Ev.now _
  | succ d ih =>
    intro j a b hj
    have hlt : j < x.length := by omega
    have hd : x.drop j = x[j] :: x.drop (j + 1) := List.drop_eq_getElem_cons hlt
    rw [hd]
    refine Ev.step (f := fun k => spec_l17Span.l0 k x (min a x[j].f2) (max b x[j].f2) ((j + 1 : Nat) : Int)) (fun k => ?_) (ih (j + 1) _ _ (by omega))
    rw [spec_l17Span.l0, if_pos (by omega), if_pos (by omega), rd48 x j hlt, w64_succ hlt hx]
    have e1 : spec_l5Least.f a x[j].f2 = some (min a x[j].f2) := by unfold spec_l5Least.f; split <;> congr 1 <;> omega
    rw [e1]
    simp only [Option.bind_some]
    by_cases h : x[j].f2 > b
    · rw [if_pos h, show max b x[j].f2 = x[j].f2 by omega]
    · rw [if_neg h, show max b x[j].f2 = b by omega]
theorem flat_len (rs : List (List Cel)) (h : ∀ x ∈ rs, x.length ≤ 1048576) : rs.flatten.length ≤ rs.length * 1048576 := by
  induction rs with
  | nil => simp
  | cons x xs ih =>
    have h1 := ih (fun y hy => h y (List.mem_cons_of_mem _ hy))
    have h2 := h x List.mem_cons_self
    rw [List.flatten_cons, List.length_append, List.length_cons]
    omega
theorem rdL (x : List (List Cel)) (j : Nat) (h : j < x.length) : rd_L6 x (j : Int) = x[j] := by simp [rd_L6, h]
theorem all_ev (m : List Cel) (rs : List (List Cel)) (s q : Int) (hm : m.length ≤ 1048576) (hr : ∀ x ∈ rs, x.length ≤ 1048576) (hl : rs.length ≤ 6) : Ev (fun k => spec_l17All.f k m rs s q) (m ++ rs.flatten) := by
  have h : ∀ (d j : Nat) (acc : List Cel), j + d = rs.length → acc.length ≤ 1048576 + j * 1048576 → Ev (fun k => spec_l17All.l0 k acc (j : Int) m rs s q) (acc ++ (rs.drop j).flatten) := by
    intro d
    induction d with
    | zero =>
      intro j acc hj _
      obtain rfl : j = rs.length := by omega
      refine Ev.step (f := fun _ => some acc) (fun k => ?_) ?_
      · rw [spec_l17All.l0, if_neg (by omega)]
      · rw [List.drop_length]; simp; exact Ev.now _
    | succ d ih =>
      intro j acc hj hacc
      have hlt : j < rs.length := by omega
      have hd : rs.drop j = rs[j] :: rs.drop (j + 1) := List.drop_eq_getElem_cons hlt
      have hrj := hr _ (List.getElem_mem hlt)
      rw [hd, List.flatten_cons, ← List.append_assoc]
      refine Ev.step (f := fun k => spec_l17All.l0 k (acc ++ rs[j]) ((j + 1 : Nat) : Int) m rs s q) (fun k => ?_) (ih (j + 1) (acc ++ rs[j]) (by omega) (by rw [List.length_append]; omega))
      rw [spec_l17All.l0, if_pos (by omega), if_pos (by omega), rdL rs j hlt, if_pos (by omega), w64_succ hlt (by omega)]
  unfold spec_l17All.f
  simp only [Option.bind_some, List.length_nil, Nat.zero_add, List.nil_append, show m.length < 2932031007402 from by omega, if_true]
  exact h rs.length 0 m (by omega) (by omega)
def nodB : List Int → List Cel → Bool
  | _, [] => true
  | h, c :: cs => !decide (c.f2 ∈ h) && nodB (c.f2 :: h) cs
theorem rdOf_at (fl : List Bool) (i : Nat) (h : i < fl.length) : rdOf false fl (i : Int) = fl[i] := by
  show fl.getD ((i : Int)).toNat false = _
  rw [Int.toNat_natCast, List.getD_eq_getElem?_getD, List.getElem?_eq_getElem h]
  rfl
theorem seen_ev (x : List Cel) (hx : x.length ≤ 9223372036854775807) (hc : ∀ c ∈ x, 1 ≤ c.f2 ∧ c.f2 ≤ 400) : Ev (fun k => spec_TreeOk.l1 k x (List.replicate 401 false) 0) (nodB [] x) := by
  suffices h : ∀ (d j : Nat) (fl : List Bool) (hs : List Int), j + d = x.length → fl.length = 401 → (∀ i : Nat, (hi : i < fl.length) → fl[i] = decide ((i : Int) ∈ hs)) → Ev (fun k => spec_TreeOk.l1 k x fl (j : Int)) (nodB hs (x.drop j)) by
    exact h x.length 0 _ [] (by omega) List.length_replicate (by intro i hi; rw [List.getElem_replicate]; simp)
  intro d
  induction d with
  | zero =>
    intro j fl hs hj _ _
    obtain rfl : j = x.length := by omega
    refine Ev.step (f := fun _ => some true) (fun k => ?_) ?_
    · rw [spec_TreeOk.l1, if_neg (by omega)]
    · rw [List.drop_length, nodB]; exact Ev.now _
  | succ d ih =>
    intro j fl hs hj hfl hF
    have hlt : j < x.length := by omega
    have hd : x.drop j = x[j] :: x.drop (j + 1) := List.drop_eq_getElem_cons hlt
    obtain ⟨h1, h2⟩ := hc _ (List.getElem_mem hlt)
    obtain ⟨v, hv⟩ : ∃ v : Nat, x[j].f2 = (v : Int) := ⟨x[j].f2.toNat, by omega⟩
    have hvl : v < fl.length := by omega
    rw [hd, nodB]
    have hr : rdOf false fl x[j].f2 = decide (x[j].f2 ∈ hs) := by rw [hv, rdOf_at fl v hvl, hF v hvl]
    by_cases hm : x[j].f2 ∈ hs
    · refine Ev.step (f := fun _ => some false) (fun k => ?_) ?_
      · rw [spec_TreeOk.l1, if_pos (by omega), if_pos (by omega), rd48 x j hlt, if_pos (by omega), if_pos (by omega), hr, if_pos (by simpa using hm)]
      · simp [hm]; exact Ev.now _
    · refine Ev.step (f := fun k => spec_TreeOk.l1 k x (fl.set v true) ((j + 1 : Nat) : Int)) (fun k => ?_) ?_
      · rw [spec_TreeOk.l1, if_pos (by omega), if_pos (by omega), rd48 x j hlt, if_pos (by omega), if_pos (by omega), hr, if_neg (by simpa using hm), w64_succ hlt hx, hv, Int.toNat_natCast]
      · have h3 := ih (j + 1) (fl.set v true) (x[j].f2 :: hs) (by omega) (by rw [List.length_set]; exact hfl) (by
          intro i hi
          rw [List.getElem_set]
          by_cases e : v = i
          · subst e; simp [hv]
          · rw [if_neg e, hF i (by simpa using hi), hv]
            have e2 : ¬ ((i : Int) = (v : Int)) := by omega
            simp [e2])
        simpa [hm] using h3
end Go.Proofs.Ythffllegmkolgaa.TreeK
