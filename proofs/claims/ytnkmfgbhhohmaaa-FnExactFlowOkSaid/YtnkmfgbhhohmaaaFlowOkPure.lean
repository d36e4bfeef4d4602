/- The law FnExactFlowOk, over numbers and lists alone: the two FlowOk's tell the same, and the arguments read as they did. -/
import Derived.Test.YtnkmfgbhhohmaaaQFnExactFlowOkx4
import Derived.Test.YtnkmfgbhhohmaaaEv
namespace Go.Proofs.Ytnkmfgbhhohmaaa.FlowOk
open Go.RowKit Go.Proofs.YtnkmfgbhhohmaaaW.PrintWords Go.Proofs.Ytnkmfgbhhohmaaa.QFnExactFlowOk Go.Proofs.Ytnkmfgbhhohmaaa.EvKit


theorem rdL2 (x : List (List S87)) (j : Nat) (h : j < x.length) : rd_L2 x (j : Int) = x[j] := by simp [rd_L2, h]
theorem rdL4 (x : List (List S61)) (j : Nat) (h : j < x.length) : rd_L4 x (j : Int) = x[j] := by simp [rd_L4, h]
theorem rdT87 (x : List S87) (j : Nat) (h : j < x.length) : rd_T87 x (j : Int) = x[j] := by simp [rd_T87, h]
theorem rdT61 (x : List S61) (j : Nat) (h : j < x.length) : rd_T61 x (j : Int) = x[j] := by simp [rd_T61, h]

/-! ### what came in: counted, copied, compared -/
theorem szFedS (x : List S87) (hx : x.length ≤ 9223372036854775807) (left : Int) (h0 : 0 ≤ left) (h1 : left ≤ 1048576) :
    ∃ v, laws_szFedS.f x left = some v ∧ v ≤ left ∧ (0 ≤ v → x.length ≤ 1048576) := by
  unfold laws_szFedS.f
  rw [w64 (by omega) (by omega)]
  by_cases h : left - (x.length : Int) < 0
  · rw [if_pos h]; exact ⟨_, rfl, by omega, fun h => by omega⟩
  · rw [if_neg h]; exact ⟨_, rfl, by omega, fun h => by omega⟩

theorem szFedSS (x : List (List S87)) (hx : x.length ≤ 9223372036854775807) (hxx : ∀ a ∈ x, a.length ≤ 9223372036854775807) :
    ∃ v, Ev (fun k => laws_szFedSS.f k x 1048576) v ∧ (0 ≤ v → x.length ≤ 1048576 ∧ ∀ a ∈ x, a.length ≤ 1048576) := by
  unfold laws_szFedSS.f
  rw [w64 (by omega) (by omega)]
  by_cases h : 1048576 - (x.length : Int) < 0
  · simp only [if_pos h]; exact ⟨_, Ev.now _, fun h => by omega⟩
  · simp only [if_neg h]
    obtain ⟨v, hv, _, hq⟩ := ev_sz (L := laws_szFedSS.l0) (S := fun _ a left => laws_szFedS.f a left) (rd := rd_L2) (Q := fun a => a.length ≤ 1048576) (fun k x left i => by rw [laws_szFedSS.l0]) rdL2 x hx
      (fun a ha left h0 h1 => by obtain ⟨v, hv, h⟩ := szFedS a (hxx a ha) left h0 h1; exact ⟨v, Ev.const hv, h⟩) (1048576 - (x.length : Int)) (by omega) (by omega)
    exact ⟨v, hv, fun h => ⟨by omega, hq h⟩⟩

def toF (a : S87) : S61 := ⟨a.f0, a.f1⟩
theorem toFedS (x : List S87) (hx : x.length ≤ 1048576) : Ev (fun k => laws_toFedS.f k x) (x.map toF) := by
  unfold laws_toFedS.f
  simp only [show (0 : Int) ≤ (x.length : Int) from by omega, if_true, Int.toNat_natCast, show x.length ≤ 17592186044416 from by omega]
  exact ev_map (L := laws_toFedS.l0) (G := fun _ a => laws_toFed.f a.f0 a.f1) (mk := fun bt => (⟨bt.1, bt.2⟩ : S61)) (g := fun a => (a.f0, a.f1)) (rd := rd_T87) (fun k x acc i => by rw [laws_toFedS.l0]) rdT87 x (by omega)
    (fun a _ => Ev.now _) _ (by simp)

def toFF (x : List (List S87)) : List (List S61) := x.map fun r => r.map toF
theorem toFedSS (x : List (List S87)) (hx : x.length ≤ 1048576) (hxx : ∀ a ∈ x, a.length ≤ 1048576) : Ev (fun k => laws_toFedSS.f k x) (toFF x) := by
  unfold laws_toFedSS.f
  simp only [show (0 : Int) ≤ (x.length : Int) from by omega, if_true, Int.toNat_natCast, show x.length ≤ 11728124029610 from by omega]
  exact ev_map (L := laws_toFedSS.l0) (G := fun k a => laws_toFedS.f k a) (mk := fun b => b) (g := fun r => r.map toF) (rd := rd_L2) (fun k x acc i => by rw [laws_toFedSS.l0]) rdL2 x (by omega)
    (fun a ha => toFedS a (hxx a ha)) _ (by simp)

theorem eqFedS (x : List S61) (hx : x.length ≤ 9223372036854775807) : Ev (fun k => laws_eqFedS.f k x x) true := by
  unfold laws_eqFedS.f
  simp only [if_true]
  exact ev_eq (L := laws_eqFedS.l0) (E := fun _ a b => laws_eqFed.f a.f0 a.f1 b.f0 b.f1) (rd := rd_T61) (fun k x y i => by rw [laws_eqFedS.l0]) rdT61 x hx
    (fun a _ => Ev.const (by simp [laws_eqFed.f]))
theorem eqFedSS (x : List (List S61)) (hx : x.length ≤ 9223372036854775807) (hxx : ∀ a ∈ x, a.length ≤ 9223372036854775807) : Ev (fun k => laws_eqFedSS.f k x x) true := by
  unfold laws_eqFedSS.f
  simp only [if_true]
  exact ev_eq (L := laws_eqFedSS.l0) (E := fun k a b => laws_eqFedS.f k a b) (rd := rd_L4) (fun k x y i => by rw [laws_eqFedSS.l0]) rdL4 x hx (fun a ha => eqFedS a (hxx a ha))

/-! ### the two FlowOk's -/
def fedB (a : S61) : Bool := decide (0 ≤ a.f0 ∧ a.f0 ≤ 1000) && decide (-1000 ≤ a.f1 ∧ a.f1 ≤ 1000)
def rowB (r : List S61) : Bool := decide (r.length ≤ 60) && r.all fedB
def flowB (x : List (List S61)) (w : Int) : Bool := decide ((1 ≤ (x.length : Int) ∧ (x.length : Int) ≤ 4) ∧ (1 ≤ w ∧ w ≤ 6)) && x.all rowB

theorem inB (a b c : Int) : spec_l1In.f a b c = some (decide (b ≤ a ∧ a ≤ c)) := by
  unfold spec_l1In.f
  by_cases h : a ≥ b
  · rw [if_pos h]; simp [show b ≤ a from h]
  · rw [if_neg h]; simp [show ¬ b ≤ a from h]
theorem withinB (a b c : Int) : impl_within.f a b c = some (decide (b ≤ a ∧ a ≤ c)) := by
  unfold impl_within.f
  by_cases h : a ≥ b
  · rw [if_pos h]; simp [show b ≤ a from h]
  · rw [if_neg h]; simp [show ¬ b ≤ a from h]

theorem spec_row (x : List (List S61)) (w : Int) (al : Bool) (j : Nat) (hj : j < x.length) (hx : x.length ≤ 9223372036854775807) (hr : x[j].length ≤ 60) (r : Bool) (h : Ev (fun k => spec_FlowOk.l0 k ((j + 1 : Nat) : Int) x w al) r) :
    Ev (fun k => spec_FlowOk.l1 k (j : Int) 0 x w al) (if x[j].all fedB = true then r else false) := by
  refine ev_scan (L := fun k i => spec_FlowOk.l1 k (j : Int) i x w al) (x[j]) ?_ ?_
  · refine Ev.step (f := fun k => spec_FlowOk.l0 k ((j + 1 : Nat) : Int) x w al) (fun k => ?_) h
    rw [spec_FlowOk.l1, if_pos (by omega), if_pos (by omega), rdL4 x j hj, if_neg (by omega), w64_succ hj hx]
  · intro i hi q hq
    refine Ev.step (f := fun k => if fedB x[j][i] = true then spec_FlowOk.l1 k (j : Int) ((i + 1 : Nat) : Int) x w al else some false) (fun k => ?_) ?_
    · rw [spec_FlowOk.l1, if_pos (by omega), if_pos (by omega), rdL4 x j hj, if_pos (by omega), if_pos (by omega), rdT61 _ i hi, w64_succ hi (by omega), inB, inB]
      simp only [Option.bind_some, fedB, Bool.and_eq_true, decide_eq_true_eq]
      by_cases c1 : 0 ≤ x[j][i].f0 ∧ x[j][i].f0 ≤ 1000 <;> by_cases c2 : -1000 ≤ x[j][i].f1 ∧ x[j][i].f1 ≤ 1000 <;> simp [c1, c2]
    · by_cases hp : fedB x[j][i] = true
      · simpa only [if_pos hp] using hq
      · simpa only [if_neg hp] using Ev.now false

theorem spec_ok (x : List (List S61)) (w : Int) (al : Bool) (hx : x.length ≤ 9223372036854775807) : Ev (fun k => spec_FlowOk.f k x w al) (flowB x w) := by
  have hscan : Ev (fun k => spec_FlowOk.l0 k 0 x w al) (if x.all rowB = true then true else false) := by
    refine ev_scan (L := fun k i => spec_FlowOk.l0 k i x w al) x ?_ ?_
    · refine Ev.step (f := fun _ => some true) (fun k => ?_) (Ev.now _)
      rw [spec_FlowOk.l0, if_neg (by omega)]
    · intro j hj r hr
      by_cases hl : x[j].length ≤ 60
      · have h := spec_row x w al j hj hx hl r hr
        refine Ev.step (f := fun k => spec_FlowOk.l1 k (j : Int) 0 x w al) (fun k => ?_) ?_
        · rw [spec_FlowOk.l0, if_pos (by omega), if_pos (by omega), rdL4 x j hj, if_neg (by omega)]
        · simpa [rowB, hl] using h
      · refine Ev.step (f := fun _ => some false) (fun k => ?_) ?_
        · rw [spec_FlowOk.l0, if_pos (by omega), if_pos (by omega), rdL4 x j hj, if_pos (by omega)]
        · simpa [rowB, hl] using Ev.now false
  unfold spec_FlowOk.f
  simp only [inB, Option.bind_some, decide_eq_true_eq]
  by_cases c1 : 1 ≤ (x.length : Int) ∧ (x.length : Int) ≤ 4
  · simp only [if_pos c1]
    by_cases c2 : 1 ≤ w ∧ w ≤ 6
    · refine Ev.step (f := fun k => spec_FlowOk.l0 k 0 x w al) (fun k => ?_) ?_
      · rw [spec_FlowOk.j0]; simp [c2]
      · have : flowB x w = (if x.all rowB = true then true else false) := by unfold flowB; rw [decide_eq_true (And.intro c1 c2)]; cases x.all rowB <;> rfl
        rw [this]; exact hscan
    · refine Ev.step (f := fun _ => some false) (fun k => ?_) ?_
      · rw [spec_FlowOk.j0]; simp [c2]
      · have : flowB x w = false := by simp [flowB, c2]
        rw [this]; exact Ev.now _
  · simp only [if_neg c1]
    refine Ev.step (f := fun _ => some false) (fun k => ?_) ?_
    · rw [spec_FlowOk.j0]; simp
    · have : flowB x w = false := by simp [flowB, c1]
      rw [this]; exact Ev.now _

theorem impl_row (x : List (List S61)) (j : Nat) (hj : j < x.length) (hx : x.length ≤ 9223372036854775807) (hr : x[j].length ≤ 60) (r : Bool) (h : Ev (fun k => impl_FlowOk.l0 k x (x.length : Int) ((j + 1 : Nat) : Int)) r) :
    Ev (fun k => impl_FlowOk.l1 k x (x.length : Int) (j : Int) x[j] (x[j].length : Int) 0) (if x[j].all fedB = true then r else false) := by
  refine ev_scan (L := fun k i => impl_FlowOk.l1 k x (x.length : Int) (j : Int) x[j] (x[j].length : Int) i) (x[j]) ?_ ?_
  · refine Ev.step (f := fun k => impl_FlowOk.l0 k x (x.length : Int) ((j + 1 : Nat) : Int)) (fun k => ?_) h
    rw [impl_FlowOk.l1, if_neg (by omega), w64_succ hj hx]
  · intro i hi q hq
    refine Ev.step (f := fun k => if fedB x[j][i] = true then impl_FlowOk.l1 k x (x.length : Int) (j : Int) x[j] (x[j].length : Int) ((i + 1 : Nat) : Int) else some false) (fun k => ?_) ?_
    · rw [impl_FlowOk.l1, if_pos (by omega), if_pos (by omega), if_pos (by omega), rdT61 _ i hi, w64_succ hi (by omega), withinB, withinB]
      simp only [Option.bind_some, fedB, Bool.and_eq_true, decide_eq_true_eq]
      by_cases c1 : 0 ≤ x[j][i].f0 ∧ x[j][i].f0 ≤ 1000 <;> by_cases c2 : -1000 ≤ x[j][i].f1 ∧ x[j][i].f1 ≤ 1000 <;> simp [c1, c2]
    · by_cases hp : fedB x[j][i] = true
      · simpa only [if_pos hp] using hq
      · simpa only [if_neg hp] using Ev.now false

theorem impl_ok (x : List (List S61)) (w : Int) (al : Bool) (hx : x.length ≤ 9223372036854775807) : Ev (fun k => impl_FlowOk.f k x w al) (flowB x w) := by
  have hscan : Ev (fun k => impl_FlowOk.l0 k x (x.length : Int) 0) (if x.all rowB = true then true else false) := by
    refine ev_scan (L := fun k i => impl_FlowOk.l0 k x (x.length : Int) i) x ?_ ?_
    · refine Ev.step (f := fun _ => some true) (fun k => ?_) (Ev.now _)
      rw [impl_FlowOk.l0, if_neg (by omega)]
    · intro j hj r hr
      by_cases hl : x[j].length ≤ 60
      · have h := impl_row x j hj hx hl r hr
        refine Ev.step (f := fun k => impl_FlowOk.l1 k x (x.length : Int) (j : Int) x[j] (x[j].length : Int) 0) (fun k => ?_) ?_
        · rw [impl_FlowOk.l0, if_pos (by omega), if_pos (by omega), if_pos (by omega), rdL4 x j hj, if_neg (by omega)]
        · simpa [rowB, hl] using h
      · refine Ev.step (f := fun _ => some false) (fun k => ?_) ?_
        · rw [impl_FlowOk.l0, if_pos (by omega), if_pos (by omega), if_pos (by omega), rdL4 x j hj, if_pos (by omega)]
        · simpa [rowB, hl] using Ev.now false
  unfold impl_FlowOk.f
  simp only [withinB, Option.bind_some, decide_eq_true_eq]
  by_cases c1 : 1 ≤ (x.length : Int) ∧ (x.length : Int) ≤ 4
  · simp only [if_pos c1]
    by_cases c2 : 1 ≤ w ∧ w ≤ 6
    · refine Ev.step (f := fun k => impl_FlowOk.l0 k x (x.length : Int) 0) (fun k => ?_) ?_
      · rw [impl_FlowOk.j0]; simp [c2]
      · have : flowB x w = (if x.all rowB = true then true else false) := by unfold flowB; rw [decide_eq_true (And.intro c1 c2)]; cases x.all rowB <;> rfl
        rw [this]; exact hscan
    · refine Ev.step (f := fun _ => some false) (fun k => ?_) ?_
      · rw [impl_FlowOk.j0]; simp [c2]
      · have : flowB x w = false := by simp [flowB, c2]
        rw [this]; exact Ev.now _
  · simp only [if_neg c1]
    refine Ev.step (f := fun _ => some false) (fun k => ?_) ?_
    · rw [impl_FlowOk.j0]; simp
    · have : flowB x w = false := by simp [flowB, c1]
      rw [this]; exact Ev.now _

theorem pure (x : List (List S87)) (w : Int) (al : Bool) (hx : x.length ≤ 9223372036854775807) (hxx : ∀ a ∈ x, a.length ≤ 9223372036854775807) : ∃ k, laws_FnExactFlowOk.f k x w al = some true := by
  refine Ev.rounds ?_
  unfold laws_FnExactFlowOk.f
  obtain ⟨v, hv, hq⟩ := szFedSS x hx hxx
  by_cases hneg : v < 0
  · refine Ev.bind (a := (-1 : Int)) ?_ (Ev.iteT (by omega) (Ev.now _))
    unfold laws_szFlow.f
    exact Ev.bind hv (Ev.iteT hneg (Ev.now _))
  · obtain ⟨h1, h2⟩ := hq (by omega)
    have hto : Ev (fun k => laws_toFlow.f k x w al) (toFF x, w, al) := by
      unfold laws_toFlow.f
      exact Ev.bind (toFedSS x h1 h2) (Ev.now _)
    have hlen : (toFF x).length ≤ 9223372036854775807 := by simp [toFF]; omega
    refine Ev.bind (a := v) ?_ (Ev.iteF hneg ?_)
    · unfold laws_szFlow.f
      exact Ev.bind hv (Ev.iteF hneg (Ev.now _))
    refine Ev.bind hto (Ev.bind (spec_ok _ _ _ hlen) (Ev.bind hto (Ev.bind (impl_ok _ _ _ hlen) ?_)))
    refine Ev.iteF (by simp) (Ev.bind hto (Ev.bind (a := true) ?_ (Ev.iteT rfl (Ev.now _))))
    unfold laws_eqFlow.f
    refine Ev.bind (eqFedSS _ hlen ?_) (Ev.iteT rfl (Ev.iteT rfl (Ev.iteF (by simp) (Ev.now _))))
    intro a ha
    obtain ⟨b, hb, rfl⟩ := List.mem_map.1 (show a ∈ x.map fun r => r.map toF from ha)
    have := h2 b hb
    simp
    omega

end Go.Proofs.Ytnkmfgbhhohmaaa.FlowOk
