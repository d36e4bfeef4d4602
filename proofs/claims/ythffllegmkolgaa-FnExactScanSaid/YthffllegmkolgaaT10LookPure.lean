/- What a tree says of a key, in plain Lean: by the program's way (a map of the cells that count) and by the reference's (the best so far). -/
import Derived.Test.YthffllegmkolgaaT10TreeSpec2
import Derived.Test.YthffllegmkolgaaT10QTreex8
namespace Go.Proofs.Ythffllegmkolgaa.TreeK
open Go.RowKit Go.Proofs.YthffllegmkolgaaW.PrintWords Go.Proofs.YthffllegmkolgaaW.PrintLast Go.Proofs.YthffllegmkolgaaW.PrintMore Go.Proofs.Ythffllegmkolgaa.QTree Go.Proofs.Ythffllegmkolgaa.EvKit
def hitB (seq : Int) (c : Cel) (o : Option Cel) : Bool := decide (c.f2 ≤ seq) && (match o with | none => true | some d => decide (d.f2 < c.f2))
def seenC (seq : Int) (xs : List Cel) (key : List UInt8) : Option Cel := xs.foldl (fun o c => if c.f0.toList = key ∧ hitB seq c o = true then some c else o) none
theorem seenC_snoc (seq : Int) (xs : List Cel) (c : Cel) (key : List UInt8) : seenC seq (xs ++ [c]) key = if c.f0.toList = key ∧ hitB seq c (seenC seq xs key) = true then some c else seenC seq xs key := by
  unfold seenC; rw [List.foldl_append]; rfl
def zCel : Cel := ⟨⟨#[]⟩, ⟨#[]⟩, 0, false⟩
theorem seenC_mem (seq : Int) (key : List UInt8) : ∀ (xs : List Cel) (o : Option Cel) (c : Cel), xs.foldl (fun o c => if c.f0.toList = key ∧ hitB seq c o = true then some c else o) o = some c → c ∈ xs ∨ o = some c
  | [], o, c, h => .inr h
  | x :: xs, o, c, h => by
    rw [List.foldl_cons] at h
    rcases seenC_mem seq key xs _ c h with h1 | h1
    · exact .inl (List.mem_cons_of_mem _ h1)
    · by_cases hc : x.f0.toList = key ∧ hitB seq x o = true
      · rw [if_pos hc] at h1; injection h1 with h1; exact .inl (h1 ▸ List.mem_cons_self)
      · rw [if_neg hc] at h1; exact .inr h1
def lookR (xs : List Cel) (key : ByteArray) (seq : Int) : ByteArray × Bool := match seenC seq xs key.toList with | none => (⟨#[]⟩, false) | some c => (c.f1, !c.f3)
theorem ba_empty {a : ByteArray} (h : a.toList = []) : a = ⟨#[]⟩ := by
  rw [ByteArray.toList_eq] at h
  cases a; simp at h; simp [h]
def bestStep (key : List UInt8) (seq : Int) (b c : Cel) : Cel := if c.f0.toList = key ∧ c.f2 ≤ seq ∧ c.f2 > b.f2 then c else b
theorem best_seen (key : List UInt8) (seq : Int) : ∀ (xs : List Cel) (o : Option Cel), (∀ c ∈ xs, 1 ≤ c.f2) → (∀ c ∈ o, 1 ≤ c.f2) →
    xs.foldl (bestStep key seq) (o.getD zCel) = (xs.foldl (fun o c => if c.f0.toList = key ∧ hitB seq c o = true then some c else o) o).getD zCel
  | [], _, _, _ => rfl
  | x :: xs, o, h, ho => by
    rw [List.foldl_cons, List.foldl_cons]
    have hx := h x List.mem_cons_self
    have hs : bestStep key seq (o.getD zCel) x = (if x.f0.toList = key ∧ hitB seq x o = true then some x else o).getD zCel := by
      unfold bestStep hitB
      cases o with
      | none =>
        have h0 : (Option.none (α := Cel)).getD zCel = zCel := rfl
        have h1 : zCel.f2 = 0 := rfl
        rw [h0, h1]
        by_cases a1 : x.f0.toList = key <;> by_cases a2 : x.f2 ≤ seq <;> simp [a1, a2, show (0 : Int) < x.f2 by omega]
      | some d =>
        simp only [Option.getD_some]
        by_cases a1 : x.f0.toList = key <;> by_cases a2 : x.f2 ≤ seq <;> by_cases a3 : d.f2 < x.f2 <;> simp [a1, a2, a3]
    rw [hs]
    refine best_seen key seq xs _ (fun c hc => h c (List.mem_cons_of_mem _ hc)) ?_
    intro c hc
    by_cases hq : x.f0.toList = key ∧ hitB seq x o = true
    · rw [if_pos hq] at hc; cases hc; exact hx
    · rw [if_neg hq] at hc; exact ho c hc
theorem look_of_best (xs : List Cel) (key : ByteArray) (seq : Int) (hc : ∀ c ∈ xs, cellB c = true) :
    lookR xs key seq = (let b := xs.foldl (bestStep key.toList seq) zCel; if b.f2 = 0 ∨ b.f3 = true then (⟨#[]⟩, false) else (b.f1, true)) := by
  have h := best_seen key.toList seq xs none (fun c hc' => (cellB_in (hc c hc')).1) (by simp)
  rw [show (Option.none (α := Cel)).getD zCel = zCel from rfl] at h
  unfold lookR seenC
  rw [h]
  cases hs : List.foldl (fun o c => if c.f0.toList = key.toList ∧ hitB seq c o = true then some c else o) none xs with
  | none => simp [zCel]
  | some c =>
    rcases seenC_mem seq key.toList xs none c hs with hm | hm
    · have hb := hc c hm
      have h1 := cellB_in hb
      have h0 : ¬ c.f2 = 0 := by omega
      simp only [Option.getD_some]
      cases h3 : c.f3 with
      | false => simp [h0]
      | true =>
        unfold cellB at hb
        simp only [h3, Bool.not_true, Bool.false_or, Bool.and_eq_true, beq_iff_eq] at hb
        simp [h0, ba_empty hb.1.2]
    · cases hm
theorem listsB_cells : ∀ (xs : List (List Cel)) (h : List Int) (l : Int) (f : Bool), listsB h l f xs = true → ∀ c ∈ xs.flatten, cellB c = true := by
  have hcs : ∀ (x : List Cel) (l : Int) (h : List Int) (b : Int) (p : Option Cel) r, cellsB l h b p x = some r → ∀ c ∈ x, cellB c = true := by
    intro x
    induction x with
    | nil => intro _ _ _ _ _ _ c hc; cases hc
    | cons a cs ih =>
      intro l h b p r hr c hc
      rw [cellsB] at hr
      by_cases hq : cellB a = true ∧ a.f2 ∉ h ∧ a.f2 < l ∧ (∀ q ∈ p, aheadB q a = true)
      · rw [if_pos hq] at hr
        rcases List.mem_cons.1 hc with rfl | hc
        · exact hq.1
        · exact ih _ _ _ _ _ hr c hc
      · rw [if_neg hq] at hr; cases hr
  intro xs
  induction xs with
  | nil => intro _ _ _ _ c hc; cases hc
  | cons x xs ih =>
    intro h l f hl c hc
    rw [listsB] at hl
    by_cases hq : f = false ∧ x = []
    · rw [if_pos hq] at hl; cases hl
    · rw [if_neg hq] at hl
      cases hr : cellsB l h l none x with
      | none => rw [hr] at hl; cases hl
      | some r =>
        rw [hr] at hl
        rw [List.flatten_cons] at hc
        rcases List.mem_append.1 hc with hc | hc
        · exact hcs x l h l none r hr c hc
        · exact ih _ _ _ hl c hc
theorem tree_cells {m : List Cel} {rs : List (List Cel)} {s q : Int} (h : treeB m rs s q = true) : ∀ c ∈ m ++ rs.flatten, cellB c = true := by
  unfold treeB at h
  simp only [Bool.and_eq_true] at h
  have := listsB_cells _ _ _ _ h.2
  rwa [List.flatten_cons] at this
theorem tree_lens {m : List Cel} {rs : List (List Cel)} {s q : Int} (h : treeB m rs s q = true) : rs.length ≤ 6 := by
  unfold treeB at h
  simp only [Bool.and_eq_true, Bool.not_eq_true', decide_eq_false_iff_not] at h
  have := h.1.2
  omega
theorem spec_look (m : List Cel) (rs : List (List Cel)) (s q : Int) (key : ByteArray) (seq : Int) (hm : m.length ≤ 1048576) (hr : ∀ x ∈ rs, x.length ≤ 1048576) :
    Ev (fun k => spec_Look.f k m rs s q key seq) (if treeB m rs s q = true then lookR (m ++ rs.flatten) key seq else (⟨#[]⟩, false)) := by
  have hl : ∀ (x : List Cel), x.length ≤ 9223372036854775807 → ∀ (d j : Nat) (b : Cel), j + d = x.length → Ev (fun k => spec_Look.l0 k key seq x (j : Int) b.f0 b.f1 b.f2 b.f3) (let b := (x.drop j).foldl (bestStep key.toList seq) b; if b.f2 = 0 ∨ b.f3 = true then (⟨#[]⟩, false) else (b.f1, true)) := by
    intro x hx d
    induction d with
    | zero =>
      intro j b hj
      obtain rfl : j = x.length := by omega
      rw [List.drop_length, List.foldl_nil]
      refine Ev.step (f := fun _ => some (if b.f2 = 0 ∨ b.f3 = true then (⟨#[]⟩, false) else (b.f1, true))) (fun k => ?_) (Ev.now _)
      rw [spec_Look.l0, if_neg (by omega)]
      by_cases h0 : b.f2 = 0 <;> by_cases h3 : b.f3 = true <;> simp [h0, h3]
    | succ d ih =>
      intro j b hj
      have hlt : j < x.length := by omega
      rw [List.drop_eq_getElem_cons hlt, List.foldl_cons]
      refine Ev.step (f := fun k => spec_Look.l0 k key seq x ((j + 1 : Nat) : Int) (bestStep key.toList seq b x[j]).f0 (bestStep key.toList seq b x[j]).f1 (bestStep key.toList seq b x[j]).f2 (bestStep key.toList seq b x[j]).f3) (fun k => ?_) (ih (j + 1) _ (by omega))
      rw [spec_Look.l0, if_pos (by omega), if_pos (by omega), rd48 x j hlt, w64_succ hlt hx]
      unfold bestStep
      by_cases h1 : x[j].f0.toList = key.toList
      · rw [if_pos h1]
        by_cases h2 : x[j].f2 ≤ seq
        · rw [if_pos h2]
          by_cases h3 : x[j].f2 > b.f2
          · simp [h1, h2, h3]
          · simp [h1, h2, h3]
        · simp [h1, h2]
      · simp [h1]
  unfold spec_Look.f
  refine Ev.bind (spec_tree m rs s q hm hr) ?_
  cases ht : treeB m rs s q with
  | false => simp; exact Ev.now _
  | true =>
    simp only [if_true]
    refine Ev.bind (all_ev m rs s q hm hr (tree_lens ht)) ?_
    have hlen : (m ++ rs.flatten).length ≤ 9223372036854775807 := by
      have h1 := flat_len rs hr
      have h2 := tree_lens ht
      rw [List.length_append]; omega
    have h := hl (m ++ rs.flatten) hlen (m ++ rs.flatten).length 0 zCel (by omega)
    rw [look_of_best _ key seq (tree_cells ht)]
    simpa [zCel] using h
end Go.Proofs.Ythffllegmkolgaa.TreeK
