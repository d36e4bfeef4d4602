/- Loops of the laws' own helpers (copying, comparing, counting what came in), from some number of rounds on. -/
import Derived.Test.YtmkhiaikfeoedaaE1WWords
namespace Go.Proofs.Ytmkhiaikfeoedaa.EvKit
open Go.RowKit Go.Proofs.YtmkhiaikfeoedaaW.PrintWords
theorem w64 {i : Int} (h0 : -9223372036854775808 ≤ i) (h1 : i ≤ 9223372036854775807) : wrap64 i = i := by
  unfold wrap64; omega
theorem w64_succ {j n : Nat} (h : j < n) (hn : n ≤ 9223372036854775807) : wrap64 ((j : Int) + 1) = ((j + 1 : Nat) : Int) := by
  unfold wrap64; omega
theorem Ev.const {α : Type} {g : Option α} {r : α} (h : g = some r) : Ev (fun _ => g) r := ⟨0, fun _ _ => h⟩
theorem Ev.iteT {α : Type} {c : Prop} [Decidable c] {f g : Nat → Option α} {r : α} (hc : c) (h : Ev f r) : Ev (fun k => if c then f k else g k) r := by
  simpa only [if_pos hc] using h
theorem Ev.iteF {α : Type} {c : Prop} [Decidable c] {f g : Nat → Option α} {r : α} (hc : ¬ c) (h : Ev g r) : Ev (fun k => if c then f k else g k) r := by
  simpa only [if_neg hc] using h
theorem set_take {β : Type} (acc : List β) (j : Nat) (b : β) (h : j < acc.length) : (acc.set j b).take (j + 1) = acc.take j ++ [b] := by
  rw [List.take_succ_eq_append_getElem (by simpa using h), List.getElem_set_self]
  congr 1
  rw [List.take_set]
  exact List.set_eq_of_length_le (by rw [List.length_take]; omega)
theorem ev_map {α β γ : Type} {L : Nat → List α → List β → Int → Option (List β)} {G : Nat → α → Option γ} {mk : γ → β} {rd : List α → Int → α} {g : α → γ}
    (hL : ∀ k x acc i, L (k + 1) x acc i = if i < (x.length : Int) then (if 0 ≤ i then ((G k (rd x i)).bind fun b => (if i < (acc.length : Int) then L k x (acc.set i.toNat (mk b)) (wrap64 (i + 1)) else none)) else none) else some acc)
    (hrd : ∀ (x : List α) (j : Nat) (h : j < x.length), rd x (j : Int) = x[j]) (x : List α) (hx : x.length ≤ 9223372036854775807)
    (hg : ∀ a ∈ x, Ev (fun k => G k a) (g a)) : ∀ acc : List β, acc.length = x.length → Ev (fun k => L k x acc 0) (x.map fun a => mk (g a)) := by
  suffices h : ∀ (d j : Nat) (acc : List β), j + d = x.length → acc.length = x.length → acc.take j = (x.take j).map (fun a => mk (g a)) → Ev (fun k => L k x acc (j : Int)) (x.map fun a => mk (g a)) by
    intro acc hacc
    exact h x.length 0 acc (by omega) hacc (by simp)
  intro d
  induction d with
  | zero =>
    intro j acc hj hacc hpre
    refine Ev.step (f := fun _ => some acc) (fun k => ?_) ?_
    · rw [hL, if_neg (by omega)]
    · have : acc = x.map fun a => mk (g a) := by
        rw [← List.take_length (l := acc), hacc, ← hj, Nat.add_zero, hpre, List.take_of_length_le (by omega)]
      rw [this]
      exact Ev.now _
  | succ d ih =>
    intro j acc hj hacc hpre
    have hlt : j < x.length := by omega
    refine Ev.step (f := fun k => (G k x[j]).bind fun b => L k x (acc.set j (mk b)) ((j + 1 : Nat) : Int)) (fun k => ?_) ?_
    · rw [hL, if_pos (by omega), if_pos (by omega), hrd x j hlt]
      simp only [show ((j : Int) < (acc.length : Int)) = True from eq_true (by omega), if_true, Int.toNat_natCast, w64_succ hlt hx]
    · refine Ev.bind (hg _ (List.getElem_mem hlt)) (ih (j + 1) _ (by omega) (by rw [List.length_set]; exact hacc) ?_)
      rw [set_take _ _ _ (by omega), hpre, List.take_succ_eq_append_getElem hlt, List.map_append]
      rfl
theorem ev_eq {α : Type} {L : Nat → List α → List α → Int → Option Bool} {E : Nat → α → α → Option Bool} {rd : List α → Int → α}
    (hL : ∀ k x y i, L (k + 1) x y i = if i < (x.length : Int) then (if 0 ≤ i then (if i < (y.length : Int) then ((E k (rd x i) (rd y i)).bind fun t => (if t = true then L k x y (wrap64 (i + 1)) else some false)) else none) else none) else some true)
    (hrd : ∀ (x : List α) (j : Nat) (h : j < x.length), rd x (j : Int) = x[j]) (x : List α) (hx : x.length ≤ 9223372036854775807)
    (hg : ∀ a ∈ x, Ev (fun k => E k a a) true) : Ev (fun k => L k x x 0) true := by
  suffices h : ∀ (d j : Nat), j + d = x.length → Ev (fun k => L k x x (j : Int)) true by exact h x.length 0 (by omega)
  intro d
  induction d with
  | zero =>
    intro j hj
    refine Ev.step (f := fun _ => some true) (fun k => ?_) (Ev.now _)
    rw [hL, if_neg (by omega)]
  | succ d ih =>
    intro j hj
    have hlt : j < x.length := by omega
    refine Ev.step (f := fun k => (E k x[j] x[j]).bind fun t => (if t = true then L k x x ((j + 1 : Nat) : Int) else some false)) (fun k => ?_) ?_
    · rw [hL, if_pos (by omega), if_pos (by omega), if_pos (by omega), hrd x j hlt, w64_succ hlt hx]
    · refine Ev.bind (hg _ (List.getElem_mem hlt)) ?_
      simpa using ih (j + 1) (by omega)
theorem ev_sz {α : Type} {L : Nat → List α → Int → Int → Option Int} {S : Nat → α → Int → Option Int} {rd : List α → Int → α} {Q : α → Prop}
    (hL : ∀ k x left i, L (k + 1) x left i = if i < (x.length : Int) then (if 0 ≤ i then ((S k (rd x i) left).bind fun t => (if t < 0 then some (-1) else L k x t (wrap64 (i + 1)))) else none) else some left)
    (hrd : ∀ (x : List α) (j : Nat) (h : j < x.length), rd x (j : Int) = x[j]) (x : List α) (hx : x.length ≤ 9223372036854775807)
    (hg : ∀ a ∈ x, ∀ left, 0 ≤ left → left ≤ 1048576 → ∃ v, Ev (fun k => S k a left) v ∧ v ≤ left ∧ (0 ≤ v → Q a)) (left : Int) (h0 : 0 ≤ left) (h1 : left ≤ 1048576) :
    ∃ v, Ev (fun k => L k x left 0) v ∧ v ≤ left ∧ (0 ≤ v → ∀ a ∈ x, Q a) := by
  suffices h : ∀ (d j : Nat), j + d = x.length → ∀ left : Int, 0 ≤ left → left ≤ 1048576 → (∀ a ∈ x.take j, Q a) → ∃ v, Ev (fun k => L k x left (j : Int)) v ∧ v ≤ left ∧ (0 ≤ v → ∀ a ∈ x, Q a) by
    exact h x.length 0 (by omega) left h0 h1 (by simp)
  intro d
  induction d with
  | zero =>
    intro j hj left h0 h1 hq
    refine ⟨left, Ev.step (f := fun _ => some left) (fun k => ?_) (Ev.now _), by omega, fun _ => ?_⟩
    · rw [hL, if_neg (by omega)]
    · rwa [List.take_of_length_le (by omega)] at hq
  | succ d ih =>
    intro j hj left h0 h1 hq
    have hlt : j < x.length := by omega
    obtain ⟨v, hv, hle, hqv⟩ := hg _ (List.getElem_mem hlt) left h0 h1
    by_cases hneg : v < 0
    · refine ⟨-1, Ev.step (f := fun k => (S k x[j] left).bind fun t => (if t < 0 then some (-1) else L k x t ((j + 1 : Nat) : Int))) (fun k => ?_) ?_, by omega, fun h => by omega⟩
      · rw [hL, if_pos (by omega), if_pos (by omega), hrd x j hlt, w64_succ hlt hx]
      · exact Ev.bind hv (Ev.iteT hneg (Ev.now _))
    · obtain ⟨u, hu, hule, huq⟩ := ih (j + 1) (by omega) v (by omega) (by omega) (by
        intro a ha
        rw [List.take_succ_eq_append_getElem hlt] at ha
        rcases List.mem_append.1 ha with ha | ha
        · exact hq a ha
        · rw [List.mem_singleton.1 ha]; exact hqv (by omega))
      refine ⟨u, Ev.step (f := fun k => (S k x[j] left).bind fun t => (if t < 0 then some (-1) else L k x t ((j + 1 : Nat) : Int))) (fun k => ?_) ?_, by omega, huq⟩
      · rw [hL, if_pos (by omega), if_pos (by omega), hrd x j hlt, w64_succ hlt hx]
      · exact Ev.bind hv (Ev.iteF hneg hu)
theorem ev_scan {α β : Type} {L : Nat → Int → Option β} (x : List α) {p : α → Bool} {rT rF : β} (hend : Ev (fun k => L k (x.length : Int)) rT)
    (hstep : ∀ (j : Nat) (h : j < x.length) (r : β), Ev (fun k => L k ((j + 1 : Nat) : Int)) r → Ev (fun k => L k (j : Int)) (if p x[j] = true then r else rF)) :
    Ev (fun k => L k 0) (if x.all p = true then rT else rF) := by
  suffices h : ∀ (d j : Nat), j + d = x.length → Ev (fun k => L k (j : Int)) (if (x.drop j).all p = true then rT else rF) by
    have := h x.length 0 (by omega)
    simpa using this
  intro d
  induction d with
  | zero =>
    intro j hj
    obtain rfl : j = x.length := by omega
    simpa using hend
  | succ d ih =>
    intro j hj
    have hlt : j < x.length := by omega
    have h := hstep j hlt _ (ih (j + 1) (by omega))
    rw [List.drop_eq_getElem_cons hlt, List.all_cons]
    cases hp : p x[j]
    · simpa [hp] using h
    · simpa [hp] using h
def SZ (g : Int → Nat → Option Int) (Q : Prop) : Prop := ∀ left : Int, 0 ≤ left → left ≤ 1048576 → ∃ v, Ev (fun k => g left k) v ∧ v ≤ left ∧ (0 ≤ v → Q)
theorem SZ.imp {g : Int → Nat → Option Int} {Q Q' : Prop} (h : SZ g Q) (hq : Q → Q') : SZ g Q' := fun left h0 h1 => by
  obtain ⟨v, a, b, c⟩ := h left h0 h1
  exact ⟨v, a, b, fun h => hq (c h)⟩
theorem SZ.done : SZ (fun left _ => some left) True := fun left _ _ => ⟨left, Ev.now _, Int.le_refl _, fun _ => trivial⟩
theorem SZ.str {g : Int → Nat → Option Int} {Q : Prop} {n : Nat} (hn : n ≤ 9223372036854775807) (h : SZ g Q) : SZ (fun left k => if wrap64 (left - (n : Int)) < 0 then some (-1) else g (wrap64 (left - (n : Int))) k) (n ≤ 1048576 ∧ Q) := by
  intro left h0 h1
  dsimp only
  rw [w64 (i := left - (n : Int)) (by omega) (by omega)]
  by_cases hc : left - (n : Int) < 0
  · exact ⟨-1, Ev.iteT hc (Ev.now _), by omega, fun h => by omega⟩
  · obtain ⟨v, a, b, c⟩ := h (left - n) (by omega) (by omega)
    exact ⟨v, Ev.iteF hc a, by omega, fun h => ⟨by omega, c h⟩⟩
theorem SZ.call {s g : Int → Nat → Option Int} {Q1 Q2 : Prop} (hs : SZ s Q1) (h : SZ g Q2) : SZ (fun left k => (s left k).bind fun t => if t < 0 then some (-1) else g t k) (Q1 ∧ Q2) := by
  intro left h0 h1
  obtain ⟨v, a, b, c⟩ := hs left h0 h1
  by_cases hc : v < 0
  · exact ⟨-1, Ev.bind a (Ev.iteT hc (Ev.now _)), by omega, fun h => by omega⟩
  · obtain ⟨u, a2, b2, c2⟩ := h v (by omega) (by omega)
    exact ⟨u, Ev.bind a (Ev.iteF hc a2), by omega, fun h => ⟨c (by omega), c2 h⟩⟩
theorem SZ.loop {α : Type} {L : Nat → List α → Int → Int → Option Int} {S : Nat → α → Int → Option Int} {rd : List α → Int → α} {Q : α → Prop}
    (hL : ∀ k x left i, L (k + 1) x left i = if i < (x.length : Int) then (if 0 ≤ i then ((S k (rd x i) left).bind fun t => (if t < 0 then some (-1) else L k x t (wrap64 (i + 1)))) else none) else some left)
    (hrd : ∀ (x : List α) (j : Nat) (h : j < x.length), rd x (j : Int) = x[j]) (x : List α) (hx : x.length ≤ 9223372036854775807)
    (hg : ∀ a ∈ x, SZ (fun left k => S k a left) (Q a)) : SZ (fun left k => L k x left 0) (∀ a ∈ x, Q a) :=
  fun left h0 h1 => ev_sz hL hrd x hx (fun a ha l h0 h1 => hg a ha l h0 h1) left h0 h1
theorem SZ.strs {L : Nat → List ByteArray → Int → Int → Option Int} {rd : List ByteArray → Int → ByteArray}
    (hL : ∀ k x left i, L (k + 1) x left i = if i < (x.length : Int) then (if 0 ≤ i then (if wrap64 (left - ((rd x i).size : Int)) < 0 then some (-1) else L k x (wrap64 (left - ((rd x i).size : Int))) (wrap64 (i + 1))) else none) else some left)
    (hrd : ∀ (x : List ByteArray) (j : Nat) (h : j < x.length), rd x (j : Int) = x[j]) (x : List ByteArray) (hx : x.length ≤ 9223372036854775807) (hs : ∀ a ∈ x, a.size ≤ 9223372036854775807) :
    SZ (fun left k => L k x left 0) (∀ a ∈ x, a.size ≤ 1048576) := by
  refine SZ.loop (S := fun _ a left => some (wrap64 (left - (a.size : Int)))) (fun k x left i => ?_) hrd x hx (fun a ha => ?_)
  · rw [hL]; rfl
  · intro left h0 h1
    have := hs a ha
    refine ⟨left - a.size, Ev.const ?_, by omega, fun h => by omega⟩
    rw [w64 (by omega) (by omega)]
theorem ev_eqInt {L : Nat → List Int → List Int → Int → Option Bool} {rd : List Int → Int → Int}
    (hL : ∀ k x y i, L (k + 1) x y i = if i < (x.length : Int) then (if 0 ≤ i then (if i < (y.length : Int) then (if rd x i = rd y i then L k x y (wrap64 (i + 1)) else some false) else none) else none) else some true)
    (hrd : ∀ (x : List Int) (j : Nat) (h : j < x.length), rd x (j : Int) = x[j]) (x : List Int) (hx : x.length ≤ 9223372036854775807) : Ev (fun k => L k x x 0) true := by
  refine ev_eq (E := fun _ a b => if a = b then some true else some false) (fun k x y i => ?_) hrd x hx (fun a _ => Ev.const (by simp))
  rw [hL]
  by_cases h : rd x i = rd y i <;> simp [h]
theorem ev_eqStr {L : Nat → List ByteArray → List ByteArray → Int → Option Bool} {rd : List ByteArray → Int → ByteArray}
    (hL : ∀ k x y i, L (k + 1) x y i = if i < (x.length : Int) then (if 0 ≤ i then (if i < (y.length : Int) then (if (rd x i).toList = (rd y i).toList then L k x y (wrap64 (i + 1)) else some false) else none) else none) else some true)
    (hrd : ∀ (x : List ByteArray) (j : Nat) (h : j < x.length), rd x (j : Int) = x[j]) (x : List ByteArray) (hx : x.length ≤ 9223372036854775807) : Ev (fun k => L k x x 0) true := by
  refine ev_eq (E := fun _ a b => if a.toList = b.toList then some true else some false) (fun k x y i => ?_) hrd x hx (fun a _ => Ev.const (by simp))
  rw [hL]
  by_cases h : (rd x i).toList = (rd y i).toList <;> simp [h]
end Go.Proofs.Ytmkhiaikfeoedaa.EvKit
