/- Joined: ChgPure, DelKit. -/
import Derived.Test.YthffllegmkolgaaT11ResPure
import Derived.Test.YthffllegmkolgaaT11LookPure
import Derived.Test.YthffllegmkolgaaT11LookCalls
import Derived.Test.YthffllegmkolgaaT11QTreex12
import Derived.Test.YthffllegmkolgaaT11TreeCopy
import Derived.Test.YthffllegmkolgaaT11In
import Derived.Lib.SliceRun
namespace Go.Proofs.Ythffllegmkolgaa.TreeK
open Go.RowKit Go.Proofs.YthffllegmkolgaaW.PrintWords Go.Proofs.YthffllegmkolgaaW.PrintLast Go.Proofs.YthffllegmkolgaaW.PrintMore Go.Proofs.Ythffllegmkolgaa.QTree Go.Proofs.Ythffllegmkolgaa.EvKit Go.Proofs.Ythffllegmkolgaa.GTree
set_option linter.unusedSimpArgs false
set_option linter.unusedVariables false
def chgS (frm : Int) (all : List Cel) : Nat → List Cel
  | 0 => []
  | n + 1 => chgS frm all n ++ (if frm < (n : Int) + 1 then all.filter (fun c => decide (c.f2 = (n : Int) + 1)) else [])
theorem chgS_mem (frm : Int) (all : List Cel) : ∀ (n : Nat) (c : Cel), c ∈ chgS frm all n ↔ c ∈ all ∧ frm < c.f2 ∧ 1 ≤ c.f2 ∧ c.f2 ≤ n := by
  intro n
  induction n with
  | zero => intro c; simp only [chgS, List.not_mem_nil, false_iff]; rintro ⟨_, _, h1, h2⟩; simp at h2; omega
  | succ n ih =>
    intro c
    rw [chgS, List.mem_append, ih c]
    by_cases h : frm < (n : Int) + 1
    · rw [if_pos h, List.mem_filter, decide_eq_true_eq]
      constructor
      · rintro (⟨h1, h2, h3, h4⟩ | ⟨h1, h2⟩)
        · exact ⟨h1, h2, h3, by omega⟩
        · exact ⟨h1, by omega, by omega, by omega⟩
      · rintro ⟨h1, h2, h3, h4⟩
        by_cases he : c.f2 = (n : Int) + 1
        · exact .inr ⟨h1, he⟩
        · exact .inl ⟨h1, h2, h3, by omega⟩
    · rw [if_neg h]
      constructor
      · rintro (⟨h1, h2, h3, h4⟩ | h1)
        · exact ⟨h1, h2, h3, by omega⟩
        · cases h1
      · rintro ⟨h1, h2, h3, h4⟩
        exact .inl ⟨h1, h2, h3, by omega⟩
theorem chgS_sorted {frm : Int} {all : List Cel} (h : all.Pairwise (fun a b => a.f2 ≠ b.f2)) : ∀ n, (chgS frm all n).Pairwise (fun a b => a.f2 < b.f2) := by
  intro n
  induction n with
  | zero => exact List.Pairwise.nil
  | succ n ih =>
    rw [chgS, List.pairwise_append]
    refine ⟨ih, ?_, fun a ha b hb => ?_⟩
    · split
      · have h2 := h.sublist (List.filter_sublist (p := fun c : Cel => decide (c.f2 = (n : Int) + 1)))
        refine List.Pairwise.imp_of_mem (fun {a b} ha hb hab => ?_) h2
        have h3 := of_decide_eq_true (List.mem_filter.1 ha).2
        have h4 := of_decide_eq_true (List.mem_filter.1 hb).2
        exact absurd (h3.trans h4.symm) hab
      · exact List.Pairwise.nil
    · have h1 := ((chgS_mem frm all n a).1 ha).2.2.2
      split at hb
      · have := of_decide_eq_true (List.mem_filter.1 hb).2; omega
      · cases hb
theorem sorted_mem {l1 l2 : List Cel} : l1.Pairwise (fun a b => a.f2 < b.f2) → l2.Pairwise (fun a b => a.f2 < b.f2) → (∀ c, c ∈ l1 ↔ c ∈ l2) → l1 = l2 := by
  induction l1 generalizing l2 with
  | nil =>
    intro _ _ hm
    cases l2 with
    | nil => rfl
    | cons b u => exact absurd ((hm b).2 List.mem_cons_self) (by simp)
  | cons a t ih =>
    intro h1 h2 hm
    cases l2 with
    | nil => exact absurd ((hm a).1 List.mem_cons_self) (by simp)
    | cons b u =>
      obtain ⟨h1a, h1t⟩ := List.pairwise_cons.1 h1
      obtain ⟨h2b, h2u⟩ := List.pairwise_cons.1 h2
      have hab : a = b := by
        rcases List.mem_cons.1 ((hm a).1 List.mem_cons_self) with h | ha
        · exact h
        · rcases List.mem_cons.1 ((hm b).2 List.mem_cons_self) with h | hb
          · exact h.symm
          · have := h1a b hb; have := h2b a ha; omega
      subst hab
      congr 1
      refine ih h1t h2u (fun c => ⟨fun hc => ?_, fun hc => ?_⟩)
      · rcases List.mem_cons.1 ((hm c).1 (List.mem_cons_of_mem _ hc)) with h | h
        · subst h; have := h1a c hc; omega
        · exact h
      · rcases List.mem_cons.1 ((hm c).2 (List.mem_cons_of_mem _ hc)) with h | h
        · subst h; have := h2b c hc; omega
        · exact h
def allC (x : Tre) : List Cel := x.f0 ++ x.f1.flatten
def chgR (x : Tre) (frm : Int) : List Cel := if trB x = true then chgS frm (allC x) x.f2.toNat else []
theorem all_facts {x : Tre} (h : trB x = true) : (allC x).length ≤ 400 ∧ (allC x).Pairwise (fun a b => a.f2 ≠ b.f2) ∧ ∀ c ∈ allC x, 1 ≤ c.f2 ∧ c.f2 ≤ 400 ∧ c.f2 ≤ x.f2 := by
  have h1 := few_cells h
  rw [List.flatten_cons] at h1
  have h2 := tree_rows h
  have h3 := tree_facts h
  refine ⟨h1, ?_, fun c hc => ?_⟩
  · have h4 : listsB [] (x.f2 + 1) true (x.f0 :: x.f1) = true := by
      have h' := h
      unfold trB treeB at h'
      simp only [Bool.and_eq_true] at h'
      exact h'.2
    have h5 := (lists_facts _ _ _ _ h4).2.1
    rwa [List.flatten_cons] at h5
  · have hm : c ∈ (x.f0 :: x.f1).flatten := by rw [List.flatten_cons]; exact hc
    obtain ⟨r, hr, hc⟩ := List.mem_flatten.1 hm
    have := h3.at_ r hr c hc
    exact ⟨this.1, this.2, h2.2.2.1 r hr c hc⟩
theorem chg_one {x : Tre} (h : trB x = true) {frm : Int} {l : List Cel} (hs : l.Pairwise (fun a b => a.f2 < b.f2)) (hm : ∀ c, c ∈ l ↔ c ∈ allC x ∧ frm < c.f2) : l = chgR x frm := by
  have ha := all_facts h
  have h2 := (tree_facts h).seq
  rw [chgR, if_pos h]
  refine sorted_mem hs (chgS_sorted ha.2.1 _) (fun c => ?_)
  rw [hm c, chgS_mem]
  constructor
  · rintro ⟨h3, h4⟩
    have := ha.2.2 c h3
    exact ⟨h3, h4, this.1, by omega⟩
  · rintro ⟨h3, h4, _⟩
    exact ⟨h3, h4⟩
end Go.Proofs.Ythffllegmkolgaa.TreeK

namespace Go.Proofs.Ythffllegmkolgaa.TreeK
open Go.RowKit Go.Proofs.YthffllegmkolgaaW.PrintWords Go.Proofs.YthffllegmkolgaaW.PrintLast Go.Proofs.YthffllegmkolgaaW.PrintMore Go.Proofs.Ythffllegmkolgaa.QTree Go.Proofs.Ythffllegmkolgaa.EvKit Go.Proofs.Ythffllegmkolgaa.GTree
set_option linter.unusedSimpArgs false
set_option linter.unusedVariables false
def zc4 : List Value := [.string ⟨#[]⟩, .string ⟨#[]⟩, .int .i64 0, .bool false]
def zflat : Nat → List Value
  | 0 => []
  | m + 1 => zc4 ++ zflat m
theorem zflat_len : ∀ m, (zflat m).length = m * 4
  | 0 => rfl
  | m + 1 => by rw [zflat, List.length_append, zflat_len m, show zc4.length = 4 from rfl]; omega
theorem zflat_one : ∀ m, ∀ v ∈ zflat m, v.oneCell' = true
  | 0, v, hv => by cases hv
  | m + 1, v, hv => by
    rcases List.mem_append.1 hv with hv | hv
    · simp [zc4] at hv
      rcases hv with rfl | rfl | rfl | rfl <;> rfl
    · exact zflat_one m v hv
theorem setCells_app (g : Nat) : ∀ (a b : List Value) (o : Nat) (w : World), w.setCells g o (a ++ b) = (w.setCells g o a).setCells g (o + a.length) b
  | [], b, o, w => by simp [World.setCells]
  | v :: a, b, o, w => by
    simp only [List.cons_append, World.setCells, List.length_cons]
    rw [setCells_app g a b (o + 1)]
    congr 1; omega
theorem clear_row {base g cap : Nat} {P : Nat → Prop} : ∀ (m i : Nat) (W : World) (xs : List Cel), i + m = xs.length → KC.R TC W base P (.slice (some ⟨g, 0, none⟩) xs.length cap) xs → KC.R TC (W.setCells g (i * 4) (zflat m)) base P (.slice (some ⟨g, 0, none⟩) xs.length cap) (xs.take i ++ List.replicate m z48) ∧ W.grownBy (W.setCells g (i * 4) (zflat m)) (some g)
  | 0, i, W, xs, hi, h => by
    simp only [zflat, World.setCells, List.replicate_zero, List.append_nil]
    rw [List.take_of_length_le (by omega)]
    exact ⟨h, ⟨rfl, rfl, rfl, Nat.le_refl _, fun _ _ _ => rfl⟩⟩
  | m + 1, i, W, xs, hi, h => by
    obtain ⟨cO, hcO, hmO, hcO1, hcO2⟩ := Kd.R_elem h z48 ((i : Nat) : Int) (by omega) (by omega)
    have hseg := (Kd.R_seg (d := KC) h ((i : Nat) : Int) (by omega) (by omega) (seg := zc4) (j := 0) hcO hcO1 (Nat.le_refl 4) (x' := z48) (okp := fun _ => False) (by
      have e : cO.take 0 ++ zc4 ++ cO.drop (0 + zc4.length) = zc4 := by
        have : cO.drop (0 + zc4.length) = [] := List.drop_of_length_le (by rw [hcO]; exact Nat.le_refl 4)
        rw [this]; simp
      rw [e]
      exact k48_mkM _ _ _ z48) (fun _ h => h.elim))
    rw [Int.toNat_natCast, show i * KC.sz + 0 = i * 4 from rfl] at hseg
    have hl : (xs.set i z48).length = xs.length := List.length_set
    have hI := clear_row (base := base) (g := g) (cap := cap) (P := P) m (i + 1) (W.setCells g (i * 4) zc4) (xs.set i z48) (by rw [hl]; omega) (by rw [hl]; exact hseg.1)
    have hw : (W.setCells g (i * 4) zc4).setCells g ((i + 1) * 4) (zflat m) = W.setCells g (i * 4) (zflat (m + 1)) := by
      rw [zflat, setCells_app, show i * 4 + zc4.length = (i + 1) * 4 by rw [show zc4.length = 4 from rfl]; omega]
    rw [hw, hl] at hI
    have ht : (xs.set i z48).take (i + 1) ++ List.replicate m z48 = xs.take i ++ List.replicate (m + 1) z48 := by
      rw [List.take_succ_eq_append_getElem (by rw [hl]; omega), List.getElem_set_self, List.take_set_of_le (Nat.le_refl _), List.append_assoc]; rfl
    rw [ht] at hI
    refine ⟨hI.1, ?_⟩
    have h1 := hseg.2
    have h2 := hI.2
    rw [← hw] at h2 ⊢
    exact ⟨h2.os.trans h1.os, h2.tape.trans h1.tape, h2.output.trans h1.output, Nat.le_trans h1.size h2.size, fun k hk hne => (h2.block k (Nat.lt_of_lt_of_le hk h1.size) hne).trans (h1.block k hk hne)⟩
theorem clear_run {base g cap : Nat} {P : Nat → Prop} {W : World} {xs : List Cel} (h : KC.R TC W base P (.slice (some ⟨g, 0, none⟩) xs.length cap) xs) {i : Nat} (hi : i < xs.length) (c : Nat) (ty : TypeId) :
    (Builtin.clear_ #[28] ty #[.slice (some ⟨g, i * 4, none⟩) (xs.length - i) c]).run Try.prog W = .ok (.tuple #[]) (W.setCells g (i * 4) (zflat (xs.length - i))) := by
  have hz : (Builtin.zeroCells zc4.toArray (xs.length - i)).toList = zflat (xs.length - i) := by
    generalize xs.length - i = m
    apply List.ext_getElem
    · rw [zflat_len]; simp [Builtin.zeroCells, zc4]
    · intro t h1 h2
      have hf : ∀ (m t : Nat) (h : t < (zflat m).length), (zflat m)[t] = zc4.toArray[t % 4]'(by show t % 4 < 4; omega) := by
        intro m
        induction m with
        | zero => intro t h; simp [zflat] at h
        | succ m ih =>
          intro t h
          simp only [zflat]
          by_cases h4 : t < 4
          · rw [List.getElem_append_left (show t < zc4.length from h4)]
            simp only [zl4]
            congr 1; omega
          · rw [List.getElem_append_right (show zc4.length ≤ t by show 4 ≤ t; omega)]
            rw [ih]
            congr 1
            show (t - 4) % 4 = t % 4
            omega
      rw [hf]
      simp [Builtin.zeroCells]
      have hl4 : t % 4 < zc4.length := by show t % 4 < 4; omega
      show (zc4[t % 4]?).getD default = zc4[t % 4]
      rw [List.getElem?_eq_getElem hl4]
      rfl
  have hcell : ∀ t, t < (xs.length - i) * 4 → (∃ u, W.cell? ⟨g, i * 4 + t, none⟩ = some u) ∧ W.frozen? ⟨g, i * 4 + t, none⟩ = false := by
    intro t ht
    obtain ⟨cO, hcO, hmO, hcO1, hcO2⟩ := Kd.R_elem h z48 ((i + t / 4 : Nat) : Int) (by omega) (by omega)
    have e : i * 4 + t = (i + t / 4) * 4 + t % 4 := by omega
    have hl : t % 4 < cO.length := by rw [hcO]; show t % 4 < 4; omega
    have q1 := hcO1 (t % 4) _ (List.getElem?_eq_getElem hl)
    have q2 := hcO2 (t % 4)
    rw [Int.toNat_natCast, show (i + t / 4) * KC.sz + t % 4 = i * 4 + t from e.symm] at q1 q2
    exact ⟨⟨_, q1⟩, q2⟩
  have hst := run_storeCells_cells (P := Try.prog) g (i * 4) (zflat (xs.length - i)) 0 W (fun j hj => by rw [zflat_len] at hj; rw [Nat.add_zero]; exact Option.isSome_iff_exists.2 (hcell j hj).1) (fun j hj => by rw [zflat_len] at hj; rw [Nat.add_zero]; exact (hcell j hj).2) (zflat_one _)
  rw [Nat.add_zero] at hst
  have hv : ∀ w, (zeroValue 48).run Try.prog w = .ok (.agg #[.string ⟨#[]⟩, .string ⟨#[]⟩, .int .i64 0, .bool false]) w := fun w => by kernel_rfl
  obtain ⟨m, hm⟩ : ∃ m, xs.length - i = m + 1 := ⟨xs.length - i - 1, by omega⟩
  rw [hm] at hz hst ⊢
  have hc4 : (Value.agg #[.string ⟨#[]⟩, .string ⟨#[]⟩, .int .i64 0, .bool false]).cells = zc4.toArray := by rfl
  simp [Builtin.clear_, run_underlying Try.underlying28, hv, hc4, hz, hst]
structure Del (kp : Cel → Bool) (l : List Cel) (i j : Nat) (xs : List Cel) : Prop where
  len : xs.length = l.length
  lt : i < j
  num : i = ((l.take j).filter kp).length
  front : xs.take i = (l.take j).filter kp
  back : xs.drop j = l.drop j
theorem Del.start {kp : Cel → Bool} {l : List Cel} {i : Nat} (hi : i < l.length) (h1 : ∀ c ∈ l.take i, kp c = true) (h2 : kp l[i] = false) : Del kp l i (i + 1) l := by
  have e : (l.take (i + 1)).filter kp = l.take i := by
    rw [List.take_succ_eq_append_getElem hi, List.filter_append, List.filter_eq_self.2 h1, List.filter_cons, h2]; simp
  exact ⟨rfl, Nat.lt_succ_self _, by rw [e, List.length_take]; omega, e.symm, rfl⟩
theorem Del.skip {kp : Cel → Bool} {l : List Cel} {i j : Nat} {xs : List Cel} (h : Del kp l i j xs) (hj : j < l.length) (hk : kp l[j] = false) : Del kp l i (j + 1) xs := by
  have e : (l.take (j + 1)).filter kp = (l.take j).filter kp := by
    rw [List.take_succ_eq_append_getElem hj, List.filter_append, List.filter_cons, hk]; simp
  refine ⟨h.len, Nat.lt_succ_of_lt h.lt, by rw [e]; exact h.num, by rw [e]; exact h.front, ?_⟩
  rw [← List.drop_drop, h.back, List.drop_drop]
theorem Del.keep {kp : Cel → Bool} {l : List Cel} {i j : Nat} {xs : List Cel} (h : Del kp l i j xs) (hj : j < l.length) (hk : kp l[j] = true) : Del kp l (i + 1) (j + 1) (xs.set i l[j]) := by
  have hlt := h.lt
  have hlen := h.len
  have e : (l.take (j + 1)).filter kp = (l.take j).filter kp ++ [l[j]] := by
    rw [List.take_succ_eq_append_getElem hj, List.filter_append, List.filter_cons, hk]; simp
  refine ⟨by rw [List.length_set]; exact h.len, by omega, by rw [e, List.length_append, ← h.num]; rfl, ?_, ?_⟩
  · rw [e, ← h.front, List.take_succ_eq_append_getElem (by rw [List.length_set]; omega), List.getElem_set_self, List.take_set_of_le (Nat.le_refl _)]
  · rw [List.drop_set_of_lt (by omega), ← List.drop_drop, h.back, List.drop_drop]
theorem Del.done {kp : Cel → Bool} {l : List Cel} {i : Nat} {xs : List Cel} (h : Del kp l i l.length xs) : xs.take i = l.filter kp := by rw [h.front, List.take_length]
theorem Del.at_ {kp : Cel → Bool} {l : List Cel} {i j : Nat} {xs : List Cel} (h : Del kp l i j xs) (hj : j < l.length) (hx : j < xs.length) : xs[j] = l[j] := by
  have h1 : (xs.drop j)[0]? = (l.drop j)[0]? := by rw [h.back]
  rw [List.getElem?_drop, List.getElem?_drop, Nat.add_zero, List.getElem?_eq_getElem hx, List.getElem?_eq_getElem hj] at h1
  exact Option.some.inj h1
end Go.Proofs.Ythffllegmkolgaa.TreeK
