/- Marks: rows whose elements are lent, one after another; marks on rows of numbers and of texts, called. -/
import Derived.Test.YtmkhiaikfeoedaaE1Ev
import Derived.Test.YtmkhiaikfeoedaaE1WKept
import Derived.Test.YtmkhiaikfeoedaaE1WApart
import Derived.Test.YtmkhiaikfeoedaaE1QFnExactInputsOkx14
namespace Go.Proofs.Ytmkhiaikfeoedaa.MarkK
open Go.RowKit Go.Proofs.YtmkhiaikfeoedaaW.PrintWords Go.Proofs.YtmkhiaikfeoedaaW.PrintLast Go.Proofs.YtmkhiaikfeoedaaW.PrintMore Go.Proofs.Ytmkhiaikfeoedaa.QFnExactInputsOk Go.Proofs.Ytmkhiaikfeoedaa.EvKit
set_option linter.unusedSimpArgs false
set_option linter.unusedVariables false
def rows {α : Type} (e : Nat) (d : Kd α) : Kd (List α) where
  sz := 1
  E := e :: d.E
  K := (Kd.slice e d).K
  M := fun w base ok xs cs => ∃ v, cs = [v] ∧ Kd.S d e w base ok v xs
  K_len := fun h => (Kd.slice e d).K_len h
  K_one := fun h => (Kd.slice e d).K_one h
  K_below := fun hb h => (Kd.slice e d).K_below hb h
  K_of_M := by
    rintro w base ok x cs ⟨v, rfl, h⟩
    obtain ⟨A, c, rfl, hl, hr⟩ := Kd.S_reads h
    exact ⟨A, c, rfl, hl, hr⟩
  M_mono := by
    rintro w base ok ok' x cs hok ⟨v, rfl, h⟩
    exact ⟨v, rfl, Kd.S_mono h hok⟩
  M_bound := by
    rintro w base ok x cs ⟨v, rfl, h⟩
    exact ⟨v, rfl, Kd.S_bound h⟩
  M_move := by
    rintro w w1 base ok x cs hm ⟨v, rfl, h⟩
    exact ⟨v, rfl, Kd.S_move h hm⟩
  M_lower := by
    rintro w base base' ok x cs hb ⟨v, rfl, h⟩
    exact ⟨v, rfl, Kd.S_lower h hb⟩
theorem rows_C {α : Type} {d : Kd α} {e n : Nat} {w : World} {A : Option Addr} {xs : List (List α)} (h : (rows e d).C w A n xs) : (Kd.slice e d).C w A n xs := h
section
variable {α : Type} {d : Kd α} {e g n cap j : Nat} {W W1 : World} {base : Nat} {ok oki : Nat → Prop} {c : List Value} {xs : List α}
theorem H_at (h : Kd.H d e W base ok (.slice (some ⟨g, 0, none⟩) n cap) xs (j : Int) oki c) (hj : j < n) : (∀ (q : Nat) (u : Value), c[q]? = some u → W.cell? ⟨g, j * d.sz + q, none⟩ = some u) ∧ (∀ q : Nat, W.frozen? ⟨g, j * d.sz + q, none⟩ = false) := by
  obtain ⟨rows, _, hraw, _, _, hcc, _⟩ := Kd.H_raw h (Int.natCast_nonneg j) (by omega)
  obtain ⟨_, _, _, _, hfr⟩ := Kd.R_elem hraw ([] : List Value) (j : Int) (Int.natCast_nonneg j) (by omega)
  exact ⟨fun q u hu => by have := hcc q u hu; rwa [Int.toNat_natCast] at this, fun q => by have := hfr q; rwa [Int.toNat_natCast] at this⟩
theorem H_ne (h : Kd.H d e W base ok (.slice (some ⟨g, 0, none⟩) n cap) xs (j : Int) oki c) : ok g ∧ ¬ oki g := by
  obtain ⟨_, f, hR⟩ := h
  exact hR.1 g (by simp [Value.ownBlock])
theorem setCells_one (W : World) (g o : Nat) (v : Value) : W.setCells g o [v] = W.setCell ⟨g, o, none⟩ v := by
  first | rfl | simp [World.setCells]
theorem H_put (h : Kd.H d e W base ok (.slice (some ⟨g, 0, none⟩) n cap) xs (j : Int) oki c) (hj : j < n) (q : Nat) (v : Value) (hq : q < d.sz) (hv : v.oneCell' = true) {c' : List Value} (hc : c.take q ++ [v] ++ c.drop (q + 1) = c') :
    Kd.H d e (W.setCell ⟨g, j * d.sz + q, none⟩ v) base ok (.slice (some ⟨g, 0, none⟩) n cap) xs (j : Int) oki c' ∧ W.grownBy (W.setCell ⟨g, j * d.sz + q, none⟩ v) (some g) := by
  have h2 := Kd.H_seg h (Int.natCast_nonneg j) (by omega) (seg := [v]) (j := q) (show q + 1 ≤ d.sz from hq) (fun u hu => by rw [List.mem_singleton.1 hu]; exact hv)
  rw [Int.toNat_natCast, setCells_one] at h2
  rw [← hc]
  exact h2
end
def mkI (k : Int) (n : Nat) : List Int := (List.range n).map fun (i : Nat) => k + (i : Int)
theorem mkI_length (k : Int) (n : Nat) : (mkI k n).length = n := by simp [mkI]
theorem mkI_at (k : Int) {n i : Nat} (h : i < n) : rd (mkI k n) (i : Int) = k + i := by simp [rd, mkI, h]
theorem markI_ev (l : List Int) (k : Int) (hk : 0 ≤ k) (hl : k + l.length ≤ 9000000000000000000) : Ev (fun n => laws_markIntS.f n l k) (k + l.length, mkI k l.length) := by
  suffices h : ∀ (d j : Nat), j + d = l.length → Ev (fun n => laws_markIntS.l0 n (mkI k j ++ l.drop j) (k + j) (j : Int)) (k + l.length, mkI k l.length) by
    have := h l.length 0 (by omega)
    show Ev (fun n => laws_markIntS.l0 n l k 0) _
    simpa [mkI] using this
  intro d
  induction d with
  | zero =>
    intro j hj
    obtain rfl : j = l.length := by omega
    rw [List.drop_length, List.append_nil]
    refine Ev.step (f := fun _ => some (k + l.length, mkI k l.length)) (fun n => ?_) (Ev.now _)
    rw [laws_markIntS.l0, if_neg (by rw [mkI_length]; omega)]
  | succ d ih =>
    intro j hj
    have hlt : j < l.length := by omega
    have ih' := ih (j + 1) (by omega)
    refine Ev.step (fun n => ?_) ih'
    have e1 : (mkI k j ++ l.drop j).set j (k + (j : Int)) = mkI k (j + 1) ++ l.drop (j + 1) := by
      rw [List.drop_eq_getElem_cons hlt]
      have hm := mkI_length k j
      have e2 : mkI k (j + 1) = mkI k j ++ [k + (j : Int)] := by simp [mkI, List.range_succ]
      rw [e2, List.append_assoc, List.singleton_append, List.set_append_right _ _ (by omega), hm, Nat.sub_self, List.set_cons_zero]
    rw [laws_markIntS.l0, if_pos (by rw [List.length_append, mkI_length, List.length_drop]; omega), if_pos (by omega), Int.toNat_natCast, e1, w64 (i := k + (j : Int) + 1) (by omega) (by omega), w64_succ hlt (by omega)]
    congr 1
    omega
theorem heldI_ev (n : Nat) (k : Int) (hk : 0 ≤ k) (hl : k + n ≤ 9000000000000000000) : Ev (fun q => laws_heldIntS.f q (mkI k n) k) (k + n) := by
  suffices h : ∀ (d j : Nat), j + d = n → Ev (fun q => laws_heldIntS.l0 q (mkI k n) (k + j) (j : Int)) (k + n) by
    have := h n 0 (by omega)
    show Ev (fun q => laws_heldIntS.l0 q (mkI k n) k 0) _
    simpa using this
  intro d
  induction d with
  | zero =>
    intro j hj
    obtain rfl : j = n := by omega
    refine Ev.step (f := fun _ => some (k + (j : Int))) (fun q => ?_) (Ev.now _)
    rw [laws_heldIntS.l0, if_neg (by rw [mkI_length]; omega)]
  | succ d ih =>
    intro j hj
    have hlt : j < n := by omega
    refine Ev.step (fun q => ?_) (ih (j + 1) (by omega))
    rw [laws_heldIntS.l0, if_pos (by rw [mkI_length]; omega), if_pos (by omega), mkI_at k hlt, if_pos rfl, w64 (i := k + (j : Int) + 1) (by omega) (by omega), w64_succ hlt (by omega)]
    congr 1
    omega
theorem mark_ints (P0 : Nat → Prop) (u : Value) (l : List Int) (k : Int) (w0 w : World) (hB : Below w0.heap.size w0 w) (ho : Kd.R (Kd.int .i64) 3 w w0.heap.size P0 u l) (hk : 0 ≤ k) (hl : k + l.length ≤ 9000000000000000000) :
    Calls Try.prog 17 #[u, .int .i64 k] w fun e w' => e = .returned (.int .i64 (k + l.length)) ∧ Kd.R (Kd.int .i64) 3 w' w0.heap.size (fun k_ => (P0 k_ ∨ w.heap.size ≤ k_)) u (mkI k l.length) ∧ Below w0.heap.size w0 w' ∧ Kept w w' (fun k_ => P0 k_) := by
  obtain ⟨n, hn⟩ := Ev.rounds (markI_ev l k hk hl)
  exact laws_markIntS.calls n P0 u l k _ _ w0 w hB ho hn
theorem size_one (n : Int) : (strOfNums [n]).size = 1 := rfl
theorem markText_l0 : ∀ (m : Nat) (n : Int) (acc : ByteArray), n.toNat ≤ m → (acc.size : Int) + m ≤ 4611686018427387904 → ∃ s, Ev (fun k => laws_markText.l0 k n acc) s := by
  intro m
  induction m with
  | zero =>
    intro n acc hn ha
    refine ⟨(⟨#[109]⟩ : ByteArray) ++ acc, Ev.step (f := fun _ => some ((⟨#[109]⟩ : ByteArray) ++ acc)) (fun k => ?_) (Ev.now _)⟩
    rw [laws_markText.l0, if_neg (by omega), if_pos (by omega)]
  | succ m ih =>
    intro n acc hn ha
    by_cases h0 : n > 0
    · obtain ⟨s, hs⟩ := ih (Int.tdiv n 10) ((strOfNums [(wrap64 (48 + (Int.tmod n 10))) % 256]) ++ acc) (by
        rw [Int.tdiv_eq_ediv_of_nonneg (by omega)]; omega) (by rw [ByteArray.size_append, size_one]; omega)
      refine ⟨s, Ev.step (fun k => ?_) hs⟩
      rw [laws_markText.l0, if_pos h0]
      simp only [Option.bind_some]
      rw [if_pos (by rw [size_one]; omega), w64 (by rw [Int.tdiv_eq_ediv_of_nonneg (by omega)]; omega) (by rw [Int.tdiv_eq_ediv_of_nonneg (by omega)]; omega)]
    · refine ⟨(⟨#[109]⟩ : ByteArray) ++ acc, Ev.step (f := fun _ => some ((⟨#[109]⟩ : ByteArray) ++ acc)) (fun k => ?_) (Ev.now _)⟩
      rw [laws_markText.l0, if_neg h0, if_pos (by omega)]
theorem markText_ev (n : Int) (h : n ≤ 10000000000000000) : ∃ s, Ev (fun k => laws_markText.f k n) s := by
  unfold laws_markText.f
  by_cases h0 : n ≤ 0
  · simp only [if_pos h0]; exact ⟨_, Ev.now _⟩
  · simp only [if_neg h0]
    exact markText_l0 n.toNat n _ (Nat.le_refl _) (by show (0 : Int) + _ ≤ _; omega)
theorem mark_text (n : Int) (h : n ≤ 10000000000000000) (w : World) : ∃ s, Calls Try.prog 35 #[.int .i64 n] w fun e w' => e = .returned (.string s) ∧ Below w.heap.size w w' := by
  obtain ⟨s, hs⟩ := markText_ev n h
  obtain ⟨m, hm⟩ := Ev.rounds hs
  exact ⟨s, laws_markText.calls m n s w hm⟩
theorem markS_ev (l : List ByteArray) (k : Int) (hk : 0 ≤ k) (hl : k + l.length ≤ 10000000000000000) : ∃ l', l'.length = l.length ∧ Ev (fun n => laws_markStringS.f n l k) (k + l.length, l') := by
  suffices h : ∀ (d j : Nat) (l1 : List ByteArray), l1.length = l.length → j + d = l.length → ∃ l', l'.length = l.length ∧ Ev (fun n => laws_markStringS.l0 n l1 (k + j) (j : Int)) (k + l.length, l') by
    have := h l.length 0 l rfl (by omega)
    unfold laws_markStringS.f
    simpa using this
  intro d
  induction d with
  | zero =>
    intro j l1 h1 hj
    refine ⟨l1, h1, Ev.step (f := fun _ => some (k + l.length, l1)) (fun n => ?_) (Ev.now _)⟩
    rw [laws_markStringS.l0, if_neg (by omega), show j = l.length by omega]
  | succ d ih =>
    intro j l1 h1 hj
    have hlt : j < l.length := by omega
    obtain ⟨s, hs⟩ := markText_ev (k + j) (by omega)
    obtain ⟨l', hl', h'⟩ := ih (j + 1) (l1.set j s) (by rw [List.length_set]; exact h1) (by omega)
    refine ⟨l', hl', Ev.step (f := fun n => (laws_markText.f n (k + j)).bind fun t => laws_markStringS.l0 n (l1.set j t) (k + ((j + 1 : Nat) : Int)) ((j + 1 : Nat) : Int)) (fun n => ?_) (Ev.bind hs h')⟩
    rw [laws_markStringS.l0, if_pos (by omega)]
    simp only [show (0 ≤ (j : Int)) = True from eq_true (by omega), if_true]
    rw [Int.toNat_natCast, w64 (i := k + (j : Int) + 1) (by omega) (by omega), w64_succ hlt (by omega), show k + (j : Int) + 1 = k + ((j + 1 : Nat) : Int) by omega]
theorem mark_strs (P0 : Nat → Prop) (u : Value) (l : List ByteArray) (k : Int) (w0 w : World) (hB : Below w0.heap.size w0 w) (ho : Kd.R Kd.string 9 w w0.heap.size P0 u l) (hk : 0 ≤ k) (hl : k + l.length ≤ 10000000000000000) :
    Calls Try.prog 36 #[u, .int .i64 k] w fun e w' => e = .returned (.int .i64 (k + l.length)) ∧ (∃ l', l'.length = l.length ∧ Kd.R Kd.string 9 w' w0.heap.size (fun k_ => (P0 k_ ∨ w.heap.size ≤ k_)) u l') ∧ Below w0.heap.size w0 w' ∧ Kept w w' (fun k_ => P0 k_) := by
  obtain ⟨l', hl', hev⟩ := markS_ev l k hk hl
  obtain ⟨n, hn⟩ := Ev.rounds hev
  refine (laws_markStringS.calls n P0 u l k _ _ w0 w hB ho hn).mono ?_
  rintro e w' ⟨rfl, h1, h2, h3⟩
  exact ⟨rfl, ⟨l', hl', h1⟩, h2, h3⟩
end Go.Proofs.Ytmkhiaikfeoedaa.MarkK
