/- Pairs: compared, marked and held; plain Lean, and called. -/
import Derived.Test.YthffllegmkolgaaT10ScanPure
import Derived.Test.YthffllegmkolgaaT10TreeMarkW
import Derived.Test.YthffllegmkolgaaT10ChgPure
import Derived.Test.YthffllegmkolgaaT10QTreex16
import Derived.Test.YthffllegmkolgaaT10QTreex17
import Derived.Test.YthffllegmkolgaaT10QTreex18
namespace Go.Proofs.Ythffllegmkolgaa.TreeK
open Go.RowKit Go.Proofs.YthffllegmkolgaaW.PrintWords Go.Proofs.YthffllegmkolgaaW.PrintLast Go.Proofs.YthffllegmkolgaaW.PrintMore Go.Proofs.Ythffllegmkolgaa.QTree Go.Proofs.Ythffllegmkolgaa.EvKit Go.Proofs.Ythffllegmkolgaa.GTree
set_option linter.unusedSimpArgs false
set_option linter.unusedVariables false
theorem noTie_all {x : Tre} (h : trB x = true) : noTie (allC x) = true := (noTie_iff _).2 ((all_facts h).2.1.imp (fun h => (apart_iff _ _).2 (fun h2 => h h2.2)))
def scanX (x : Tre) (fr til : ByteArray) (seq : Int) : List Par := if trB x = true then scanR (allC x) fr til seq else []
theorem scanN_len (X all : List Cel) (fr til : ByteArray) (seq : Int) (j : Nat) : (scanN X all fr til seq j).length ≤ j := by
  unfold scanN
  exact Nat.le_trans (List.length_filterMap_le _ _) (by simp)
theorem scanX_len (x : Tre) (fr til : ByteArray) (seq : Int) : (scanX x fr til seq).length ≤ 400 := by
  unfold scanX
  by_cases h : trB x = true
  · rw [if_pos h]
    refine Nat.le_trans (scanN_len _ _ _ _ _ _) ?_
    rw [(srt_perm _).length_eq]
    exact (all_facts h).1
  · rw [if_neg h]; exact Nat.zero_le _
abbrev KP := k105
abbrev TP : TypeId := 105
theorem rdP (x : List Par) (j : Nat) (h : j < x.length) : rd_T105 x (j : Int) = x[j] := by simp [rd_T105, h]
theorem ev_eqP (x : List Par) (hl : x.length ≤ 9223372036854775807) : Ev (fun k => laws_eqPairS.f k x x) true := by
  unfold laws_eqPairS.f
  simp only [if_true]
  exact ev_eq (L := laws_eqPairS.l0) (E := fun k a b => laws_eqPair.f a.f0 a.f1 b.f0 b.f1) (rd := rd_T105) (fun k x y i => by rw [laws_eqPairS.l0]) rdP x (by omega) (fun a ha => by unfold laws_eqPair.f; simp only [if_true]; exact Ev.now _)
noncomputable def markP (k : Int) : Par := ⟨mt k, mt (k + 1)⟩
theorem markP_f0 (k : Int) : (markP k).f0 = mt k := rfl
theorem markP_f1 (k : Int) : (markP k).f1 = mt (k + 1) := rfl
noncomputable def markPL (k : Int) : Nat → List Par
  | 0 => []
  | n + 1 => markP k :: markPL (k + 2) n
theorem markPL_length (n : Nat) : ∀ k, (markPL k n).length = n := by
  induction n with
  | zero => intro k; rfl
  | succ n ih => intro k; simp [markPL, ih]
theorem markPL_snoc (n : Nat) : ∀ k, markPL k (n + 1) = markPL k n ++ [markP (k + 2 * n)] := by
  induction n with
  | zero => intro k; simp [markPL]
  | succ n ih =>
    intro k
    rw [markPL, ih (k + 2)]
    show _ = (markP k :: markPL (k + 2) n) ++ _
    rw [List.cons_append, show k + 2 + 2 * (n : Int) = k + 2 * ((n + 1 : Nat) : Int) by omega]
theorem get_midP (a b : List Par) (x : Par) (n : Nat) (h : a.length = n) : rd_T105 (a ++ x :: b) (n : Int) = x := by
  subst h
  rw [rdP _ _ (by simp)]
  simp
theorem markP_ev (l : List Par) (k : Int) (hk : 0 ≤ k) (hl : k + 2 * l.length ≤ 100000000000000) : Ev (fun n => laws_markPairS.f n l k) (k + 2 * l.length, markPL k l.length) := by
  suffices h : ∀ (d j : Nat), j + d = l.length → Ev (fun n => laws_markPairS.l0 n (markPL k j ++ l.drop j) (k + 2 * j) (j : Int)) (k + 2 * l.length, markPL k l.length) by
    have := h l.length 0 (by omega)
    show Ev (fun n => laws_markPairS.l0 n l k 0) _
    simpa [markPL] using this
  intro d
  induction d with
  | zero =>
    intro j hj
    obtain rfl : j = l.length := by omega
    rw [List.drop_length, List.append_nil]
    refine Ev.step (f := fun _ => some (k + 2 * l.length, markPL k l.length)) (fun n => ?_) (Ev.now _)
    rw [laws_markPairS.l0, if_neg (by rw [markPL_length]; omega)]
  | succ d ih =>
    intro j hj
    have hlt : j < l.length := by omega
    have hml := markPL_length j k
    have ih' := ih (j + 1) (by omega)
    rw [markPL_snoc, List.append_assoc, List.singleton_append] at ih'
    rw [List.drop_eq_getElem_cons hlt]
    have w1 : wrap64 (k + 2 * (j : Int) + 1) = k + 2 * j + 1 := w64 (by omega) (by omega)
    have w4 : wrap64 (k + 2 * (j : Int) + 1 + 1) = k + 2 * ((j + 1 : Nat) : Int) := by rw [w64 (by omega) (by omega)]; omega
    have w5 : wrap64 ((j : Int) + 1) = ((j + 1 : Nat) : Int) := w64_succ hlt (by omega)
    refine Ev.step (f := fun n => (laws_markText.f n (k + 2 * j)).bind fun a => (laws_markText.f n (k + 2 * j + 1)).bind fun b => laws_markPairS.l0 n (markPL k j ++ (⟨a, b⟩ : Par) :: l.drop (j + 1)) (k + 2 * ((j + 1 : Nat) : Int)) ((j + 1 : Nat) : Int)) (fun n => ?_)
      (Ev.bind (mt_ev _ (by omega)) (Ev.bind (mt_ev _ (by omega)) ih'))
    rw [laws_markPairS.l0, if_pos (by rw [List.length_append, hml]; simp; omega)]
    simp only [Option.bind_some, Int.toNat_natCast, show (0 ≤ (j : Int)) = True from eq_true (by omega), if_true, get_midP _ _ _ j hml, set_mid _ _ _ _ j hml, w1, w4, w5]
theorem heldP_ev (c : Nat) (k : Int) (hk : 0 ≤ k) (hl : k + 2 * c ≤ 100000000000000) : Ev (fun n => laws_heldPairS.f n (markPL k c) k) (k + 2 * c) := by
  have hml := markPL_length c k
  suffices h : ∀ (d j : Nat) (k' : Int), j + d = c → k' = k + 2 * j → (markPL k c).drop j = markPL k' d → Ev (fun n => laws_heldPairS.l0 n (markPL k c) k' (j : Int)) (k + 2 * c) by
    have := h c 0 k (by omega) (by omega) (by simp)
    show Ev (fun n => laws_heldPairS.l0 n (markPL k c) k 0) _
    simpa using this
  intro d
  induction d with
  | zero =>
    intro j k' hj hk' _
    refine Ev.step (f := fun _ => some k') (fun n => ?_) (by rw [hk', show j = c by omega]; exact Ev.now _)
    rw [laws_heldPairS.l0, if_neg (by rw [hml]; omega)]
  | succ d ih =>
    intro j k' hj hk' hd
    have hlt : j < (markPL k c).length := by omega
    rw [List.drop_eq_getElem_cons hlt, markPL] at hd
    injection hd with h1 h2
    have ih' := ih (j + 1) (k' + 2) (by omega) (by omega) h2
    have w1 : wrap64 (k' + 1) = k' + 1 := w64 (by omega) (by omega)
    have w4 : wrap64 (k' + 1 + 1) = k' + 2 := by rw [w64 (by omega) (by omega)]; omega
    have w5 : wrap64 ((j : Int) + 1) = ((j + 1 : Nat) : Int) := w64_succ hlt (by omega)
    have h3 : Ev (fun n => if (markP k').f1.toList = (mt (k' + 1)).toList then (laws_heldPairS.l0 n (markPL k c) (k' + 2) ((j + 1 : Nat) : Int)) else some (-1)) (k + 2 * c) := Ev.iteT (by rw [markP_f1]) ih'
    have h4 : Ev (fun n => (laws_markText.f n (k' + 1)).bind fun b => if (markP k').f1.toList = b.toList then (laws_heldPairS.l0 n (markPL k c) (k' + 2) ((j + 1 : Nat) : Int)) else some (-1)) (k + 2 * c) :=
      Ev.bind (f := fun n b => if (markP k').f1.toList = b.toList then (laws_heldPairS.l0 n (markPL k c) (k' + 2) ((j + 1 : Nat) : Int)) else some (-1)) (mt_ev (k' + 1) (by omega)) h3
    have h5 : Ev (fun n => if (markP k').f0.toList = (mt k').toList then ((laws_markText.f n (k' + 1)).bind fun b => if (markP k').f1.toList = b.toList then (laws_heldPairS.l0 n (markPL k c) (k' + 2) ((j + 1 : Nat) : Int)) else some (-1)) else some (-1)) (k + 2 * c) := Ev.iteT (by rw [markP_f0]) h4
    have h6 := Ev.bind (f := fun n a => if (markP k').f0.toList = a.toList then ((laws_markText.f n (k' + 1)).bind fun b => if (markP k').f1.toList = b.toList then (laws_heldPairS.l0 n (markPL k c) (k' + 2) ((j + 1 : Nat) : Int)) else some (-1)) else some (-1)) (mt_ev k' (by omega)) h5
    refine Ev.step (fun n => ?_) h6
    have hc1 : (j : Int) < ((markPL k c).length : Int) := Int.ofNat_lt.2 hlt
    have hc2 : 0 ≤ (j : Int) := Int.natCast_nonneg j
    rw [laws_heldPairS.l0, if_pos hc1, if_pos hc2, rdP _ _ hlt, h1]
    generalize markP k' = M
    simp only [w1, w4, w5]
theorem mark_pairs (P0_ : Nat → Prop) (u : Value) (l : List Par) (k : Int) (w0 w : World) (hB : Below w0.heap.size w0 w) (ho : KP.R TP w w0.heap.size P0_ u l) (hk : 0 ≤ k) (hl : k + 2 * l.length ≤ 100000000000000) :
    Calls Try.prog 49 #[u, .int .i64 k] w fun e w' => e = .returned (.int .i64 (k + 2 * l.length)) ∧ KP.R TP w' w0.heap.size (fun k_ => (P0_ k_ ∨ w.heap.size ≤ k_)) u (markPL k l.length) ∧ Below w0.heap.size w0 w' ∧ Kept w w' (fun k_ => P0_ k_) := by
  obtain ⟨n, hn⟩ := Ev.rounds (markP_ev l k hk hl)
  exact laws_markPairS.calls n P0_ u l k _ _ w0 w hB ho hn
theorem eq_rowP (A A' : Option Addr) (c c' : Nat) (x : List Par) (W : World) (hc : x.length ≤ c) (h : KP.C W A x.length x) (hc' : x.length ≤ c') (h' : KP.C W A' x.length x) (s : x.length ≤ 9223372036854775807) :
    Calls Try.prog 48 #[.slice A x.length c, .slice A' x.length c'] W fun e w' => e = .returned (.bool true) ∧ Below W.heap.size W w' := by
  obtain ⟨k, hk⟩ := Ev.rounds (ev_eqP x s)
  exact laws_eqPairS.calls k A c _ A' c' _ _ W h hc h' hc' hk
theorem held_rowP (n : Nat) (A : Option Addr) (c : Nat) (k : Int) (W : World) (hc : n ≤ c) (h : KP.C W A n (markPL k n)) (hk : 0 ≤ k) (hl : k + 2 * n ≤ 100000000000000) :
    Calls Try.prog 50 #[.slice A n c, .int .i64 k] W fun e w' => e = .returned (.int .i64 (k + 2 * n)) ∧ Below W.heap.size W w' := by
  obtain ⟨m, hm⟩ := Ev.rounds (heldP_ev n k hk hl)
  have l0 : (markPL k n).length = n := markPL_length _ _
  have hcall := laws_heldPairS.calls m A c (markPL k n) k _ W (by rw [l0]; exact h) (by rw [l0]; exact hc) hm
  rw [l0] at hcall
  exact hcall
theorem own_rowP {base : Nat} {W : World} {y : List Par} {f : FuncId} {args : Array Value} (hb : base ≤ W.heap.size)
    (h : Calls Try.prog f args W fun e w' => ∃ v0 : Value, e = .returned v0 ∧ KP.R TP w' W.heap.size (fun _ => True) v0 y ∧ Below W.heap.size W w') :
    Calls Try.prog f args W fun e w' => ∃ A' c', e = .returned (.slice A' y.length c') ∧ KP.R TP w' base (fun k => W.heap.size ≤ k ∧ k < w'.heap.size) (.slice A' y.length c') y ∧ Below W.heap.size W w' := by
  refine h.mono ?_
  rintro e w' ⟨v0, rfl, h0, hb'⟩
  obtain ⟨A', c', rfl⟩ := Kd.R_slice h0
  exact ⟨A', c', rfl, Kd.R_lower (Kd.R_mono (Kd.R_bound h0) (fun k h => ⟨h.2.1, h.2.2.1⟩)) hb, hb'⟩
end Go.Proofs.Ythffllegmkolgaa.TreeK
