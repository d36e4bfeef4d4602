/- Joined: TreeMark, TreeMarkW. -/
import Derived.Test.YthffllegmkolgaaT10TreeSpec
import Derived.Test.YthffllegmkolgaaT10QTreex11
import Derived.Test.YthffllegmkolgaaT10QTreex12
import Derived.Test.YthffllegmkolgaaT10QTreex15
import Derived.Test.YthffllegmkolgaaT10TreeCalls
namespace Go.Proofs.Ythffllegmkolgaa.TreeK
open Go.RowKit Go.Proofs.YthffllegmkolgaaW.PrintWords Go.Proofs.YthffllegmkolgaaW.PrintLast Go.Proofs.YthffllegmkolgaaW.PrintMore Go.Proofs.Ythffllegmkolgaa.QTree Go.Proofs.Ythffllegmkolgaa.EvKit
set_option linter.unusedSimpArgs false
set_option linter.unusedVariables false
theorem size_one (n : Int) : (strOfNums [n]).size = 1 := rfl
theorem markText_l0 : ∀ (m : Nat) (n : Int) (acc : ByteArray), n.toNat ≤ m → (acc.size : Int) + m ≤ 4611686018427387904 → ∃ s, Ev (fun k => laws_markText.l0 k n acc) s := by
  intro m
  induction m with
  | zero =>
    intro n acc hn ha
    refine ⟨(⟨#[109]⟩ : ByteArray) ++ acc, Ev.step (f := fun _ => some ((⟨#[109]⟩ : ByteArray) ++ acc)) (fun k => ?_) (Ev.now _)⟩
    rw [laws_markText.l0, if_neg (by omega), if_pos (by omega)]
  | succ m ih =>
    intro n acc hn ha
    by_cases h0 : n > 0
    · obtain ⟨s, hs⟩ := ih (Int.tdiv n 10) ((strOfNums [(wrap64 (48 + (Int.tmod n 10))) % 256]) ++ acc) (by
        rw [Int.tdiv_eq_ediv_of_nonneg (by omega)]; omega) (by rw [ByteArray.size_append, size_one]; omega)
      refine ⟨s, Ev.step (fun k => ?_) hs⟩
      rw [laws_markText.l0, if_pos h0]
      simp only [Option.bind_some]
      rw [if_pos (by rw [size_one]; omega), w64 (by rw [Int.tdiv_eq_ediv_of_nonneg (by omega)]; omega) (by rw [Int.tdiv_eq_ediv_of_nonneg (by omega)]; omega)]
    · refine ⟨(⟨#[109]⟩ : ByteArray) ++ acc, Ev.step (f := fun _ => some ((⟨#[109]⟩ : ByteArray) ++ acc)) (fun k => ?_) (Ev.now _)⟩
      rw [laws_markText.l0, if_neg h0, if_pos (by omega)]
theorem markText_ev (n : Int) (h : n ≤ 10000000000000000) : ∃ s, Ev (fun k => laws_markText.f k n) s := by
  unfold laws_markText.f
  by_cases h0 : n ≤ 0
  · simp only [if_pos h0]; exact ⟨_, Ev.now _⟩
  · simp only [if_neg h0]
    exact markText_l0 n.toNat n _ (Nat.le_refl _) (by show (0 : Int) + _ ≤ _; omega)
open Classical in
noncomputable def mt (n : Int) : ByteArray := if h : ∃ s, Ev (fun k => laws_markText.f k n) s then h.choose else ⟨#[]⟩
theorem mt_ev (n : Int) (h : n ≤ 10000000000000000) : Ev (fun k => laws_markText.f k n) (mt n) := by
  have h2 := markText_ev n h
  unfold mt
  rw [dif_pos h2]
  exact h2.choose_spec
noncomputable def markC (k : Int) : Cel := ⟨mt k, mt (k + 1), k + 2, (Int.tmod (k + 3) 3 == 0)⟩
noncomputable def markL (k : Int) : Nat → List Cel
  | 0 => []
  | n + 1 => markC k :: markL (k + 4) n
theorem markL_length (n : Nat) : ∀ k, (markL k n).length = n := by
  induction n with
  | zero => intro k; rfl
  | succ n ih => intro k; simp [markL, ih]
theorem markL_snoc (n : Nat) : ∀ k, markL k (n + 1) = markL k n ++ [markC (k + 4 * n)] := by
  induction n with
  | zero => intro k; simp [markL]
  | succ n ih =>
    intro k
    rw [markL, ih (k + 4)]
    show _ = (markC k :: markL (k + 4) n) ++ _
    rw [List.cons_append, show k + 4 + 4 * (n : Int) = k + 4 * ((n + 1 : Nat) : Int) by omega]
theorem set_mid {α : Type} (a b : List α) (x y : α) (n : Nat) (h : a.length = n) : (a ++ x :: b).set n y = a ++ y :: b := by
  subst h; simp
theorem get_mid (a b : List Cel) (x : Cel) (n : Nat) (h : a.length = n) : rd_T48 (a ++ x :: b) (n : Int) = x := by
  subst h
  rw [rd48 _ _ (by simp)]
  simp
theorem mark_ev (l : List Cel) (k : Int) (hk : 0 ≤ k) (hl : k + 4 * l.length ≤ 100000000000000) : Ev (fun n => laws_markCellS.f n l k) (k + 4 * l.length, markL k l.length) := by
  suffices h : ∀ (d j : Nat), j + d = l.length → Ev (fun n => laws_markCellS.l0 n (markL k j ++ l.drop j) (k + 4 * j) (j : Int)) (k + 4 * l.length, markL k l.length) by
    have := h l.length 0 (by omega)
    show Ev (fun n => laws_markCellS.l0 n l k 0) _
    simpa [markL] using this
  intro d
  induction d with
  | zero =>
    intro j hj
    obtain rfl : j = l.length := by omega
    rw [List.drop_length, List.append_nil]
    refine Ev.step (f := fun _ => some (k + 4 * l.length, markL k l.length)) (fun n => ?_) (Ev.now _)
    rw [laws_markCellS.l0, if_neg (by rw [markL_length]; omega)]
  | succ d ih =>
    intro j hj
    have hlt : j < l.length := by omega
    have hml := markL_length j k
    have ih' := ih (j + 1) (by omega)
    rw [markL_snoc, List.append_assoc, List.singleton_append] at ih'
    rw [List.drop_eq_getElem_cons hlt]
    have w1 : wrap64 (k + 4 * (j : Int) + 1) = k + 4 * j + 1 := w64 (by omega) (by omega)
    have w2 : wrap64 (k + 4 * (j : Int) + 1 + 1) = k + 4 * j + 2 := by rw [w64 (by omega) (by omega)]; omega
    have w3 : wrap64 (k + 4 * (j : Int) + 2 + 1) = k + 4 * j + 3 := by rw [w64 (by omega) (by omega)]; omega
    have w4 : wrap64 (k + 4 * (j : Int) + 3 + 1) = k + 4 * ((j + 1 : Nat) : Int) := by rw [w64 (by omega) (by omega)]; omega
    have w5 : wrap64 ((j : Int) + 1) = ((j + 1 : Nat) : Int) := w64_succ hlt (by omega)
    refine Ev.step (f := fun n => (laws_markText.f n (k + 4 * j)).bind fun a => (laws_markText.f n (k + 4 * j + 1)).bind fun b => laws_markCellS.l0 n (markL k j ++ (⟨a, b, k + 4 * j + 2, (Int.tmod (k + 4 * j + 3) 3 == 0)⟩ : Cel) :: l.drop (j + 1)) (k + 4 * ((j + 1 : Nat) : Int)) ((j + 1 : Nat) : Int)) (fun n => ?_)
      (Ev.bind (mt_ev _ (by omega)) (Ev.bind (mt_ev _ (by omega)) ih'))
    rw [laws_markCellS.l0, if_pos (by rw [List.length_append, hml]; simp; omega)]
    simp only [Option.bind_some, Int.toNat_natCast, show (0 ≤ (j : Int)) = True from eq_true (by omega), if_true, get_mid _ _ _ j hml, set_mid _ _ _ _ j hml, w1, w2, w3, w4, w5]
noncomputable def markR (k : Int) : List Nat → List (List Cel)
  | [] => []
  | n :: ns => markL k n :: markR (k + 4 * n) ns
theorem markR_length (ns : List Nat) : ∀ k, (markR k ns).length = ns.length := by
  induction ns with
  | nil => intro k; rfl
  | cons n ns ih => intro k; simp [markR, ih]
def sumL (ns : List Nat) : Nat := ns.foldr (· + ·) 0
end Go.Proofs.Ythffllegmkolgaa.TreeK

namespace Go.Proofs.Ythffllegmkolgaa.TreeK
open Go.RowKit Go.Proofs.YthffllegmkolgaaW.PrintWords Go.Proofs.YthffllegmkolgaaW.PrintLast Go.Proofs.YthffllegmkolgaaW.PrintMore Go.Proofs.Ythffllegmkolgaa.QTree Go.Proofs.Ythffllegmkolgaa.EvKit
set_option linter.unusedSimpArgs false
set_option linter.unusedVariables false
theorem sumL_take (ns : List Nat) (j : Nat) (hj : j < ns.length) : sumL (ns.take (j + 1)) = sumL (ns.take j) + ns[j] := by
  have h : ∀ (a : List Nat) (b : Nat), sumL (a ++ [b]) = sumL a + b := by
    intro a b
    induction a with
    | nil => simp [sumL]
    | cons x xs ih =>
      show x + sumL (xs ++ [b]) = (x + sumL xs) + b
      rw [ih]; omega
  rw [List.take_succ_eq_append_getElem hj, h]
theorem sumL_le (ns : List Nat) : ∀ j, sumL (ns.take j) ≤ sumL ns := by
  induction ns with
  | nil => intro j; simp
  | cons n ns ih =>
    intro j
    cases j with
    | zero => exact Nat.zero_le _
    | succ j => show n + sumL (ns.take j) ≤ n + sumL ns; have := ih j; omega
theorem markR_snoc (ns : List Nat) : ∀ (k : Int) (c : Nat), markR k (ns ++ [c]) = markR k ns ++ [markL (k + 4 * sumL ns) c] := by
  induction ns with
  | nil => intro k c; simp [markR, sumL]
  | cons n ns ih =>
    intro k c
    show markL k n :: markR (k + 4 * n) (ns ++ [c]) = _
    rw [ih]
    have hs : sumL (n :: ns) = n + sumL ns := rfl
    show _ = (markL k n :: markR (k + 4 * n) ns) ++ _
    rw [List.cons_append, hs]
    congr 4
    omega
theorem mark_cells (P0_ : Nat → Prop) (u : Value) (l : List Cel) (k : Int) (w0 w : World) (hB : Below w0.heap.size w0 w) (ho : Kd.R k48 48 w w0.heap.size P0_ u l) (hk : 0 ≤ k) (hl : k + 4 * l.length ≤ 100000000000000) :
    Calls Try.prog 33 #[u, .int .i64 k] w fun e w' => e = .returned (.int .i64 (k + 4 * l.length)) ∧ Kd.R k48 48 w' w0.heap.size (fun k_ => (P0_ k_ ∨ w.heap.size ≤ k_)) u (markL k l.length) ∧ Below w0.heap.size w0 w' ∧ Kept w w' (fun k_ => P0_ k_) := by
  obtain ⟨n, hn⟩ := Ev.rounds (mark_ev l k hk hl)
  exact laws_markCellS.calls n P0_ u l k _ _ w0 w hB ho hn
set_option maxHeartbeats 1600000 in
set_option maxRecDepth 100000 in
theorem mark_rows (P1_ : Nat → Prop) (u : Value) (ls : List (List Cel)) (k : Int) (w0 w : World) (hB : Below w0.heap.size w0 w) (ho : Kd.S (Kd.slice 48 k48) 28 w w0.heap.size P1_ u ls) (hk : 0 ≤ k) (hl : k + 4 * sumL (ls.map List.length) ≤ 100000000000000) :
    Calls Try.prog 79 #[u, .int .i64 k] w fun e w' => e = .returned (.int .i64 (k + 4 * sumL (ls.map List.length))) ∧ Kd.S (Kd.slice 48 k48) 28 w' w0.heap.size (fun k_ => (P1_ k_ ∨ w.heap.size ≤ k_)) u (markR k (ls.map List.length)) ∧ Below w0.heap.size w0 w' ∧ Kept w w' (fun k_ => P1_ k_) := by
  obtain ⟨ns, hns⟩ : ∃ ns, ns = ls.map List.length := ⟨_, rfl⟩
  rw [← hns] at hl ⊢
  have hnl : ns.length = ls.length := by rw [hns]; simp
  have HO := zA (Kd.S_mono ho (ok' := fun k_ => (P1_ k_ ∨ w.heap.size ≤ k_)) (fun k hk => .inl hk))
  have HB := zA hB
  have HK := zA (Kept.refl w (fun k_ => P1_ k_))
  have HW := zA hB.size
  have HN := zA hns
  have hlm : ls.length ≤ 9223372036854775807 := by
    obtain ⟨A, c, rfl, _, hC⟩ := Kd.S_reads ho
    exact hC.2.1
  obtain ⟨A, cap, rfl⟩ := Kd.S_slice ho
  clear hB ho hns
  go_enter Try.func79, Try.ntmps79
  go_wp2
  go_loopg [1, 5] (ls.length + 1) (fun kq v1 v5 wr => ∃ j : Nat, (j + kq = ls.length + 1 ∧ j ≤ ls.length) ∧ v1 = .int .i64 (k + 4 * sumL (ns.take j)) ∧ v5 = .int .i64 (j : Int) ∧ Aside0 (Kd.S (Kd.slice 48 k48) 28 wr w0.heap.size (fun k_ => (P1_ k_ ∨ w.heap.size ≤ k_)) (.slice A ls.length cap) (markR k (ns.take j) ++ ls.drop j)) ∧ Aside0 (Below w0.heap.size w0 wr) ∧ Aside0 (Kept w wr (fun k_ => P1_ k_)))
  case atStart => exact ⟨0, ⟨by omega, Nat.zero_le _⟩, by simp [sumL], rfl, ⟨by simpa [markR] using HO.out⟩, ⟨HB.out⟩, ⟨HK.out⟩⟩
  case round =>
    clear HO HB HK
    obtain ⟨j, hj, rfl, rfl, HO, HB, HK⟩ := hrel
    by_cases hlt : j < ls.length
    case neg =>
      obtain rfl : j = ls.length := by omega
      have e1 : ns.take ls.length = ns := by rw [← hnl, List.take_length]
      rw [e1, List.drop_length, List.append_nil] at HO
      rw [e1]
      go_wp2
      go_ret
      exact ⟨rfl, by first | exact HO.out | exact Kd.S_drewN HO.out _, by first | exact HB.out | exact pw_below_drewN HB.out _, by first | exact HK.out | exact HK.out.drewN _⟩
    have hjn : j < ns.length := by omega
    have hml := markR_length (ns.take j) k
    rw [List.length_take, Nat.min_eq_left (by omega)] at hml
    have hxl : (markR k (ns.take j) ++ ls.drop j).length = ls.length := by rw [List.length_append, hml, List.length_drop]; omega
    obtain ⟨g, cp, hv, hg1, hg2, _⟩ := Kd.S_form HO.out (by omega)
    rw [hxl] at hv
    injection hv with hv1 _ hv3
    subst hv1 hv3
    obtain ⟨oki, c, hc, hM, hcell, hoki, hH⟩ := Kd.S_lend HO.out ([] : List Cel) (j : Int) (by omega) (by omega)
    obtain ⟨x, hx⟩ : ∃ x : List Cel, ls[j] = x := ⟨_, rfl⟩
    have hg : (markR k (ns.take j) ++ ls.drop j).getD (j : Int).toNat [] = x := by
      rw [Int.toNat_natCast, List.getD_eq_getElem?_getD, List.getElem?_append_right (by omega), hml, Nat.sub_self, List.getElem?_drop, Nat.add_zero, List.getElem?_eq_getElem hlt, hx]
      rfl
    rw [hg] at hM
    obtain ⟨vj, rfl, hR⟩ := hM
    have g0 : wr.cell? ⟨g, j, none⟩ = some vj := by have := hcell 0 vj rfl; rwa [Int.toNat_natCast, show (Kd.slice 48 k48).sz = 1 from rfl, Nat.mul_one, Nat.add_zero] at this
    have hnj : ns[j]'hjn = x.length := by simp only [HN.out]; rw [List.getElem_map, hx]
    have hs1 := sumL_take ns j hjn
    have hs2 := sumL_le ns (j + 1)
    rw [hnj] at hs1
    have hS := zA hs1
    have HC := zA (mark_cells oki vj x (k + 4 * sumL (ns.take j)) w0 wr HB.out hR (by omega) (by omega))
    have HH := zA hH
    have HI := zA hoki
    have HX := zA hx
    have HJ := zA hml
    have HJ2 := zA hnj
    clear hcell hR hs1 hs2 hg hH hoki hx hml hxl hnj hc
    go_wp2_with (go_at_call 33; refine HC.out.mono ?_; rintro e w5 ⟨rfl, hR, hb, hkp⟩; have HR := zA hR; replace HB := zA hb; have HKP := zA hkp; clear hR hb hkp g0)
    have hw : w.heap.size ≤ wr.heap.size := HK.out.1
    have HO2 : Kd.S (Kd.slice 48 k48) 28 w5 w0.heap.size (fun k_ => (P1_ k_ ∨ w.heap.size ≤ k_)) (.slice (some ⟨g, 0, none⟩) ls.length cap) (markR k (ns.take (j + 1)) ++ ls.drop (j + 1)) := by
      have h1 := Kd.H_step (Kd.H_widen HH.out) (w1 := w5) (fun q ho hn hlt => HKP.out.2 q hlt (fun h => hn (.inl h)))
      have h2 := Kd.H_back h1 (x' := markL (k + 4 * sumL (ns.take j)) x.length) (okp := fun k_ => (oki k_ ∨ wr.heap.size ≤ k_)) ⟨vj, rfl, HR.out⟩ (fun q hq => hq.elim .inl (fun h => .inr ⟨.inr (Nat.le_trans hw h), h⟩))
      have e : (markR k (ns.take j) ++ ls.drop j).set (j : Int).toNat (markL (k + 4 * sumL (ns.take j)) x.length) = markR k (ns.take (j + 1)) ++ ls.drop (j + 1) := by
        rw [Int.toNat_natCast, List.drop_eq_getElem_cons hlt, set_mid _ _ _ _ j HJ.out, List.take_succ_eq_append_getElem hjn, markR_snoc, HJ2.out, List.append_assoc, List.singleton_append]
      rwa [e] at h2
    have HK2 : Kept w w5 (fun k_ => P1_ k_) := HK.out.then_ HKP.out (fun q hq => (HI.out q hq).1)
    have HOo := zA HO2
    have HKo := zA HK2
    clear HO2 HK2
    go_roundg (ls.length - j)
    case measure => omega
    case rel => exact ⟨j + 1, ⟨by omega, by omega⟩, by rw [hS.out]; congr 1; omega, by go_num, ⟨by first | exact HOo.out | exact Kd.S_drewN HOo.out _⟩, ⟨by first | exact HB.out | exact pw_below_drewN HB.out _⟩, ⟨by first | exact HKo.out | exact HKo.out.drewN _⟩⟩
end Go.Proofs.Ythffllegmkolgaa.TreeK
