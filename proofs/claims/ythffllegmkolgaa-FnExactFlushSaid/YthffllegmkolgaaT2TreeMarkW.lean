/- Marks laid on a tree's rows in memory, called. -/
import Derived.Test.YthffllegmkolgaaT2TreeMark
import Derived.Test.YthffllegmkolgaaT2TreeCalls
namespace Go.Proofs.Ythffllegmkolgaa.TreeK
open Go.RowKit Go.Proofs.YthffllegmkolgaaW.PrintWords Go.Proofs.YthffllegmkolgaaW.PrintLast Go.Proofs.YthffllegmkolgaaW.PrintMore Go.Proofs.Ythffllegmkolgaa.QTree Go.Proofs.Ythffllegmkolgaa.EvKit
set_option linter.unusedSimpArgs false
set_option linter.unusedVariables false
theorem sumL_take (ns : List Nat) (j : Nat) (hj : j < ns.length) : sumL (ns.take (j + 1)) = sumL (ns.take j) + ns[j] := by
  have h : ∀ (a : List Nat) (b : Nat), sumL (a ++ [b]) = sumL a + b := by
    intro a b
    induction a with
    | nil => simp [sumL]
    | cons x xs ih =>
      show x + sumL (xs ++ [b]) = (x + sumL xs) + b
      rw [ih]; omega
  rw [List.take_succ_eq_append_getElem hj, h]
theorem sumL_le (ns : List Nat) : ∀ j, sumL (ns.take j) ≤ sumL ns := by
  induction ns with
  | nil => intro j; simp
  | cons n ns ih =>
    intro j
    cases j with
    | zero => exact Nat.zero_le _
    | succ j => show n + sumL (ns.take j) ≤ n + sumL ns; have := ih j; omega
theorem markR_snoc (ns : List Nat) : ∀ (k : Int) (c : Nat), markR k (ns ++ [c]) = markR k ns ++ [markL (k + 4 * sumL ns) c] := by
  induction ns with
  | nil => intro k c; simp [markR, sumL]
  | cons n ns ih =>
    intro k c
    show markL k n :: markR (k + 4 * n) (ns ++ [c]) = _
    rw [ih]
    have hs : sumL (n :: ns) = n + sumL ns := rfl
    show _ = (markL k n :: markR (k + 4 * n) ns) ++ _
    rw [List.cons_append, hs]
    congr 4
    omega
theorem mark_cells (P0_ : Nat → Prop) (u : Value) (l : List Cel) (k : Int) (w0 w : World) (hB : Below w0.heap.size w0 w) (ho : Kd.R k48 48 w w0.heap.size P0_ u l) (hk : 0 ≤ k) (hl : k + 4 * l.length ≤ 100000000000000) :
    Calls Try.prog 33 #[u, .int .i64 k] w fun e w' => e = .returned (.int .i64 (k + 4 * l.length)) ∧ Kd.R k48 48 w' w0.heap.size (fun k_ => (P0_ k_ ∨ w.heap.size ≤ k_)) u (markL k l.length) ∧ Below w0.heap.size w0 w' ∧ Kept w w' (fun k_ => P0_ k_) := by
  obtain ⟨n, hn⟩ := Ev.rounds (mark_ev l k hk hl)
  exact laws_markCellS.calls n P0_ u l k _ _ w0 w hB ho hn
set_option maxHeartbeats 1600000 in
set_option maxRecDepth 100000 in
theorem mark_rows (P1_ : Nat → Prop) (u : Value) (ls : List (List Cel)) (k : Int) (w0 w : World) (hB : Below w0.heap.size w0 w) (ho : Kd.S (Kd.slice 48 k48) 28 w w0.heap.size P1_ u ls) (hk : 0 ≤ k) (hl : k + 4 * sumL (ls.map List.length) ≤ 100000000000000) :
    Calls Try.prog 79 #[u, .int .i64 k] w fun e w' => e = .returned (.int .i64 (k + 4 * sumL (ls.map List.length))) ∧ Kd.S (Kd.slice 48 k48) 28 w' w0.heap.size (fun k_ => (P1_ k_ ∨ w.heap.size ≤ k_)) u (markR k (ls.map List.length)) ∧ Below w0.heap.size w0 w' ∧ Kept w w' (fun k_ => P1_ k_) := by
  obtain ⟨ns, hns⟩ : ∃ ns, ns = ls.map List.length := ⟨_, rfl⟩
  rw [← hns] at hl ⊢
  have hnl : ns.length = ls.length := by rw [hns]; simp
  have HO := Aside0.mk (Kd.S_mono ho (ok' := fun k_ => (P1_ k_ ∨ w.heap.size ≤ k_)) (fun k hk => .inl hk))
  have HB := Aside0.mk hB
  have HK := Aside0.mk (Kept.refl w (fun k_ => P1_ k_))
  have HW := Aside0.mk hB.size
  have HN := Aside0.mk hns
  have hlm : ls.length ≤ 9223372036854775807 := by
    obtain ⟨A, c, rfl, _, hC⟩ := Kd.S_reads ho
    exact hC.2.1
  obtain ⟨A, cap, rfl⟩ := Kd.S_slice ho
  clear hB ho hns
  go_enter Try.func79, Try.ntmps79
  go_wp2
  go_loopg [1, 5] (ls.length + 1) (fun kq v1 v5 wr => ∃ j : Nat, (j + kq = ls.length + 1 ∧ j ≤ ls.length) ∧ v1 = .int .i64 (k + 4 * sumL (ns.take j)) ∧ v5 = .int .i64 (j : Int) ∧ Aside0 (Kd.S (Kd.slice 48 k48) 28 wr w0.heap.size (fun k_ => (P1_ k_ ∨ w.heap.size ≤ k_)) (.slice A ls.length cap) (markR k (ns.take j) ++ ls.drop j)) ∧ Aside0 (Below w0.heap.size w0 wr) ∧ Aside0 (Kept w wr (fun k_ => P1_ k_)))
  case atStart => exact ⟨0, ⟨by omega, Nat.zero_le _⟩, by simp [sumL], rfl, ⟨by simpa [markR] using HO.out⟩, ⟨HB.out⟩, ⟨HK.out⟩⟩
  case round =>
    clear HO HB HK
    obtain ⟨j, hj, rfl, rfl, HO, HB, HK⟩ := hrel
    by_cases hlt : j < ls.length
    case neg =>
      obtain rfl : j = ls.length := by omega
      have e1 : ns.take ls.length = ns := by rw [← hnl, List.take_length]
      rw [e1, List.drop_length, List.append_nil] at HO
      rw [e1]
      go_wp2
      go_ret
      exact ⟨rfl, by first | exact HO.out | exact Kd.S_drewN HO.out _, by first | exact HB.out | exact pw_below_drewN HB.out _, by first | exact HK.out | exact HK.out.drewN _⟩
    have hjn : j < ns.length := by omega
    have hml := markR_length (ns.take j) k
    rw [List.length_take, Nat.min_eq_left (by omega)] at hml
    have hxl : (markR k (ns.take j) ++ ls.drop j).length = ls.length := by rw [List.length_append, hml, List.length_drop]; omega
    obtain ⟨g, cp, hv, hg1, hg2, _⟩ := Kd.S_form HO.out (by omega)
    rw [hxl] at hv
    injection hv with hv1 _ hv3
    subst hv1 hv3
    obtain ⟨oki, c, hc, hM, hcell, hoki, hH⟩ := Kd.S_lend HO.out ([] : List Cel) (j : Int) (by omega) (by omega)
    obtain ⟨x, hx⟩ : ∃ x : List Cel, ls[j] = x := ⟨_, rfl⟩
    have hg : (markR k (ns.take j) ++ ls.drop j).getD (j : Int).toNat [] = x := by
      rw [Int.toNat_natCast, List.getD_eq_getElem?_getD, List.getElem?_append_right (by omega), hml, Nat.sub_self, List.getElem?_drop, Nat.add_zero, List.getElem?_eq_getElem hlt, hx]
      rfl
    rw [hg] at hM
    obtain ⟨vj, rfl, hR⟩ := hM
    have g0 : wr.cell? ⟨g, j, none⟩ = some vj := by have := hcell 0 vj rfl; rwa [Int.toNat_natCast, show (Kd.slice 48 k48).sz = 1 from rfl, Nat.mul_one, Nat.add_zero] at this
    have hnj : ns[j]'hjn = x.length := by simp only [HN.out]; rw [List.getElem_map, hx]
    have hs1 := sumL_take ns j hjn
    have hs2 := sumL_le ns (j + 1)
    rw [hnj] at hs1
    have hS := Aside0.mk hs1
    have HC := Aside0.mk (mark_cells oki vj x (k + 4 * sumL (ns.take j)) w0 wr HB.out hR (by omega) (by omega))
    have HH := Aside0.mk hH
    have HI := Aside0.mk hoki
    have HX := Aside0.mk hx
    have HJ := Aside0.mk hml
    have HJ2 := Aside0.mk hnj
    clear hcell hR hs1 hs2 hg hH hoki hx hml hxl hnj hc
    go_wp2_with (go_at_call 33; refine HC.out.mono ?_; rintro e w5 ⟨rfl, hR, hb, hkp⟩; have HR := Aside0.mk hR; replace HB := Aside0.mk hb; have HKP := Aside0.mk hkp; clear hR hb hkp g0)
    have hw : w.heap.size ≤ wr.heap.size := HK.out.1
    have HO2 : Kd.S (Kd.slice 48 k48) 28 w5 w0.heap.size (fun k_ => (P1_ k_ ∨ w.heap.size ≤ k_)) (.slice (some ⟨g, 0, none⟩) ls.length cap) (markR k (ns.take (j + 1)) ++ ls.drop (j + 1)) := by
      have h1 := Kd.H_step (Kd.H_widen HH.out) (w1 := w5) (fun q ho hn hlt => HKP.out.2 q hlt (fun h => hn (.inl h)))
      have h2 := Kd.H_back h1 (x' := markL (k + 4 * sumL (ns.take j)) x.length) (okp := fun k_ => (oki k_ ∨ wr.heap.size ≤ k_)) ⟨vj, rfl, HR.out⟩ (fun q hq => hq.elim .inl (fun h => .inr ⟨.inr (Nat.le_trans hw h), h⟩))
      have e : (markR k (ns.take j) ++ ls.drop j).set (j : Int).toNat (markL (k + 4 * sumL (ns.take j)) x.length) = markR k (ns.take (j + 1)) ++ ls.drop (j + 1) := by
        rw [Int.toNat_natCast, List.drop_eq_getElem_cons hlt, set_mid _ _ _ _ j HJ.out, List.take_succ_eq_append_getElem hjn, markR_snoc, HJ2.out, List.append_assoc, List.singleton_append]
      rwa [e] at h2
    have HK2 : Kept w w5 (fun k_ => P1_ k_) := HK.out.then_ HKP.out (fun q hq => (HI.out q hq).1)
    have HOo := Aside0.mk HO2
    have HKo := Aside0.mk HK2
    clear HO2 HK2
    go_roundg (ls.length - j)
    case measure => omega
    case rel => exact ⟨j + 1, ⟨by omega, by omega⟩, by rw [hS.out]; congr 1; omega, by go_num, ⟨by first | exact HOo.out | exact Kd.S_drewN HOo.out _⟩, ⟨by first | exact HB.out | exact pw_below_drewN HB.out _⟩, ⟨by first | exact HKo.out | exact HKo.out.drewN _⟩⟩
end Go.Proofs.Ythffllegmkolgaa.TreeK
