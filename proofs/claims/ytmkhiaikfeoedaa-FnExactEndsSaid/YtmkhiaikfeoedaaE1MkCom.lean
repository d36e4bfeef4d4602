/- Marks laid on comings in memory, called; and held. -/
import Derived.Test.YtmkhiaikfeoedaaE1MkSrc
import Derived.Test.YtmkhiaikfeoedaaE1QFnExactInputsOkx15
namespace Go.Proofs.Ytmkhiaikfeoedaa.MarkK
open Go.RowKit Go.Proofs.YtmkhiaikfeoedaaW.PrintWords Go.Proofs.YtmkhiaikfeoedaaW.PrintLast Go.Proofs.YtmkhiaikfeoedaaW.PrintMore Go.Proofs.Ytmkhiaikfeoedaa.QFnExactInputsOk Go.Proofs.Ytmkhiaikfeoedaa.EvKit
set_option linter.unusedSimpArgs false
set_option linter.unusedVariables false
abbrev KC := k56
abbrev TC : TypeId := 56
abbrev MCom := S56
abbrev zC : MCom := z56
theorem rdC (x : List MCom) (j : Nat) (h : j < x.length) : rd_T56 x (j : Int) = x[j] := by simp [rd_T56, h]
def rowN (c : MCom) : Nat := c.f1.f1.length
def mkC (k : Int) (n : Nat) : MCom := ⟨k, ⟨k + 1, mkI (k + 2) n, ((k + 2 + (n : Int)).tmod 3 == 0)⟩, k + 3 + (n : Int)⟩
def mkCL (k : Int) : List Nat → List MCom
  | [] => []
  | n :: ns => mkC k n :: mkCL (k + (n + 4 : Nat)) ns
def wtC : List Nat → Nat
  | [] => 0
  | n :: ns => (n + 4) + wtC ns
theorem mkCL_length (ns : List Nat) : ∀ k, (mkCL k ns).length = ns.length := by
  induction ns with
  | nil => intro k; rfl
  | cons n ns ih => intro k; simp [mkCL, ih]
theorem mkCL_snoc (ns : List Nat) : ∀ (k : Int) (n : Nat), mkCL k (ns ++ [n]) = mkCL k ns ++ [mkC (k + wtC ns) n] := by
  induction ns with
  | nil => intro k n; simp [mkCL, wtC]
  | cons m ns ih =>
    intro k n
    show mkC k m :: mkCL (k + (m + 4 : Nat)) (ns ++ [n]) = mkC k m :: (mkCL (k + (m + 4 : Nat)) ns ++ [mkC (k + ((m + 4) + wtC ns : Nat)) n])
    rw [ih]
    congr 4
    omega
theorem wtC_step (ns : List Nat) : ∀ (j : Nat) (h : j < ns.length), wtC (ns.take (j + 1)) = wtC (ns.take j) + (ns[j] + 4) := by
  induction ns with
  | nil => intro j h; simp at h
  | cons m ns ih =>
    intro j h
    cases j with
    | zero => simp [wtC]
    | succ j =>
      have h' : j < ns.length := by simpa using h
      show (m + 4) + wtC (ns.take (j + 1)) = (m + 4) + wtC (ns.take j) + (ns[j] + 4)
      rw [ih j h']; omega
theorem wtC_split (ns : List Nat) : ∀ j, wtC ns = wtC (ns.take j) + wtC (ns.drop j) := by
  induction ns with
  | nil => intro j; simp [wtC]
  | cons a l ih =>
    intro j
    cases j with
    | zero => simp [wtC]
    | succ j => show (a + 4) + wtC l = (a + 4) + wtC (l.take j) + wtC (l.drop j); rw [ih j]; omega
theorem wtC_le (ns : List Nat) (j : Nat) : wtC (ns.take j) ≤ wtC ns := by rw [wtC_split ns j]; omega
theorem set_mid {α : Type} (a b : List α) (x y : α) (n : Nat) (h : a.length = n) : (a ++ x :: b).set n y = a ++ y :: b := by
  subst h; simp
theorem heldC_ev (ns : List Nat) (k : Int) (hk : 0 ≤ k) (hl : k + wtC ns ≤ 8000000000000000000) : Ev (fun n => laws_heldComingS.f n (mkCL k ns) k) (k + wtC ns) := by
  have hml := mkCL_length ns k
  have hns : ∀ ms : List Nat, ms.length ≤ wtC ms := by
    intro ms
    induction ms with
    | nil => exact Nat.zero_le _
    | cons a l ih => show l.length + 1 ≤ (a + 4) + wtC l; omega
  have hnl := hns ns
  suffices h : ∀ (d : List Nat) (j : Nat) (k' : Int), j + d.length = ns.length → k' + wtC d = k + wtC ns → 0 ≤ k' → (mkCL k ns).drop j = mkCL k' d → Ev (fun n => laws_heldComingS.l0 n (mkCL k ns) k' (j : Int)) (k + wtC ns) by
    have := h ns 0 k (by omega) rfl hk (by simp)
    show Ev (fun n => laws_heldComingS.l0 n (mkCL k ns) k 0) _
    simpa using this
  intro d
  induction d with
  | nil =>
    intro j k' hj hk' h0 _
    have e : k' = k + wtC ns := by have : wtC [] = 0 := rfl; omega
    refine Ev.step (f := fun _ => some k') (fun n => ?_) (by rw [e]; exact Ev.now _)
    rw [laws_heldComingS.l0, if_neg (by rw [hml]; simp at hj; omega)]
  | cons c d ih =>
    intro j k' hj hk' h0 hd
    have hs : wtC (c :: d) = (c + 4) + wtC d := rfl
    have hlt : j < (mkCL k ns).length := by rw [hml]; simp at hj; omega
    rw [List.drop_eq_getElem_cons hlt, mkCL] at hd
    injection hd with h1 h2
    have ih' := ih (j + 1) (k' + (c + 4 : Nat)) (by simp at hj; omega) (by omega) (by omega) h2
    have hc1 : (j : Int) < ((mkCL k ns).length : Int) := Int.ofNat_lt.2 hlt
    have hc2 : 0 ≤ (j : Int) := Int.natCast_nonneg j
    have hev := heldI_ev c (k' + 2) (by omega) (by omega)
    have hn0 : ¬ (k' + 2 + (c : Int) < 0) := by omega
    have w1 : wrap64 (k' + 1) = k' + 1 := w64 (by omega) (by omega)
    have w2 : wrap64 (k' + 1 + 1) = k' + 2 := by rw [w64 (by omega) (by omega)]; omega
    have w3 : wrap64 (k' + 2 + (c : Int) + 1) = k' + 3 + (c : Int) := by rw [w64 (by omega) (by omega)]; omega
    have w4 : wrap64 (k' + 3 + (c : Int) + 1) = k' + (c + 4 : Nat) := by rw [w64 (by omega) (by omega)]; omega
    have w5 : wrap64 ((j : Int) + 1) = ((j + 1 : Nat) : Int) := w64_succ hlt (by rw [hml]; omega)
    refine Ev.step (f := fun n => (laws_heldIntS.f n (mkI (k' + 2) c) (k' + 2)).bind fun t => if t < 0 then some (-1) else if (((k' + 2 + (c : Int)).tmod 3 == 0) != (Int.tmod t 3 == 0)) = true then some (-1) else if k' + 3 + (c : Int) = wrap64 (t + 1) then laws_heldComingS.l0 n (mkCL k ns) (wrap64 (wrap64 (t + 1) + 1)) ((j + 1 : Nat) : Int) else some (-1)) (fun n => ?_)
      (Ev.bind hev (Ev.iteF hn0 (Ev.iteF (by simp) (Ev.iteT w3.symm (by rw [w3, w4]; exact ih')))))
    rw [laws_heldComingS.l0, if_pos hc1, if_pos hc2, rdC _ _ hlt, h1]
    have g0 : (mkC k' c).f0 = k' := rfl
    have g1 : (mkC k' c).f1.f0 = k' + 1 := rfl
    have g2 : (mkC k' c).f1.f1 = mkI (k' + 2) c := rfl
    have g3 : (mkC k' c).f1.f2 = ((k' + 2 + (c : Int)).tmod 3 == 0) := rfl
    have g4 : (mkC k' c).f2 = k' + 3 + (c : Int) := rfl
    generalize mkC k' c = M at g0 g1 g2 g3 g4 ⊢
    rw [g0, g1, g2, g3, g4, if_pos rfl, w1, if_pos rfl, w2, w5]
theorem held_coms (ns : List Nat) (A : Option Addr) (c : Nat) (k : Int) (W : World) (hc : ns.length ≤ c) (h : KC.C W A ns.length (mkCL k ns)) (hk : 0 ≤ k) (hl : k + wtC ns ≤ 8000000000000000000) :
    Calls Try.prog 19 #[.slice A ns.length c, .int .i64 k] W fun e w' => e = .returned (.int .i64 (k + wtC ns)) ∧ Drawn0 W w' := by
  obtain ⟨m, hm⟩ := Ev.rounds (heldC_ev ns k hk hl)
  have l0 : (mkCL k ns).length = ns.length := mkCL_length _ _
  have hcall := laws_heldComingS.calls m A c (mkCL k ns) k _ W (by rw [l0]; exact h) (by rw [l0]; exact hc) hm
  rw [l0] at hcall
  exact hcall
set_option maxHeartbeats 1600000 in
set_option maxRecDepth 100000 in
theorem mark_coms (P1_ : Nat → Prop) (u : Value) (l : List MCom) (k : Int) (w0 w : World) (hB : Below w0.heap.size w0 w) (ho : Kd.S KC TC w w0.heap.size P1_ u l) (hk : 0 ≤ k) (hl : k + wtC (l.map rowN) ≤ 8000000000000000000) :
    Calls Try.prog 18 #[u, .int .i64 k] w fun e w' => e = .returned (.int .i64 (k + wtC (l.map rowN))) ∧ Kd.S KC TC w' w0.heap.size (fun k_ => (P1_ k_ ∨ w.heap.size ≤ k_)) u (mkCL k (l.map rowN)) ∧ Below w0.heap.size w0 w' ∧ Kept w w' (fun k_ => P1_ k_) := by
  obtain ⟨ns, hns⟩ : ∃ ns, ns = l.map rowN := ⟨_, rfl⟩
  rw [← hns] at hl ⊢
  have hnl : ns.length = l.length := by rw [hns]; simp
  have HO := Aside0.mk (Kd.S_mono ho (ok' := fun k_ => (P1_ k_ ∨ w.heap.size ≤ k_)) (fun k hk => .inl hk))
  have HB := Aside0.mk hB
  have HK := Aside0.mk (Kept.refl w (fun k_ => P1_ k_))
  have HW := Aside0.mk hB.size
  have HL := Aside0.mk hl
  have HK0 := Aside0.mk hk
  have HN := Aside0.mk hns
  have HNL := Aside0.mk hnl
  have hlm : l.length ≤ 9223372036854775807 := by
    obtain ⟨A, c, rfl, _, hC⟩ := Kd.S_reads ho
    exact hC.2.1
  obtain ⟨A, cap, rfl⟩ := Kd.S_slice ho
  clear hB ho hl hk hns hnl
  go_enter Try.func18, Try.ntmps18
  go_wp2
  go_loopg [1, 5] (l.length + 1) (fun kq v1 v5 wr => ∃ j : Nat, (j + kq = l.length + 1 ∧ j ≤ l.length) ∧ v1 = .int .i64 (k + wtC (ns.take j)) ∧ v5 = .int .i64 (j : Int) ∧ Aside0 (Kd.S KC TC wr w0.heap.size (fun k_ => (P1_ k_ ∨ w.heap.size ≤ k_)) (.slice A l.length cap) (mkCL k (ns.take j) ++ l.drop j)) ∧ Aside0 (Below w0.heap.size w0 wr) ∧ Aside0 (Kept w wr (fun k_ => P1_ k_)))
  case atStart => exact ⟨0, ⟨by omega, Nat.zero_le _⟩, by simp [wtC], rfl, ⟨by simpa [mkCL] using HO.out⟩, ⟨HB.out⟩, ⟨HK.out⟩⟩
  case round =>
    clear HO HB HK
    obtain ⟨j, hj, rfl, rfl, HO, HB, HK⟩ := hrel
    by_cases hlt : j < l.length
    case neg =>
      obtain rfl : j = l.length := by omega
      have e1 : ns.take l.length = ns := by rw [← HNL.out, List.take_length]
      rw [e1, List.drop_length, List.append_nil] at HO
      rw [e1]
      go_wp2
      go_ret
      exact ⟨rfl, by first | exact HO.out | exact Kd.S_drewN HO.out _, by first | exact HB.out | exact pw_below_drewN HB.out _, by first | exact HK.out | exact HK.out.drewN _⟩
    have hjn : j < ns.length := by rw [HNL.out]; exact hlt
    have hml := mkCL_length (ns.take j) k
    rw [List.length_take, Nat.min_eq_left (by omega)] at hml
    have hxl : (mkCL k (ns.take j) ++ l.drop j).length = l.length := by rw [List.length_append, hml, List.length_drop]; omega
    obtain ⟨g, cp, hv, hg1, hg2, _⟩ := Kd.S_form HO.out (by omega)
    rw [hxl] at hv
    injection hv with hv1 _ hv3
    subst hv1 hv3
    obtain ⟨oki, c, _, hM, hoki, hH⟩ : ∃ (oki : Nat → Prop) (c : List Value), c.length = KC.sz ∧ KC.M wr w0.heap.size oki ((mkCL k (ns.take j) ++ l.drop j).getD j zC) c ∧ (∀ k, oki k → (P1_ k ∨ w.heap.size ≤ k) ∧ k ≠ g) ∧ Kd.H KC TC wr w0.heap.size (fun k_ => (P1_ k_ ∨ w.heap.size ≤ k_)) (.slice (some ⟨g, 0, none⟩) l.length cap) (mkCL k (ns.take j) ++ l.drop j) (j : Int) oki c := by
      obtain ⟨oki, c, h1, h2, _, h4, h5⟩ := Kd.S_lend HO.out zC (j : Int) (by omega) (by omega)
      exact ⟨oki, c, h1, h2, h4, h5⟩
    obtain ⟨x, hx⟩ : ∃ x : MCom, l[j] = x := ⟨_, rfl⟩
    have hgd : (mkCL k (ns.take j) ++ l.drop j).getD j zC = x := by
      rw [List.getD_eq_getElem?_getD, List.getElem?_append_right (by omega), hml, Nat.sub_self, List.getElem?_drop, Nat.add_zero, List.getElem?_eq_getElem hlt, hx]
      rfl
    rw [hgd] at hM
    obtain ⟨vr, rfl, hR⟩ := k56_openM hM
    have hnj : ns[j]'hjn = x.f1.f1.length := by simp only [HN.out]; rw [List.getElem_map, hx]; rfl
    have hst := wtC_step ns j hjn
    have hle := wtC_le ns (j + 1)
    rw [hnj] at hst
    obtain ⟨K, hK⟩ : ∃ K, K = k + (wtC (ns.take j) : Int) := ⟨_, rfl⟩
    have hKb : 0 ≤ K ∧ K + (x.f1.f1.length + 4 : Nat) ≤ 8000000000000000000 ∧ k + (wtC (ns.take (j + 1)) : Int) = K + (x.f1.f1.length + 4 : Nat) := by
      have h1 := HL.out; have h2 := HK0.out; omega
    have hset : ∀ y, y = mkC K x.f1.f1.length → (mkCL k (ns.take j) ++ l.drop j).set j y = mkCL k (ns.take (j + 1)) ++ l.drop (j + 1) := by
      intro y hy
      rw [hy, List.drop_eq_getElem_cons hlt, set_mid _ _ _ _ j hml, List.take_succ_eq_append_getElem hjn, mkCL_snoc, hnj, ← hK, List.append_assoc, List.singleton_append]
    rw [← hK]
    have HSET := Aside0.mk hset
    have HKB := Aside0.mk hKb
    have HNE := Aside0.mk (H_ne hH)
    have HI := Aside0.mk hoki
    have HH := Aside0.mk hH
    have HR := Aside0.mk hR
    obtain ⟨xs, hxs⟩ : ∃ xs, xs = mkCL k (ns.take j) ++ l.drop j := ⟨_, rfl⟩
    rw [← hxs] at HH HSET
    have hc0 : wr.cell? ⟨g, j * 5, none⟩ = some (.int .i64 x.f0) := (H_at HH.out hlt).1 0 _ rfl
    have hf0 : wr.frozen? ⟨g, j * 5, none⟩ = false := (H_at HH.out hlt).2 0
    have w1 : wrap64 (K + 1) = K + 1 := w64 (by omega) (by omega)
    have w2 : wrap64 (K + 1 + 1) = K + 2 := by rw [w64 (by omega) (by omega)]; omega
    clear hoki hM hgd hst hle hK hx hH hR hKb HO hset hxs hnj hml hxl
    go_upto_region 6 with (fail)
    clear hc0 hf0
    have hp : Kd.H KC TC (wr.setCell ⟨g, j * 5, none⟩ (.int .i64 K)) w0.heap.size (fun k_ => (P1_ k_ ∨ w.heap.size ≤ k_)) (.slice (some ⟨g, 0, none⟩) l.length cap) xs (j : Int) oki [.int .i64 K, .int .i64 x.f1.f0, vr, .bool x.f1.f2, .int .i64 x.f2] ∧ wr.grownBy (wr.setCell ⟨g, j * 5, none⟩ (.int .i64 K)) (some g) := H_put HH.out hlt 0 (.int .i64 K) (by decide) rfl rfl
    replace HR := Aside0.mk (Kd.R_grown HR.out hp.2 (fun q hq e => by injection e with e; exact (HI.out q hq).2 e))
    replace HH := Aside0.mk hp.1
    replace HB := Aside0.mk (HB.out.grown hp.2 HB.out.size (fun q e => by injection e with e; exact e ▸ hg1))
    replace HK := Aside0.mk (HK.out.of_grown hp.2 (fun q e => by injection e with e; exact e ▸ HNE.out.1))
    replace hg2 := Nat.lt_of_lt_of_le hg2 hp.2.size
    clear hp
    generalize wr.setCell ⟨g, j * 5, none⟩ (.int .i64 K) = W1 at HH HB HK HR hg2 ⊢
    have hc0 : W1.cell? ⟨g, j * 5 + 1, none⟩ = some (.int .i64 x.f1.f0) := (H_at HH.out hlt).1 1 _ rfl
    have hf0 : W1.frozen? ⟨g, j * 5 + 1, none⟩ = false := (H_at HH.out hlt).2 1
    simp only [w1]
    go_upto_region 8 with (fail)
    clear hc0 hf0
    have hp : Kd.H KC TC (W1.setCell ⟨g, j * 5 + 1, none⟩ (.int .i64 (K + 1))) w0.heap.size (fun k_ => (P1_ k_ ∨ w.heap.size ≤ k_)) (.slice (some ⟨g, 0, none⟩) l.length cap) xs (j : Int) oki [.int .i64 K, .int .i64 (K + 1), vr, .bool x.f1.f2, .int .i64 x.f2] ∧ W1.grownBy (W1.setCell ⟨g, j * 5 + 1, none⟩ (.int .i64 (K + 1))) (some g) := H_put HH.out hlt 1 (.int .i64 (K + 1)) (by decide) rfl rfl
    replace HR := Aside0.mk (Kd.R_grown HR.out hp.2 (fun q hq e => by injection e with e; exact (HI.out q hq).2 e))
    replace HH := Aside0.mk hp.1
    replace HB := Aside0.mk (HB.out.grown hp.2 HB.out.size (fun q e => by injection e with e; exact e ▸ hg1))
    replace HK := Aside0.mk (HK.out.of_grown hp.2 (fun q e => by injection e with e; exact e ▸ HNE.out.1))
    replace hg2 := Nat.lt_of_lt_of_le hg2 hp.2.size
    clear hp
    generalize W1.setCell ⟨g, j * 5 + 1, none⟩ (.int .i64 (K + 1)) = W2 at HH HB HK HR hg2 ⊢
    have hc2 : W2.cell? ⟨g, j * 5 + 2, none⟩ = some vr := (H_at HH.out hlt).1 2 _ rfl
    simp only [w2]
    obtain ⟨N, hN⟩ : ∃ N : Int, N = K + 2 + (x.f1.f1.length : Int) := ⟨_, rfl⟩
    have hkz : 0 ≤ K + 2 ∧ K + 2 + (x.f1.f1.length : Int) ≤ 9000000000000000000 := by have := HKB.out; omega
    have hC := mark_ints oki vr x.f1.f1 (K + 2) w0 W2 HB.out HR.out hkz.1 hkz.2
    rw [← hN] at hC
    have HC := Aside0.mk hC
    have w3 : wrap64 (N + 1) = K + 3 + (x.f1.f1.length : Int) := by have := HKB.out; rw [w64 (by omega) (by omega)]; omega
    have w4 : wrap64 (K + 3 + (x.f1.f1.length : Int) + 1) = k + (wtC (ns.take (j + 1)) : Int) := by have := HKB.out; rw [w64 (by omega) (by omega)]; omega
    have HNN := Aside0.mk hN
    clear hkz hC hN w1 w2
    go_upto_region 9 with (go_at_call 17; refine HC.out.mono ?_; rintro e w5 ⟨rfl, hR, hb, hkp⟩; replace HR := Aside0.mk hR; replace HB := Aside0.mk hb; have HKP := Aside0.mk hkp; clear hR hb hkp hc2)
    have hw : w.heap.size ≤ W2.heap.size := HK.out.1
    have hgo : ∀ k, (oki k ∨ W2.heap.size ≤ k) → k ≠ g := fun q hq => by
      rcases hq with hq | hq
      · exact (HI.out q hq).2
      · omega
    have HG := Aside0.mk hgo
    replace hg2 := Nat.lt_of_lt_of_le hg2 HKP.out.1
    have hH : Kd.H KC TC w5 w0.heap.size (fun k_ => (P1_ k_ ∨ w.heap.size ≤ k_)) (.slice (some ⟨g, 0, none⟩) l.length cap) xs (j : Int) (fun k => oki k ∨ (P1_ k ∨ w.heap.size ≤ k) ∧ W2.heap.size ≤ k) [.int .i64 K, .int .i64 (K + 1), vr, .bool x.f1.f2, .int .i64 x.f2] := Kd.H_step (Kd.H_widen HH.out) (w1 := w5) (fun q ho hn hlt => HKP.out.2 q hlt (fun h => hn (.inl h)))
    replace HK := Aside0.mk (HK.out.then_ HKP.out (fun q hq => (HI.out q hq).1))
    replace HH := Aside0.mk hH
    have HWW := Aside0.mk hw
    clear hH hgo hw
    have hc0 : w5.cell? ⟨g, j * 5 + 3, none⟩ = some (.bool x.f1.f2) := (H_at HH.out hlt).1 3 _ rfl
    have hf0 : w5.frozen? ⟨g, j * 5 + 3, none⟩ = false := (H_at HH.out hlt).2 3
    go_upto_region 11 with (fail)
    clear hc0 hf0
    obtain ⟨b, hb⟩ : ∃ b, (N.tmod 3 == 0) = b := ⟨_, rfl⟩
    simp only [hb]
    have hp : Kd.H KC TC (w5.setCell ⟨g, j * 5 + 3, none⟩ (.bool b)) w0.heap.size (fun k_ => (P1_ k_ ∨ w.heap.size ≤ k_)) (.slice (some ⟨g, 0, none⟩) l.length cap) xs (j : Int) (fun k => oki k ∨ (P1_ k ∨ w.heap.size ≤ k) ∧ W2.heap.size ≤ k) [.int .i64 K, .int .i64 (K + 1), vr, .bool b, .int .i64 x.f2] ∧ w5.grownBy (w5.setCell ⟨g, j * 5 + 3, none⟩ (.bool b)) (some g) := H_put HH.out hlt 3 (.bool b) (by decide) rfl rfl
    replace HR := Aside0.mk (Kd.R_grown HR.out hp.2 (fun q hq e => by injection e with e; exact HG.out q hq e))
    replace HH := Aside0.mk hp.1
    replace HB := Aside0.mk (HB.out.grown hp.2 HB.out.size (fun q e => by injection e with e; exact e ▸ hg1))
    replace HK := Aside0.mk (HK.out.of_grown hp.2 (fun q e => by injection e with e; exact e ▸ HNE.out.1))
    clear hp
    have HBB := Aside0.mk hb
    clear hb
    generalize w5.setCell ⟨g, j * 5 + 3, none⟩ (.bool b) = W3 at HH HB HK HR ⊢
    have hc0 : W3.cell? ⟨g, j * 5 + 4, none⟩ = some (.int .i64 x.f2) := (H_at HH.out hlt).1 4 _ rfl
    have hf0 : W3.frozen? ⟨g, j * 5 + 4, none⟩ = false := (H_at HH.out hlt).2 4
    simp only [w3]
    have hp : Kd.H KC TC (W3.setCell ⟨g, j * 5 + 4, none⟩ (.int .i64 (K + 3 + (x.f1.f1.length : Int)))) w0.heap.size (fun k_ => (P1_ k_ ∨ w.heap.size ≤ k_)) (.slice (some ⟨g, 0, none⟩) l.length cap) xs (j : Int) (fun k => oki k ∨ (P1_ k ∨ w.heap.size ≤ k) ∧ W2.heap.size ≤ k) [.int .i64 K, .int .i64 (K + 1), vr, .bool b, .int .i64 (K + 3 + (x.f1.f1.length : Int))] ∧ W3.grownBy (W3.setCell ⟨g, j * 5 + 4, none⟩ (.int .i64 (K + 3 + (x.f1.f1.length : Int)))) (some g) := H_put HH.out hlt 4 (.int .i64 (K + 3 + (x.f1.f1.length : Int))) (by decide) rfl rfl
    have hQ := Kd.H_back hp.1 (x' := (⟨K, ⟨K + 1, mkI (K + 2) x.f1.f1.length, b⟩, K + 3 + (x.f1.f1.length : Int)⟩ : MCom)) (okp := fun k => oki k ∨ W2.heap.size ≤ k) (k56_mkM _ _ _ (⟨K, ⟨K + 1, mkI (K + 2) x.f1.f1.length, b⟩, K + 3 + (x.f1.f1.length : Int)⟩ : MCom) (Kd.R_grown HR.out hp.2 (fun q hq e => by injection e with e; exact HG.out q hq e))) (fun q hq => hq.elim .inl (fun h => .inr ⟨.inr (Nat.le_trans HWW.out h), h⟩))
    rw [Int.toNat_natCast, HSET.out _ (by rw [← HBB.out, HNN.out]; rfl)] at hQ
    have HQ := Aside0.mk hQ
    have HQB := Aside0.mk (HB.out.grown hp.2 HB.out.size (fun q e => by injection e with e; exact e ▸ hg1))
    have HQK := Aside0.mk (HK.out.of_grown hp.2 (fun q e => by injection e with e; exact e ▸ HNE.out.1))
    clear hp hQ HH HR HB HK HC
    go_wp2_with (fail)
    go_roundg (l.length - j)
    case measure => omega
    case rel => exact ⟨j + 1, ⟨by omega, by omega⟩, by rw [w4], by go_num, ⟨by first | exact HQ.out | exact Kd.S_drewN HQ.out _⟩, ⟨by first | exact HQB.out | exact pw_below_drewN HQB.out _⟩, ⟨by first | exact HQK.out | exact HQK.out.drewN _⟩⟩
end Go.Proofs.Ytmkhiaikfeoedaa.MarkK
