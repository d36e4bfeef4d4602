/- Joined: RestI, RestS. -/
import Derived.Test.YthffllegmkolgaaT11ResPure
import Derived.Test.YthffllegmkolgaaT11ChangeI
import Derived.Test.YthffllegmkolgaaT11ChangeP
import Derived.Test.YthffllegmkolgaaT11FlOwn
import Derived.Test.YthffllegmkolgaaT11LookPure
namespace Go.Proofs.Ythffllegmkolgaa.TreeK
open Go.RowKit Go.Proofs.YthffllegmkolgaaW.PrintWords Go.Proofs.YthffllegmkolgaaW.PrintLast Go.Proofs.YthffllegmkolgaaW.PrintMore Go.Proofs.Ythffllegmkolgaa.QTree Go.Proofs.Ythffllegmkolgaa.EvKit Go.Proofs.Ythffllegmkolgaa.GTree
set_option linter.unusedSimpArgs false
set_option linter.unusedVariables false
set_option linter.unnecessarySimpa false
theorem fit_right {x : Tre} (h : trB x = true) : Fit x.f0 x.f1 := by
  have h1 := few_cells h
  have h2 := tree_facts h
  rw [List.flatten_cons, List.length_append] at h1
  exact ⟨by omega, by have := h2.runs; omega, fun r hr => by have := row_len hr; omega⟩
theorem within_below (a b c : Int) (r : Bool) (W : World) (h : decide (b ≤ a ∧ a ≤ c) = r) : Calls Try.prog 58 #[.int .i64 a, .int .i64 b, .int .i64 c] W fun e w' => e = .returned (.bool r) ∧ Below W.heap.size W w' :=
  (call_within a b c r W h).mono (fun e w' h => ⟨h.1, by obtain ⟨nd, hd⟩ := h.2; rw [hd]; exact pw_below_drewN (Below.refl _ _) _⟩)
theorem resF_no {l : List Cel} {j : Nat} {c : Cel} {x : Tre} {R : Tre × Bool} (hj : j < l.length) (e : l[j] = c) (h : resF (l.drop j) (j : Int) x = R) (hc : ¬ (cellB c = true ∧ c.f2 = (j : Int) + 1)) : R = (⟨[], [], 0, 0⟩, false) := by
  rw [List.drop_eq_getElem_cons hj, e, resF, if_neg hc] at h
  exact h.symm
theorem resF_yes {l : List Cel} {j : Nat} {c : Cel} {x : Tre} {R : Tre × Bool} (hj : j < l.length) (e : l[j] = c) (h : resF (l.drop j) (j : Int) x = R) (hc : cellB c = true ∧ c.f2 = (j : Int) + 1) : resF (l.drop (j + 1)) ((j + 1 : Nat) : Int) (chT x c).1 = R := by
  rw [List.drop_eq_getElem_cons hj, e, resF, if_pos hc] at h
  rw [← h]; congr 1
theorem resF_end {l : List Cel} {x : Tre} {R : Tre × Bool} (h : resF (l.drop l.length) (l.length : Int) x = R) : R = (x, true) := by
  rw [List.drop_length] at h
  exact h.symm
set_option maxHeartbeats 1600000 in
set_option maxRecDepth 100000 in
theorem rest_impl (A : Option Addr) (c : Nat) (q : Int) (l : List Cel) (w : World) (hlc : l.length ≤ c) (h : KC.C w A l.length l) (hl : l.length ≤ 1048576) :
    Calls Try.prog 38 #[.int .i64 q, .slice A l.length c] w fun e w' => ∃ v0 v1 : Value, e = .returned (.tuple #[.agg #[v0, v1, .int .i64 (resT q l).1.f2, .int .i64 (resT q l).1.f3], .bool (resT q l).2]) ∧ KC.R TC w' w.heap.size (fun _ => True) v0 (resT q l).1.f0 ∧ Kd.S KL TL w' w.heap.size (fun k => some k ≠ v0.ownBlock) v1 (resT q l).1.f1 ∧ Below w.heap.size w w' := by
  have HM := zA h
  clear h
  go_enter Try.func38, Try.ntmps38
  go_upto_region 1 with (fail)
  have B2 := zA (blk_new w (.cells #[.slice none 0 0, .slice none 0 0, .int .i64 0, .int .i64 0] 31))
  have HB := zA (bel_alloc w (.cells #[.slice none 0 0, .slice none 0 0, .int .i64 0, .int .i64 0] 31))
  obtain ⟨g2, hg2⟩ : ∃ g2, g2 = w.heap.size := ⟨_, rfl⟩
  have HG := zA (Nat.le_of_eq hg2.symm)
  rw [← hg2] at B2 ⊢
  clear hg2
  generalize w.alloc (.cells #[.slice none 0 0, .slice none 0 0, .int .i64 0, .int .i64 0] 31) = W at B2 HB ⊢
  obtain ⟨b20, b21, b22, b23⟩ := keep4 B2.out
  have cf0 := blk_frozen B2.out 0
  have cf1 := blk_frozen B2.out 1
  have cf2 := blk_frozen B2.out 2
  have cf3 := blk_frozen B2.out 3
  by_cases hq : 1 ≤ q ∧ q ≤ 50
  case neg =>
    have hT : Aside0 (resT q l = (⟨[], [], 0, 0⟩, false)) := ⟨by rw [resT, if_neg hq]⟩
    go_wp2_with ((go_at_call 58; refine (within_below q 1 50 false _ (decide_eq_false hq)).mono ?_; rintro e w' ⟨rfl, hb⟩; replace B2 := zA (blk_below B2.out hb); replace HB := zA (bel HB.out hb); clear hb b20 b21 b22 b23 cf0 cf1 cf2 cf3; obtain ⟨b20, b21, b22, b23⟩ := keep4 B2.out; have cf0 := blk_frozen B2.out 0; have cf1 := blk_frozen B2.out 1; have cf2 := blk_frozen B2.out 2; have cf3 := blk_frozen B2.out 3))
    refine bodyPost_ret (results_ct rfl _ _ g2 31 #[.slice none 0 0, .slice none 0 0, .int .i64 0, .int .i64 0] (0, 0) _ rfl (put4_blk B2.out) Try.underlying31 rfl (by kernel_rfl)) rfl ?_
    rw [hT.out]
    exact ⟨_, _, rfl, Kd.R_nil _ _ _ _ _, Kd.S_nil _ _ _ _ _, put4_below HB.out HG.out⟩
  have hT : Aside0 (resF (l.drop 0) ((0 : Nat) : Int) ⟨[], [], 0, q⟩ = resT q l) := ⟨by rw [resT, if_pos hq]; rfl⟩
  have HQ := zA (res_none hq)
  go_upto_region 3 with (go_at_call 58; refine (within_below q 1 50 true _ (decide_eq_true hq)).mono ?_; rintro e w' ⟨rfl, hb⟩; replace B2 := zA (blk_below B2.out hb); replace HB := zA (bel HB.out hb); clear hb b20 b21 b22 b23 cf0 cf1 cf2 cf3)
  obtain ⟨R, hRd⟩ : ∃ R, resT q l = R := ⟨_, rfl⟩
  rw [hRd] at hT
  have HRD := zA hRd
  clear hRd
  clear hq
  go_upto_region 4 with (fail)
  have B6 := zA (blk_new w' (.cells #[.slice none 0 0, .slice none 0 0, .int .i64 0, .int .i64 q] 31))
  have hb := bel_alloc w' (.cells #[.slice none 0 0, .slice none 0 0, .int .i64 0, .int .i64 q] 31)
  obtain ⟨g, hg⟩ : ∃ g, g = w'.heap.size := ⟨_, rfl⟩
  have HGG : Aside0 (w.heap.size ≤ g ∧ g2 < g) := ⟨by have h1 := HB.out.size; have h2 := blk_lt B2.out; rw [hg]; exact ⟨h1, h2⟩⟩
  replace B2 := zA (blk_below B2.out hb)
  replace HB := zA (bel HB.out hb)
  rw [← hg] at B6 ⊢
  clear hb hg
  generalize w'.alloc (.cells #[.slice none 0 0, .slice none 0 0, .int .i64 0, .int .i64 q] 31) = W1 at B2 B6 HB ⊢
  go_wp2
  go_loopg [17] (l.length + 1) (fun kq v17 wr => ∃ (j : Nat) (x : Tre) (v0 v1 : Value), (j + kq = l.length + 1 ∧ j ≤ l.length) ∧ v17 = .int .i64 (j : Int) ∧ Aside0 (resF (l.drop j) (j : Int) x = R) ∧ Aside0 (trB x = true ∧ x.f2 = (j : Int)) ∧ Aside0 (blkT wr g v0 v1 x.f2 x.f3) ∧ Aside0 (blkT wr g2 (.slice none 0 0) (.slice none 0 0) 0 0) ∧ Aside0 (KC.R TC wr w.heap.size (fun k => g < k) v0 x.f0) ∧ Aside0 (Kd.S KL TL wr w.heap.size (fun k => some k ≠ v0.ownBlock ∧ g < k) v1 x.f1) ∧ Aside0 (Below w.heap.size w wr))
  case atStart => exact ⟨0, ⟨[], [], 0, q⟩, _, _, ⟨by omega, Nat.zero_le _⟩, rfl, hT, ⟨HQ.out, rfl⟩, ⟨by first | exact B6.out | exact blk_below B6.out (pw_below_drewN (Below.refl _ _) _)⟩, ⟨by first | exact B2.out | exact blk_below B2.out (pw_below_drewN (Below.refl _ _) _)⟩, ⟨Kd.R_nil _ _ _ _ _⟩, ⟨Kd.S_nil _ _ _ _ _⟩, ⟨by first | exact HB.out | exact pw_below_drewN HB.out _⟩⟩
  case round =>
    clear B2 B6 HB hT HQ
    obtain ⟨j, x, v0, v1, hj, rfl, HF, HX, B6, B2, R0, S0, HB⟩ := hrel
    obtain ⟨A7, c7, rfl⟩ := Kd.R_slice R0.out
    obtain ⟨B7, d7, rfl⟩ := Kd.S_slice S0.out
    obtain ⟨b60, b61, b62, b63⟩ := keep4 B6.out
    obtain ⟨b20, b21, b22, b23⟩ := keep4 B2.out; have cf0 := blk_frozen B2.out 0; have cf1 := blk_frozen B2.out 1; have cf2 := blk_frozen B2.out 2; have cf3 := blk_frozen B2.out 3
    by_cases hlt : j < l.length
    case neg =>
      obtain rfl : j = l.length := by omega
      have hR := resF_end HF.out
      clear HM
      go_wp2
      refine bodyPost_ret (results_ct rfl _ _ g2 31 #[.slice A7 x.f0.length c7, .slice B7 x.f1.length d7, .int .i64 x.f2, .int .i64 x.f3] (0, 0) _ rfl (put4_blk B2.out) Try.underlying31 rfl (by kernel_rfl)) rfl ?_
      rw [HRD.out, hR]
      exact ⟨_, _, rfl, Kd.R_mono (put4_R B2.out R0.out) (fun _ _ => trivial), Kd.S_mono (put4_S B2.out S0.out) (fun k h => h.1), put4_below HB.out HG.out⟩
    obtain ⟨⟨k0, k1, k2, k3⟩, hye⟩ : ∃ c : Cel, l[j] = c := ⟨_, rfl⟩
    obtain ⟨ad2, ee, e0, e1, e2, e3⟩ := elemC HM.out HB.out hlt hye
    cases ee
    replace hye := zA hye
    go_upto_region 7 with (fail)
    have B3 := zA (blk_new wr (.cells #[.string k0, .string k1, .int .i64 k2, .bool k3] 48))
    have hb := bel_alloc wr (.cells #[.string k0, .string k1, .int .i64 k2, .bool k3] 48)
    have HL : Aside0 (g < wr.heap.size) := ⟨blk_lt B6.out⟩
    replace B6 := zA (blk_below B6.out hb)
    replace B2 := zA (blk_below B2.out hb)
    replace R0 := zA (Kd.R_below R0.out hb)
    replace S0 := zA (Kd.S_below S0.out hb)
    replace HB := zA (bel HB.out hb)
    clear e0 e1 e2 e3 hb b60 b61 b62 b63 b20 b21 b22 b23 cf0 cf1 cf2 cf3
    generalize wr.alloc (.cells #[.string k0, .string k1, .int .i64 k2, .bool k3] 48) = W3 at *
    generalize wr.heap.size = g9 at *
    obtain ⟨hx0, hx1, hx2, hx3⟩ := keep4 B3.out
    obtain ⟨b20, b21, b22, b23⟩ := keep4 B2.out; have cf0 := blk_frozen B2.out 0; have cf1 := blk_frozen B2.out 1; have cf2 := blk_frozen B2.out 2; have cf3 := blk_frozen B2.out 3
    cases hcb : cellB ⟨k0, k1, k2, k3⟩
    case false =>
      have hR := resF_no hlt hye.out HF.out (by rw [hcb]; simp)
      go_wp2_with (go_at_call 59; refine (call_cellOk k0 k1 k2 k3 false _ hcb).mono ?_; rintro e w5 ⟨rfl, hb⟩; replace B2 := zA (blk_below B2.out hb); replace HB := zA (bel HB.out hb); clear hb b20 b21 b22 b23 cf0 cf1 cf2 cf3; obtain ⟨b20, b21, b22, b23⟩ := keep4 B2.out; have cf0 := blk_frozen B2.out 0; have cf1 := blk_frozen B2.out 1; have cf2 := blk_frozen B2.out 2; have cf3 := blk_frozen B2.out 3)
      refine bodyPost_ret (results_ct rfl _ _ g2 31 #[.slice none 0 0, .slice none 0 0, .int .i64 0, .int .i64 0] (0, 0) _ rfl (put4_blk B2.out) Try.underlying31 rfl (by kernel_rfl)) rfl ?_
      rw [HRD.out, hR]
      exact ⟨_, _, rfl, Kd.R_nil _ _ _ _ _, Kd.S_nil _ _ _ _ _, put4_below HB.out HG.out⟩
    have hw : wrap64 ((j : Int) + 1) = (j : Int) + 1 := w64 (by omega) (by omega)
    by_cases h2 : k2 = (j : Int) + 1
    case neg =>
      have hR := resF_no hlt hye.out HF.out (fun h => h2 h.2)
      have h2' : (k2 != (j : Int) + 1) = true := by rw [bne_iff_ne]; exact h2
      go_wp2_with (first | (simp only [hw, h2']; done) | (go_at_call 59; refine (call_cellOk k0 k1 k2 k3 true _ hcb).mono ?_; rintro e w5 ⟨rfl, hb⟩; replace B2 := zA (blk_below B2.out hb); replace B3 := zA (blk_below B3.out hb); replace HB := zA (bel HB.out hb); clear hb b20 b21 b22 b23 cf0 cf1 cf2 cf3 hx0 hx1 hx2 hx3; obtain ⟨b20, b21, b22, b23⟩ := keep4 B2.out; have cf0 := blk_frozen B2.out 0; have cf1 := blk_frozen B2.out 1; have cf2 := blk_frozen B2.out 2; have cf3 := blk_frozen B2.out 3; obtain ⟨hx0, hx1, hx2, hx3⟩ := keep4 B3.out))
      refine bodyPost_ret (results_ct rfl _ _ g2 31 #[.slice none 0 0, .slice none 0 0, .int .i64 0, .int .i64 0] (0, 0) _ rfl (put4_blk B2.out) Try.underlying31 rfl (by kernel_rfl)) rfl ?_
      rw [HRD.out, hR]
      exact ⟨_, _, rfl, Kd.R_nil _ _ _ _ _, Kd.S_nil _ _ _ _ _, put4_below HB.out HG.out⟩
    have h2' : (k2 != (j : Int) + 1) = false := by rw [bne_eq_false_iff_eq]; exact h2
    have HN := zA (res_step HX.out.1 HX.out.2 hcb h2)
    have HF' := zA (resF_yes hlt hye.out HF.out ⟨hcb, h2⟩)
    have HFT := zA (fit_right HX.out.1)
    clear HF h2
    go_wp2_with (first
      | (simp only [hw, h2']; done)
      | (go_at_call 59; refine (call_cellOk k0 k1 k2 k3 true _ hcb).mono ?_; rintro e w5 ⟨rfl, hb⟩; replace B2 := zA (blk_below B2.out hb); replace B3 := zA (blk_below B3.out hb); replace B6 := zA (blk_below B6.out hb); replace R0 := zA (Kd.R_below R0.out hb); replace S0 := zA (Kd.S_below S0.out hb); replace HB := zA (bel HB.out hb); clear hb b20 b21 b22 b23 cf0 cf1 cf2 cf3 hx0 hx1 hx2 hx3; obtain ⟨hx0, hx1, hx2, hx3⟩ := keep4 B3.out)
      | (go_at_call 86; have r0 := Kd.R_mono (Kd.R_bound R0.out) (ok' := fun k => g < k ∧ k < w5.heap.size) (fun k h => ⟨h.1, h.2.2.1⟩); have s0 := Kd.S_mono (Kd.S_bound S0.out) (ok' := fun k => some k ≠ (Value.slice A7 x.f0.length c7).ownBlock ∧ (g < k ∧ k < w5.heap.size)) (fun k h => ⟨h.1.1, h.1.2, h.2.2.1⟩); have hcy := change_yes w w5 g (.slice A7 x.f0.length c7) (.slice B7 x.f1.length d7) x.f0 x.f1 x.f2 x.f3 k0 k1 k2 k3 (fun k => g < k ∧ k < w5.heap.size) HB.out HGG.out.1 (blk_lt B6.out) B6.out r0 s0 (fun k h => h.2) HFT.out HX.out.1 HN.out.2.2.2; clear r0 s0; refine hcy.mono ?_; clear hcy; rintro e w8 ⟨rfl, hb, hk, u0, u1, hbk, hR, hS⟩; have HLg := zA (blk_lt B6.out); replace B2 := zA (blk_kept B2.out hk (fun h => h.elim (fun h => Nat.ne_of_lt HGG.out.2 h) (fun h => Nat.lt_asymm HGG.out.2 h.1))); replace HB := zA hb; replace B6 := zA hbk; replace R0 := zA (Kd.R_mono hR (ok' := fun k => g < k) (fun k h => h.elim (fun h => h.1) (fun h => Nat.lt_of_lt_of_le HLg.out h))); replace S0 := zA (Kd.S_mono hS (ok' := fun k => some k ≠ u0.ownBlock ∧ g < k) (fun k h => ⟨h.1, h.2.elim (fun h => h.1) (fun h => Nat.lt_of_lt_of_le HLg.out h)⟩)); clear hb hk hbk hR hS B3 hx0 hx1 hx2 hx3))
    go_roundg (l.length - j)
    case measure => omega
    case rel => exact ⟨j + 1, _, u0, u1, ⟨by omega, by omega⟩, by go_num, HF', ⟨HN.out.2.1, HN.out.2.2.1⟩, ⟨by rw [HN.out.1]; first | exact B6.out | exact blk_below B6.out (pw_below_drewN (Below.refl _ _) _)⟩, ⟨by first | exact B2.out | exact blk_below B2.out (pw_below_drewN (Below.refl _ _) _)⟩, ⟨by rw [HN.out.1]; first | exact R0.out | exact Kd.R_below R0.out (pw_below_drewN (Below.refl _ _) _)⟩, ⟨by rw [HN.out.1]; first | exact S0.out | exact Kd.S_below S0.out (pw_below_drewN (Below.refl _ _) _)⟩, ⟨by first | exact HB.out | exact pw_below_drewN HB.out _⟩⟩
end Go.Proofs.Ythffllegmkolgaa.TreeK

namespace Go.Proofs.Ythffllegmkolgaa.TreeK
open Go.RowKit Go.Proofs.YthffllegmkolgaaW.PrintWords Go.Proofs.YthffllegmkolgaaW.PrintLast Go.Proofs.YthffllegmkolgaaW.PrintMore Go.Proofs.Ythffllegmkolgaa.QTree Go.Proofs.Ythffllegmkolgaa.EvKit Go.Proofs.Ythffllegmkolgaa.GTree
set_option linter.unusedSimpArgs false
set_option linter.unusedVariables false
set_option linter.unnecessarySimpa false
theorem sm_cell {c : Cel} (h : cellB c = true) : sm_Cell c := by
  unfold cellB at h
  simp only [Bool.and_eq_true, decide_eq_true_eq] at h
  exact ⟨by omega, by omega, ⟨by omega, by omega⟩, trivial⟩
theorem sm_right {x : Tre} (h : trB x = true) : sm_Tree x := by
  have hf := fit_right h
  have ht := tree_facts h
  have h1 := ht.most
  have h2 := ht.seq
  exact ⟨⟨hf.1, fun c hc => sm_cell (ht.cell _ List.mem_cons_self c hc)⟩, ⟨hf.2.1, fun r hr => ⟨hf.2.2 r hr, fun c hc => sm_cell (ht.cell r (List.mem_cons_of_mem _ hr) c hc)⟩⟩, ⟨by omega, by omega⟩, ⟨by omega, by omega⟩⟩
end Go.Proofs.Ythffllegmkolgaa.TreeK
