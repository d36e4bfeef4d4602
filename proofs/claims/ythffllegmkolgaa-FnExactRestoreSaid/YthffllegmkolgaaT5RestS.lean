/- The reference's Restore, called. -/
import Derived.Test.YthffllegmkolgaaT5RestI
import Derived.Test.YthffllegmkolgaaT5ChangeS
import Derived.Test.YthffllegmkolgaaT5TreeSpec2
namespace Go.Proofs.Ythffllegmkolgaa.TreeK
open Go.RowKit Go.Proofs.YthffllegmkolgaaW.PrintWords Go.Proofs.YthffllegmkolgaaW.PrintLast Go.Proofs.YthffllegmkolgaaW.PrintMore Go.Proofs.Ythffllegmkolgaa.QTree Go.Proofs.Ythffllegmkolgaa.EvKit Go.Proofs.Ythffllegmkolgaa.GTree
set_option linter.unusedSimpArgs false
set_option linter.unusedVariables false
set_option linter.unnecessarySimpa false
theorem sm_cell {c : Cel} (h : cellB c = true) : sm_Cell c := by
  unfold cellB at h
  simp only [Bool.and_eq_true, decide_eq_true_eq] at h
  exact ⟨by omega, by omega, ⟨by omega, by omega⟩, trivial⟩
theorem sm_right {x : Tre} (h : trB x = true) : sm_Tree x := by
  have hf := fit_right h
  have ht := tree_facts h
  have h1 := ht.most
  have h2 := ht.seq
  exact ⟨⟨hf.1, fun c hc => sm_cell (ht.cell _ List.mem_cons_self c hc)⟩, ⟨hf.2.1, fun r hr => ⟨hf.2.2 r hr, fun c hc => sm_cell (ht.cell r (List.mem_cons_of_mem _ hr) c hc)⟩⟩, ⟨by omega, by omega⟩, ⟨by omega, by omega⟩⟩
theorem in_below (a b c : Int) (r : Bool) (W : World) (h : decide (b ≤ a ∧ a ≤ c) = r) : Calls Try.prog 53 #[.int .i64 a, .int .i64 b, .int .i64 c] W fun e w' => e = .returned (.bool r) ∧ Below W.heap.size W w' :=
  (spec_l1In.calls a b c r W (by rw [l1In_f, h])).mono (fun e w' h => ⟨h.1, by obtain ⟨nd, hd⟩ := h.2; rw [hd]; exact pw_below_drewN (Below.refl _ _) _⟩)
theorem cell_spec (c0 c1 : ByteArray) (c2 : Int) (c3 : Bool) (r : Bool) (w : World) (h : cellB ⟨c0, c1, c2, c3⟩ = r) :
    Calls Try.prog 83 #[.agg #[.string c0, .string c1, .int .i64 c2, .bool c3]] w fun e w' => e = .returned (.bool r) ∧ Below w.heap.size w w' :=
  spec_l17Cell.calls c0 c1 c2 c3 r w (by have := cell_f ⟨c0, c1, c2, c3⟩; rw [h] at this; exact this)
theorem new_spec (q : Int) (W : World) (x0 : Tre) (h : x0 = ⟨[], [], 0, q⟩) (hq : 1 ≤ q ∧ q ≤ 50) : Calls Try.prog 82 #[.int .i64 q] W fun e w' => ∃ A c B d, e = .returned (.agg #[.slice A x0.f0.length c, .slice B x0.f1.length d, .int .i64 x0.f2, .int .i64 x0.f3]) ∧ KC.R TC w' W.heap.size (fun _ => True) (.slice A x0.f0.length c) x0.f0 ∧ Kd.S KL TL w' W.heap.size (fun k => some k ≠ (Value.slice A x0.f0.length c).ownBlock) (.slice B x0.f1.length d) x0.f1 ∧ Below W.heap.size W w' := by
  refine (spec_NewTree.calls q x0.f0 x0.f1 x0.f2 x0.f3 W ?_).mono ?_
  · unfold spec_NewTree.f
    rw [l1In_f, decide_eq_true hq, h]; rfl
  · rintro e w' ⟨v0, v1, rfl, hR, hS, hb⟩
    obtain ⟨A, c, rfl⟩ := Kd.R_slice hR
    obtain ⟨B, d, rfl⟩ := Kd.S_slice hS
    exact ⟨A, c, B, d, rfl, hR, hS, hb⟩
set_option maxHeartbeats 1600000 in
set_option maxRecDepth 100000 in
theorem rest_spec (A : Option Addr) (c : Nat) (q : Int) (l : List Cel) (w : World) (hlc : l.length ≤ c) (h : KC.C w A l.length l) (hl : l.length ≤ 1048576) :
    Calls Try.prog 36 #[.int .i64 q, .slice A l.length c] w fun e w' => ∃ v0 v1 : Value, e = .returned (.tuple #[.agg #[v0, v1, .int .i64 (resT q l).1.f2, .int .i64 (resT q l).1.f3], .bool (resT q l).2]) ∧ KC.R TC w' w.heap.size (fun _ => True) v0 (resT q l).1.f0 ∧ Kd.S KL TL w' w.heap.size (fun k => some k ≠ v0.ownBlock) v1 (resT q l).1.f1 ∧ Below w.heap.size w w' := by
  have HM := zA h
  clear h
  go_enter Try.func36, Try.ntmps36
  go_upto_region 1 with (fail)
  have B2 := zA (blk_new w (.cells #[.slice none 0 0, .slice none 0 0, .int .i64 0, .int .i64 0] 31))
  have HB := zA (bel_alloc w (.cells #[.slice none 0 0, .slice none 0 0, .int .i64 0, .int .i64 0] 31))
  obtain ⟨g2, hg2⟩ : ∃ g2, g2 = w.heap.size := ⟨_, rfl⟩
  have HG := zA (Nat.le_of_eq hg2.symm)
  rw [← hg2] at B2 ⊢
  clear hg2
  generalize w.alloc (.cells #[.slice none 0 0, .slice none 0 0, .int .i64 0, .int .i64 0] 31) = W at B2 HB ⊢
  obtain ⟨R, hRd⟩ : ∃ R, resT q l = R := ⟨_, rfl⟩
  obtain ⟨b20, b21, b22, b23⟩ := keep4 B2.out; have cf0 := blk_frozen B2.out 0; have cf1 := blk_frozen B2.out 1; have cf2 := blk_frozen B2.out 2; have cf3 := blk_frozen B2.out 3
  by_cases hq : 1 ≤ q ∧ q ≤ 50
  case neg =>
    have hR : R = (⟨[], [], 0, 0⟩, false) := by rw [← hRd, resT, if_neg hq]
    have HRD := zA hRd
    clear hRd
    go_wp2_with (go_at_call 53; refine (in_below q 1 50 false _ (decide_eq_false hq)).mono ?_; rintro e w' ⟨rfl, hb⟩; replace B2 := zA (blk_below B2.out hb); replace HB := zA (bel HB.out hb); clear hb b20 b21 b22 b23 cf0 cf1 cf2 cf3; obtain ⟨b20, b21, b22, b23⟩ := keep4 B2.out; have cf0 := blk_frozen B2.out 0; have cf1 := blk_frozen B2.out 1; have cf2 := blk_frozen B2.out 2; have cf3 := blk_frozen B2.out 3)
    refine bodyPost_ret (results_ct rfl _ _ g2 31 #[.slice none 0 0, .slice none 0 0, .int .i64 0, .int .i64 0] (0, 0) _ rfl (put4_blk B2.out) Try.underlying31 rfl (by kernel_rfl)) rfl ?_
    rw [HRD.out, hR]
    exact ⟨_, _, rfl, Kd.R_nil _ _ _ _ _, Kd.S_nil _ _ _ _ _, put4_below HB.out HG.out⟩
  obtain ⟨x0, hx0⟩ : ∃ x0 : Tre, x0 = ⟨[], [], 0, q⟩ := ⟨_, rfl⟩
  have hT : Aside0 (resF (l.drop 0) ((0 : Nat) : Int) x0 = R) := ⟨by rw [← hRd, resT, if_pos hq, hx0]; rfl⟩
  have HRD := zA hRd
  clear hRd
  have HQ : Aside0 (trB x0 = true ∧ x0.f2 = ((0 : Nat) : Int)) := ⟨by rw [hx0]; exact ⟨res_none hq, rfl⟩⟩
  have HX0 := zA hx0
  clear hx0
  have HQQ := zA hq
  go_upto_region 3 with (go_at_call 53; refine (in_below q 1 50 true _ (decide_eq_true hq)).mono ?_; rintro e w' ⟨rfl, hb⟩; replace B2 := zA (blk_below B2.out hb); replace HB := zA (bel HB.out hb); clear hb b20 b21 b22 b23 cf0 cf1 cf2 cf3)
  clear hq
  go_upto_region 4 with (go_at_call 82; refine (new_spec q _ x0 HX0.out HQQ.out).mono ?_; rintro e w6 ⟨A0, c0, B0, d0, rfl, hR, hS, hb⟩; have HL2 := zA (blk_lt B2.out); replace B2 := zA (blk_below B2.out hb); have R0 := zA hR; have S0 := zA hS; have HW := zA hb.size; have HWB := zA HB.out.size; replace HB := zA (bel HB.out hb); clear hR hS hb)
  have B6 := zA (blk_new w6 (.cells #[.slice A0 x0.f0.length c0, .slice B0 x0.f1.length d0, .int .i64 x0.f2, .int .i64 x0.f3] 31))
  have hb := bel_alloc w6 (.cells #[.slice A0 x0.f0.length c0, .slice B0 x0.f1.length d0, .int .i64 x0.f2, .int .i64 x0.f3] 31)
  obtain ⟨g, hg⟩ : ∃ g, g = w6.heap.size := ⟨_, rfl⟩
  have HGG : Aside0 (w.heap.size ≤ g ∧ g2 < g) := ⟨by have h1 := HB.out.size; have h2 := blk_lt B2.out; rw [hg]; exact ⟨h1, h2⟩⟩
  replace B2 := zA (blk_below B2.out hb)
  replace HB := zA (bel HB.out hb)
  replace R0 := zA (Kd.R_below (Kd.R_lower (Kd.R_mono (Kd.R_bound R0.out) (ok' := fun k => k ≠ g ∧ g2 < k) (fun k h => ⟨by have := h.2.2.1; omega, Nat.lt_of_lt_of_le HL2.out h.2.1⟩)) HWB.out) hb)
  replace S0 := zA (Kd.S_below (Kd.S_lower (Kd.S_mono (Kd.S_bound S0.out) (ok' := fun k => some k ≠ (Value.slice A0 x0.f0.length c0).ownBlock ∧ k ≠ g ∧ g2 < k) (fun k h => ⟨h.1, by have := h.2.2.1; omega, Nat.lt_of_lt_of_le HL2.out h.2.1⟩)) HWB.out) hb)
  rw [← hg] at B6 ⊢
  clear hb hg HW HWB HL2
  generalize w6.alloc (.cells #[.slice A0 x0.f0.length c0, .slice B0 x0.f1.length d0, .int .i64 x0.f2, .int .i64 x0.f3] 31) = W1 at B2 B6 HB R0 S0 ⊢
  go_wp2
  go_loopg [7] (l.length + 1) (fun kq v7 wr => ∃ (j : Nat) (x : Tre) (v0 v1 : Value), (j + kq = l.length + 1 ∧ j ≤ l.length) ∧ v7 = .int .i64 (j : Int) ∧ Aside0 (resF (l.drop j) (j : Int) x = R) ∧ Aside0 (trB x = true ∧ x.f2 = (j : Int)) ∧ Aside0 (blkT wr g v0 v1 x.f2 x.f3) ∧ Aside0 (blkT wr g2 (.slice none 0 0) (.slice none 0 0) 0 0) ∧ Aside0 (KC.R TC wr w.heap.size (fun k => k ≠ g ∧ g2 < k) v0 x.f0) ∧ Aside0 (Kd.S KL TL wr w.heap.size (fun k => some k ≠ v0.ownBlock ∧ k ≠ g ∧ g2 < k) v1 x.f1) ∧ Aside0 (Below w.heap.size w wr))
  case atStart => exact ⟨0, x0, _, _, ⟨by omega, Nat.zero_le _⟩, rfl, hT, HQ, ⟨by first | exact B6.out | exact blk_below B6.out (pw_below_drewN (Below.refl _ _) _)⟩, ⟨by first | exact B2.out | exact blk_below B2.out (pw_below_drewN (Below.refl _ _) _)⟩, ⟨by first | exact R0.out | exact Kd.R_below R0.out (pw_below_drewN (Below.refl _ _) _)⟩, ⟨by first | exact S0.out | exact Kd.S_below S0.out (pw_below_drewN (Below.refl _ _) _)⟩, ⟨by first | exact HB.out | exact pw_below_drewN HB.out _⟩⟩
  case round =>
    clear B2 B6 HB hT HQ R0 S0
    obtain ⟨j, x, v0, v1, hj, rfl, HF, HX, B6, B2, R0, S0, HB⟩ := hrel
    obtain ⟨A7, c7, rfl⟩ := Kd.R_slice R0.out
    obtain ⟨B7, d7, rfl⟩ := Kd.S_slice S0.out
    obtain ⟨b60, b61, b62, b63⟩ := keep4 B6.out
    obtain ⟨b20, b21, b22, b23⟩ := keep4 B2.out; have cf0 := blk_frozen B2.out 0; have cf1 := blk_frozen B2.out 1; have cf2 := blk_frozen B2.out 2; have cf3 := blk_frozen B2.out 3
    by_cases hlt : j < l.length
    case neg =>
      obtain rfl : j = l.length := by omega
      have hR := resF_end HF.out
      clear HM
      go_wp2
      refine bodyPost_ret (results_ct rfl _ _ g2 31 #[.slice A7 x.f0.length c7, .slice B7 x.f1.length d7, .int .i64 x.f2, .int .i64 x.f3] (0, 0) _ rfl (put4_blk B2.out) Try.underlying31 rfl (by kernel_rfl)) rfl ?_
      rw [HRD.out, hR]
      exact ⟨_, _, rfl, Kd.R_mono (put4_R B2.out R0.out) (fun _ _ => trivial), Kd.S_mono (put4_S B2.out S0.out) (fun k h => h.1), put4_below HB.out HG.out⟩
    obtain ⟨⟨k0, k1, k2, k3⟩, hye⟩ : ∃ c : Cel, l[j] = c := ⟨_, rfl⟩
    obtain ⟨ad2, ee, e0, e1, e2, e3⟩ := elemC HM.out HB.out hlt hye
    cases ee
    replace hye := zA hye
    cases hcb : cellB ⟨k0, k1, k2, k3⟩
    case false =>
      have hR := resF_no hlt hye.out HF.out (by rw [hcb]; simp)
      clear b60 b61 b62 b63
      go_wp2_with (go_at_call 83; refine (cell_spec k0 k1 k2 k3 false _ hcb).mono ?_; rintro e w5 ⟨rfl, hb⟩; replace B2 := zA (blk_below B2.out hb); replace HB := zA (bel HB.out hb); clear hb b20 b21 b22 b23 cf0 cf1 cf2 cf3 e0 e1 e2 e3; obtain ⟨b20, b21, b22, b23⟩ := keep4 B2.out; have cf0 := blk_frozen B2.out 0; have cf1 := blk_frozen B2.out 1; have cf2 := blk_frozen B2.out 2; have cf3 := blk_frozen B2.out 3)
      refine bodyPost_ret (results_ct rfl _ _ g2 31 #[.slice none 0 0, .slice none 0 0, .int .i64 0, .int .i64 0] (0, 0) _ rfl (put4_blk B2.out) Try.underlying31 rfl (by kernel_rfl)) rfl ?_
      rw [HRD.out, hR]
      exact ⟨_, _, rfl, Kd.R_nil _ _ _ _ _, Kd.S_nil _ _ _ _ _, put4_below HB.out HG.out⟩
    have hw : wrap64 ((j : Int) + 1) = (j : Int) + 1 := w64 (by omega) (by omega)
    by_cases h2 : k2 = (j : Int) + 1
    case neg =>
      have hR := resF_no hlt hye.out HF.out (fun h => h2 h.2)
      have h2' : (k2 != (j : Int) + 1) = true := by rw [bne_iff_ne]; exact h2
      clear b60 b61 b62 b63 h2
      go_wp2_with (first
        | (simp only [hw, h2']; done)
        | (go_at_call 83; refine (cell_spec k0 k1 k2 k3 true _ hcb).mono ?_; rintro e w5 ⟨rfl, hb⟩; replace B2 := zA (blk_below B2.out hb); replace HB := zA (bel HB.out hb); clear hb b20 b21 b22 b23 cf0 cf1 cf2 cf3 e0 e1 e2 e3; obtain ⟨b20, b21, b22, b23⟩ := keep4 B2.out; have cf0 := blk_frozen B2.out 0; have cf1 := blk_frozen B2.out 1; have cf2 := blk_frozen B2.out 2; have cf3 := blk_frozen B2.out 3; obtain ⟨ad3, ee, e0, e1, e2, e3⟩ := elemC HM.out HB.out hlt hye.out; cases ee))
      refine bodyPost_ret (results_ct rfl _ _ g2 31 #[.slice none 0 0, .slice none 0 0, .int .i64 0, .int .i64 0] (0, 0) _ rfl (put4_blk B2.out) Try.underlying31 rfl (by kernel_rfl)) rfl ?_
      rw [HRD.out, hR]
      exact ⟨_, _, rfl, Kd.R_nil _ _ _ _ _, Kd.S_nil _ _ _ _ _, put4_below HB.out HG.out⟩
    have h2' : (k2 != (j : Int) + 1) = false := by rw [bne_eq_false_iff_eq]; exact h2
    have HN := zA (res_step HX.out.1 HX.out.2 hcb h2)
    have HF' := zA (resF_yes hlt hye.out HF.out ⟨hcb, h2⟩)
    clear HF h2
    go_upto_region 9 with (first
      | (simp only [hw, h2']; done)
      | (go_at_call 83; refine (cell_spec k0 k1 k2 k3 true _ hcb).mono ?_; rintro e w5 ⟨rfl, hb⟩; replace B2 := zA (blk_below B2.out hb); replace B6 := zA (blk_below B6.out hb); replace R0 := zA (Kd.R_below R0.out hb); replace S0 := zA (Kd.S_below S0.out hb); replace HB := zA (bel HB.out hb); clear hb b20 b21 b22 b23 cf0 cf1 cf2 cf3 e0 e1 e2 e3 b60 b61 b62 b63; obtain ⟨ad3, ee, e0, e1, e2, e3⟩ := elemC HM.out HB.out hlt hye.out; cases ee))
    obtain ⟨Y, hY⟩ : ∃ Y : Tre, chT x ⟨k0, k1, k2, k3⟩ = (Y, true) := ⟨_, HN.out.1⟩
    have HY : Aside0 (trB Y = true ∧ Y.f2 = ((j + 1 : Nat) : Int)) := ⟨by have h := HN.out.2; rw [hY] at h; exact ⟨h.1, by rw [h.2.1]; omega⟩⟩
    have HF2 : Aside0 (resF (l.drop (j + 1)) ((j + 1 : Nat) : Int) Y = R) := ⟨by have h := HF'.out; rw [hY] at h; exact h⟩
    have CC := fun (V : World) (A' B' : Option Addr) (c' d' : Nat) h => change_spec A' B' c' d' x k0 k1 k2 k3 V h (sm_right HX.out.1)
    rw [hY] at CC
    replace CC := zA CC
    clear HN HF' hY h2' hcb hw
    have E0 := zA e0
    have E1 := zA e1
    have E2 := zA e2
    have E3 := zA e3
    clear e0 e1 e2 e3
    refine start_ (n := 10) (S := fun w' => w'.cell? ⟨g, 0, none⟩ = some (.slice A7 x.f0.length c7) ∧ w'.cell? ⟨g, 1, none⟩ = some (.slice B7 x.f1.length d7) ∧ w'.cell? ⟨g, 2, none⟩ = some (.int .i64 x.f2) ∧ w'.cell? ⟨g, 3, none⟩ = some (.int .i64 x.f3) ∧ w'.cell? (ad2.add (j * 4)) = some (.string k0) ∧ w'.cell? ⟨(ad2.add (j * 4)).block, (ad2.add (j * 4)).off + 1, none⟩ = some (.string k1) ∧ w'.cell? ⟨(ad2.add (j * 4)).block, (ad2.add (j * 4)).off + 2, none⟩ = some (.int .i64 k2) ∧ w'.cell? ⟨(ad2.add (j * 4)).block, (ad2.add (j * 4)).off + 3, none⟩ = some (.bool k3)) (ds := [9]) #[false, false, false, false, false, false, false, false, false, false] (by kernel_rfl) rfl rfl ⟨(blk_cell B6.out 0).trans rfl, (blk_cell B6.out 1).trans rfl, (blk_cell B6.out 2).trans rfl, (blk_cell B6.out 3).trans rfl, E0.out, E1.out, E2.out, E3.out⟩ (fun hHeld => ?_)
    have hb : Below w5.heap.size w5 w5.drew := below_drew (Below.refl _ _)
    replace B2 := zA (blk_below B2.out hb)
    replace B6 := zA (blk_below B6.out hb)
    replace R0 := zA (Kd.R_below R0.out hb)
    replace S0 := zA (Kd.S_below S0.out hb)
    replace HB := zA (bel HB.out hb)
    replace E0 := zA (cellU E0.out hb)
    replace E1 := zA (cellU E1.out hb)
    replace E2 := zA (cellU E2.out hb)
    replace E3 := zA (cellU E3.out hb)
    clear hb
    generalize w5.drew = w7 at B2 B6 R0 S0 HB E0 E1 E2 E3 hHeld ⊢
    refine take_ (i := 0) (N := some 38) (v := ?_) (a' := ?_) #[true, false, false, false, false, false, false, false, false, false] rfl rfl (by kernel_rfl) (fun _ _ _ h => h) (Or.inl ⟨by rfl, ?_⟩) hHeld ?_ ?_
    rotate_left
    · rintro w' ⟨s0, s1, s2, s3, s4, s5, s6, s7⟩
      go_simp
      with_reducible rfl
    rotate_left
    · simp only [Act.put, sT_, s0_, sS_, i64_w, i32_w]
      rfl
    refine pure_ (i := 1) (N := some 39) (v := ?_) (a' := ?_) #[true, true, false, false, false, false, false, false, false, false] rfl rfl (by kernel_rfl) (fun _ _ _ h => h) (Or.inl ⟨by rfl, ?_⟩) ?_ ?_
    rotate_left
    · intro w'
      go_simp
      with_reducible rfl
    rotate_left
    · simp only [Act.put, sT_, s0_, sS_, i64_w, i32_w]
      rfl
    refine pure_ (i := 2) (N := some 40) (v := ?_) (a' := ?_) #[true, true, true, false, false, false, false, false, false, false] rfl rfl (by kernel_rfl) (fun _ _ _ h => h) (Or.inl ⟨by rfl, ?_⟩) ?_ ?_
    rotate_left
    · intro w'
      go_simp
      with_reducible rfl
    rotate_left
    · simp only [Act.put, sT_, s0_, sS_, i64_w, i32_w]
      rfl
    refine pure_ (i := 3) (N := some 41) (v := ?_) (a' := ?_) #[true, true, true, true, false, false, false, false, false, false] rfl rfl (by kernel_rfl) (fun _ _ _ h => h) (Or.inl ⟨by rfl, ?_⟩) ?_ ?_
    rotate_left
    · intro w'
      go_simp
      with_reducible rfl
    rotate_left
    · simp only [Act.put, sT_, s0_, sS_, i64_w, i32_w]
      rfl
    refine take_ (i := 4) (N := some 42) (v := ?_) (a' := ?_) #[true, true, true, true, true, false, false, false, false, false] rfl rfl (by kernel_rfl) (fun _ _ _ h => h) (Or.inl ⟨by rfl, ?_⟩) hHeld ?_ ?_
    rotate_left
    · rintro w' ⟨s0, s1, s2, s3, s4, s5, s6, s7⟩
      go_simp
      with_reducible rfl
    rotate_left
    · simp only [Act.put, sT_, s0_, sS_, i64_w, i32_w]
      rfl
    refine one_ (i := 5) (N := some 43) #[true, true, true, true, true, true, false, false, false, false] rfl rfl (by kernel_rfl) (by decide) (fun K hK => ?_)
    refine goes_ Try.func84 (by kernel_rfl) rfl #[.agg #[.slice A7 x.f0.length c7, .slice B7 x.f1.length d7, .int .i64 x.f2, .int .i64 x.f3], .agg #[.string k0, .string k1, .int .i64 k2, .bool k3]] (by rfl) rfl rfl (by (try simp only [List.map_toArray, List.map_cons, List.map_nil]); first | done | rfl) ?_
    refine (CC.out _ A7 B7 c7 d7 ⟨⟨(Kd.R_reads' R0.out).2.1, (Kd.R_reads' R0.out).2.2⟩, (Kd.S_reads' S0.out).2.1, (Kd.S_reads' S0.out).2.2⟩).mono ?_
    rintro e w8 ⟨v0', v1', rfl, hR, hS, hb⟩
    refine ⟨_, rfl, ?_⟩
    have HL := zA (And.intro (blk_lt B6.out) (blk_lt B2.out))
    have HW := zA HB.out.size
    replace B2 := zA (blk_below B2.out hb)
    replace B6 := zA (blk_below B6.out hb)
    replace HB := zA (bel HB.out hb)
    have R1 := zA (Kd.R_lower (Kd.R_mono (Kd.R_bound hR) (ok' := fun k => k ≠ g ∧ g2 < k) (fun k h => ⟨Nat.ne_of_gt (Nat.lt_of_lt_of_le HL.out.1 h.2.1), Nat.lt_of_lt_of_le HL.out.2 h.2.1⟩)) HW.out)
    have S1 := zA (Kd.S_lower (Kd.S_mono (Kd.S_bound hS) (ok' := fun k => some k ≠ v0'.ownBlock ∧ k ≠ g ∧ g2 < k) (fun k h => ⟨h.1, Nat.ne_of_gt (Nat.lt_of_lt_of_le HL.out.1 h.2.1), Nat.lt_of_lt_of_le HL.out.2 h.2.1⟩)) HW.out)
    replace E0 := zA (cellU E0.out hb)
    replace E1 := zA (cellU E1.out hb)
    replace E2 := zA (cellU E2.out hb)
    replace E3 := zA (cellU E3.out hb)
    clear hb hR hS R0 S0 HL HW
    obtain ⟨A8, c8, rfl⟩ := Kd.R_slice R1.out
    obtain ⟨B8, d8, rfl⟩ := Kd.S_slice S1.out
    refine hK.out _ _ ⟨(blk_cell B6.out 0).trans rfl, (blk_cell B6.out 1).trans rfl, (blk_cell B6.out 2).trans rfl, (blk_cell B6.out 3).trans rfl, E0.out, E1.out, E2.out, E3.out⟩ (fun hHeld => ?_)
    clear hK K
    refine norm_ (a' := ?_) ?_ ?_
    rotate_left
    · show Act.put _ (some 43) _ = _
      simp only [Act.put, sT_, s0_, sS_, i64_w, i32_w]
      rfl
    refine pure_ (i := 6) (N := some 37) (v := ?_) (a' := ?_) #[true, true, true, true, true, true, true, false, false, false] rfl rfl (by kernel_rfl) (fun _ _ _ h => h) (Or.inl ⟨by rfl, ?_⟩) ?_ ?_
    rotate_left
    · intro w'
      go_simp
      with_reducible rfl
    rotate_left
    · simp only [Act.put, sT_, s0_, sS_, i64_w, i32_w]
      rfl
    refine pure_ (i := 7) (N := some 44) (v := ?_) (a' := ?_) #[true, true, true, true, true, true, true, true, false, false] rfl rfl (by kernel_rfl) (fun _ _ _ h => h) (Or.inl ⟨by rfl, ?_⟩) ?_ ?_
    rotate_left
    · intro w'
      go_simp
      with_reducible rfl
    rotate_left
    · simp only [Act.put, sT_, s0_, sS_, i64_w, i32_w]
      rfl
    refine pure_ (i := 8) (N := some 45) (v := ?_) (a' := ?_) #[true, true, true, true, true, true, true, true, true, false] rfl rfl (by kernel_rfl) (fun _ _ _ h => h) (Or.inl ⟨by rfl, ?_⟩) ?_ ?_
    rotate_left
    · intro w'
      go_simp
      with_reducible rfl
    rotate_left
    · simp only [Act.put, sT_, s0_, sS_, i64_w, i32_w]
      rfl
    obtain ⟨b60, b61, b62, b63⟩ := keep4 B6.out
    have cf0 := blk_frozen B6.out 0
    have cf1 := blk_frozen B6.out 1
    have cf2 := blk_frozen B6.out 2
    have cf3 := blk_frozen B6.out 3
    refine last_ (i := 9) (N := none) #[true, true, true, true, true, true, true, true, true, true] rfl rfl (by kernel_rfl) (by decide) (fun K hK => ?_)
    refine skip_ (w1 := ?_) (by rfl) rfl ?_ ?_
    rotate_left
    · go_simp
      rfl
    refine hK.out _ _ ?_
    clear hK K
    refine done_ (by kernel_rfl) ?_
    replace R1 := zA (put4_R (a := .slice A8 Y.f0.length c8) (b := .slice B8 Y.f1.length d8) (x := Y.f2) (y := Y.f3) B6.out R1.out)
    replace S1 := zA (put4_S (a := .slice A8 Y.f0.length c8) (b := .slice B8 Y.f1.length d8) (x := Y.f2) (y := Y.f3) B6.out S1.out)
    replace B2 := zA (put4_far (g := g) (a := .slice A8 Y.f0.length c8) (b := .slice B8 Y.f1.length d8) (x := Y.f2) (y := Y.f3) B2.out (Nat.ne_of_lt HGG.out.2))
    replace HB := zA (put4_below (a := .slice A8 Y.f0.length c8) (b := .slice B8 Y.f1.length d8) (x := Y.f2) (y := Y.f3) HB.out HGG.out.1)
    replace B6 := zA (put4_blk (a := .slice A8 Y.f0.length c8) (b := .slice B8 Y.f1.length d8) (x := Y.f2) (y := Y.f3) B6.out)
    have e4 : put4 w8 g (.slice A8 Y.f0.length c8) (.slice B8 Y.f1.length d8) Y.f2 Y.f3 = ((((w8.setCell ⟨g, 0, none⟩ (.slice A8 Y.f0.length c8)).setCell ⟨g, 1, none⟩ (.slice B8 Y.f1.length d8)).setCell ⟨g, 2, none⟩ (.int .i64 Y.f2)).setCell ⟨g, 3, none⟩ (.int .i64 Y.f3)) := rfl
    rw [← e4]
    clear e4 b60 b61 b62 b63 cf0 cf1 cf2 cf3 E0 E1 E2 E3
    generalize put4 w8 g (.slice A8 Y.f0.length c8) (.slice B8 Y.f1.length d8) Y.f2 Y.f3 = w9 at B2 B6 R1 S1 HB ⊢
    have hw : wrap64 ((j : Int) + 1) = (j : Int) + 1 := w64 (by omega) (by omega)
    go_wp2
    go_roundg (l.length - j)
    case measure => omega
    case rel => exact ⟨j + 1, Y, _, _, ⟨by omega, by omega⟩, by go_num, HF2, HY, ⟨by first | exact B6.out | exact blk_below B6.out (pw_below_drewN (Below.refl _ _) _)⟩, ⟨by first | exact B2.out | exact blk_below B2.out (pw_below_drewN (Below.refl _ _) _)⟩, ⟨by first | exact R1.out | exact Kd.R_below R1.out (pw_below_drewN (Below.refl _ _) _)⟩, ⟨by first | exact S1.out | exact Kd.S_below S1.out (pw_below_drewN (Below.refl _ _) _)⟩, ⟨by first | exact HB.out | exact pw_below_drewN HB.out _⟩⟩
end Go.Proofs.Ythffllegmkolgaa.TreeK
