/- The law's 'changed', called: the tree that drawn changes make. -/
import Derived.Test.YthffllegmkolgaaT11DrawPure
import Derived.Test.YthffllegmkolgaaT11PutP
import Derived.Test.YthffllegmkolgaaT11RestS
import Derived.Test.YthffllegmkolgaaT11QTreex18
namespace Go.Proofs.Ythffllegmkolgaa.TreeK
open Go.RowKit Go.Proofs.YthffllegmkolgaaW.PrintWords Go.Proofs.YthffllegmkolgaaW.PrintLast Go.Proofs.YthffllegmkolgaaW.PrintMore Go.Proofs.Ythffllegmkolgaa.QTree Go.Proofs.Ythffllegmkolgaa.EvKit Go.Proofs.Ythffllegmkolgaa.GTree
set_option linter.unusedSimpArgs false
set_option linter.unusedVariables false
set_option linter.unnecessarySimpa false
theorem new_impl (q : Int) (W : World) (hq : 1 ≤ q ∧ q ≤ 50) : Calls Try.prog 69 #[.int .i64 q] W fun e w' => ∃ A c B d, e = .returned (.agg #[.slice A 0 c, .slice B 0 d, .int .i64 0, .int .i64 q]) ∧ KC.R TC w' W.heap.size (fun _ => True) (.slice A 0 c) [] ∧ Kd.S KL TL w' W.heap.size (fun k => some k ≠ (Value.slice A 0 c).ownBlock) (.slice B 0 d) [] ∧ Below W.heap.size W w' := by
  refine (impl_NewTree.calls q [] [] 0 q W ?_).mono ?_
  · unfold impl_NewTree.f
    rw [within_f, decide_eq_true hq]; rfl
  · rintro e w' ⟨v0, v1, rfl, hR, hS, hb⟩
    obtain ⟨A, c, rfl⟩ := Kd.R_slice hR
    obtain ⟨B, d, rfl⟩ := Kd.S_slice hS
    exact ⟨A, c, B, d, rfl, hR, hS, hb⟩
set_option maxHeartbeats 1600000 in
set_option maxRecDepth 100000 in
theorem changed_call (A : Option Addr) (c : Nat) (most : Int) (l : List Cel) (w : World) (hlc : l.length ≤ c) (h : KC.C w A l.length l) (hm : 1 ≤ most ∧ most ≤ 50) (hl : l.length ≤ 75) (hd : ∀ x ∈ l, drawnC x) :
    Calls Try.prog 24 #[.int .i64 most, .slice A l.length c] w fun e w' => ∃ v0 v1 : Value, e = .returned (.tuple #[.agg #[v0, v1, .int .i64 (bld most l l.length).f2, .int .i64 (bld most l l.length).f3], .bool true]) ∧ KC.R TC w' w.heap.size (fun _ => True) v0 (bld most l l.length).f0 ∧ Kd.S KL TL w' w.heap.size (fun k => some k ≠ v0.ownBlock) v1 (bld most l l.length).f1 ∧ Below w.heap.size w w' := by
  have HM := zA h
  have HD := zA hd
  have HQ := zA hm
  have HBF := zA (bld_facts hm (by omega) (fun x hx => drawn_ok (hd x hx)))
  have hmm : decide (most = most) = true := decide_eq_true rfl
  have hme : (most == most) = true := beq_self_eq_true most
  clear h hd hm
  go_enter Try.func24, Try.ntmps24
  go_upto_region 1 with (fail)
  have B2 := zA (blk_new w (.cells #[.slice none 0 0, .slice none 0 0, .int .i64 0, .int .i64 0] 31))
  have HB := zA (bel_alloc w (.cells #[.slice none 0 0, .slice none 0 0, .int .i64 0, .int .i64 0] 31))
  obtain ⟨g2, hg2⟩ : ∃ g2, g2 = w.heap.size := ⟨_, rfl⟩
  have HG := zA (Nat.le_of_eq hg2.symm)
  rw [← hg2] at B2 ⊢
  clear hg2
  generalize w.alloc (.cells #[.slice none 0 0, .slice none 0 0, .int .i64 0, .int .i64 0] 31) = W at B2 HB ⊢
  go_upto_region 2 with (go_at_call 69; refine (new_impl most _ HQ.out).mono ?_; rintro e w6 ⟨A0, c0, B0, d0, rfl, hR, hS, hb⟩; have HL2 := zA (blk_lt B2.out); replace B2 := zA (blk_below B2.out hb); have R0 := zA hR; have S0 := zA hS; have HW := zA hb.size; have HWB := zA HB.out.size; replace HB := zA (bel HB.out hb); clear hR hS hb)
  have B6 := zA (blk_new w6 (.cells #[.slice A0 0 c0, .slice B0 0 d0, .int .i64 0, .int .i64 most] 31))
  have hb := bel_alloc w6 (.cells #[.slice A0 0 c0, .slice B0 0 d0, .int .i64 0, .int .i64 most] 31)
  obtain ⟨g, hg⟩ : ∃ g, g = w6.heap.size := ⟨_, rfl⟩
  have HGG : Aside0 (w.heap.size ≤ g ∧ g2 < g) := ⟨by have h1 := HB.out.size; have h2 := blk_lt B2.out; rw [hg]; exact ⟨h1, h2⟩⟩
  replace B2 := zA (blk_below B2.out hb)
  replace HB := zA (bel HB.out hb)
  replace R0 := zA (Kd.R_below (Kd.R_lower (Kd.R_mono (Kd.R_bound R0.out) (ok' := fun k => k ≠ g ∧ g2 < k) (fun k h => ⟨by have := h.2.2.1; omega, Nat.lt_of_lt_of_le HL2.out h.2.1⟩)) HWB.out) hb)
  replace S0 := zA (Kd.S_below (Kd.S_lower (Kd.S_mono (Kd.S_bound S0.out) (ok' := fun k => some k ≠ (Value.slice A0 0 c0).ownBlock ∧ k ≠ g ∧ g2 < k) (fun k h => ⟨h.1, by have := h.2.2.1; omega, Nat.lt_of_lt_of_le HL2.out h.2.1⟩)) HWB.out) hb)
  rw [← hg] at B6 ⊢
  clear hb hg HW HWB HL2
  generalize w6.alloc (.cells #[.slice A0 0 c0, .slice B0 0 d0, .int .i64 0, .int .i64 most] 31) = W1 at B2 B6 HB R0 S0 ⊢
  obtain ⟨b60, b61, b62, b63⟩ := keep4 B6.out
  go_wp2
  go_loopg [7, 8] (l.length + 1) (fun kq v7 v8 wr => ∃ (j : Nat) (x : Tre) (v0 v1 : Value), (j + kq = l.length + 1 ∧ j ≤ l.length) ∧ v7 = .bool true ∧ v8 = .int .i64 (j : Int) ∧ Aside0 (x = bld most l j) ∧ Aside0 (blkT wr g v0 v1 x.f2 x.f3) ∧ Aside0 (blkT wr g2 (.slice none 0 0) (.slice none 0 0) 0 0) ∧ Aside0 (KC.R TC wr w.heap.size (fun k => k ≠ g ∧ g2 < k) v0 x.f0) ∧ Aside0 (Kd.S KL TL wr w.heap.size (fun k => some k ≠ v0.ownBlock ∧ k ≠ g ∧ g2 < k) v1 x.f1) ∧ Aside0 (Below w.heap.size w wr))
  case atStart => exact ⟨0, ⟨[], [], 0, most⟩, _, _, ⟨by omega, Nat.zero_le _⟩, by first | rfl | (rw [hmm]) | simp, rfl, ⟨rfl⟩, ⟨by first | exact B6.out | exact blk_below B6.out (pw_below_drewN (Below.refl _ _) _)⟩, ⟨by first | exact B2.out | exact blk_below B2.out (pw_below_drewN (Below.refl _ _) _)⟩, ⟨by first | exact R0.out | exact Kd.R_below R0.out (pw_below_drewN (Below.refl _ _) _)⟩, ⟨by first | exact S0.out | exact Kd.S_below S0.out (pw_below_drewN (Below.refl _ _) _)⟩, ⟨by first | exact HB.out | exact pw_below_drewN HB.out _⟩⟩
  case round =>
    clear B2 B6 HB R0 S0 b60 b61 b62 b63 hmm hme
    obtain ⟨j, x, v0, v1, hj, rfl, rfl, HX, B6, B2, R0, S0, HB⟩ := hrel
    obtain ⟨A7, c7, rfl⟩ := Kd.R_slice R0.out
    obtain ⟨B7, d7, rfl⟩ := Kd.S_slice S0.out
    obtain ⟨b60, b61, b62, b63⟩ := keep4 B6.out
    obtain ⟨b20, b21, b22, b23⟩ := keep4 B2.out; have cf0 := blk_frozen B2.out 0; have cf1 := blk_frozen B2.out 1; have cf2 := blk_frozen B2.out 2; have cf3 := blk_frozen B2.out 3
    by_cases hlt : j < l.length
    case neg =>
      obtain rfl : j = l.length := by omega
      clear HM
      go_wp2
      refine bodyPost_ret (results_ct rfl _ _ g2 31 #[.slice A7 x.f0.length c7, .slice B7 x.f1.length d7, .int .i64 x.f2, .int .i64 x.f3] (0, 0) _ rfl (put4_blk B2.out) Try.underlying31 rfl (by kernel_rfl)) rfl ?_
      rw [← HX.out]
      exact ⟨_, _, rfl, Kd.R_mono (put4_R B2.out R0.out) (fun _ _ => trivial), Kd.S_mono (put4_S B2.out S0.out) (fun k h => h.1), put4_below HB.out HG.out⟩
    clear b20 b21 b22 b23 cf0 cf1 cf2 cf3
    have HJ := zA (HBF.out j (by omega))
    have HT := zA ((HBF.out j (by omega)).2.2.2 hlt)
    rw [← HX.out] at HJ HT
    obtain ⟨⟨k0, k1, k2, k3⟩, hye⟩ : ∃ c : Cel, l[j] = c := ⟨_, rfl⟩
    have hgd : l.getD j zCel = ⟨k0, k1, k2, k3⟩ := by rw [List.getD_eq_getElem?_getD, List.getElem?_eq_getElem hlt, hye]; rfl
    have hdc := HD.out _ (List.getElem_mem hlt)
    rw [hye] at hdc
    have hk2 : k2 = 0 := hdc.2.2.1
    subst hk2
    rw [hgd] at HT
    obtain ⟨Y, hY⟩ : ∃ Y : Tre, Y = bld most l (j + 1) := ⟨_, rfl⟩
    rw [← hY] at HT
    have HYY := zA hY
    obtain ⟨ad2, ee, e0, e1, e2, e3⟩ := elemC HM.out HB.out hlt hye
    cases ee
    have SX := zA (sm_right HJ.out.1)
    have HTC : Aside0 (TreeC wr x A7 c7 B7 d7) := ⟨⟨⟨(Kd.R_reads' R0.out).2.1, (Kd.R_reads' R0.out).2.2⟩, (Kd.S_reads' S0.out).2.1, (Kd.S_reads' S0.out).2.2⟩⟩
    clear hye hgd hY HJ
    cases k3
    case true =>
      have hk1 : k1 = ⟨#[]⟩ := hdc.2.2.2 rfl
      subst hk1
      clear hdc
      have CC := fun (V : World) (hb : Below wr.heap.size wr V) => drop_impl A7 B7 c7 d7 x k0 V (HTC.out.below hb) SX.out
      rw [HT.out] at CC
      replace CC := zA CC
      go_upto_region 7 with (fail)
      have E0 := zA e0
      have E1 := zA e1
      clear e0 e1 e2 e3
      refine start_ (n := 12) (S := fun w' => w'.cell? ⟨g, 0, none⟩ = some (.slice A7 x.f0.length c7) ∧ w'.cell? ⟨g, 1, none⟩ = some (.slice B7 x.f1.length d7) ∧ w'.cell? ⟨g, 2, none⟩ = some (.int .i64 x.f2) ∧ w'.cell? ⟨g, 3, none⟩ = some (.int .i64 x.f3) ∧ w'.cell? (ad2.add (j * 4)) = some (.string k0) ∧ w'.cell? ⟨(ad2.add (j * 4)).block, (ad2.add (j * 4)).off + 1, none⟩ = some (.string ⟨#[]⟩)) (ds := [10]) #[false, false, false, false, false, false, false, false, false, false, false, false] (by kernel_rfl) rfl rfl ⟨(blk_cell B6.out 0).trans rfl, (blk_cell B6.out 1).trans rfl, (blk_cell B6.out 2).trans rfl, (blk_cell B6.out 3).trans rfl, E0.out, E1.out⟩ (fun hHeld => ?_)
      have hb : Below wr.heap.size wr wr.drew := below_drew (Below.refl _ _)
      replace B2 := zA (blk_below B2.out hb)
      replace B6 := zA (blk_below B6.out hb)
      replace HB := zA (bel HB.out hb)
      replace E0 := zA (cellU E0.out hb)
      replace E1 := zA (cellU E1.out hb)
      have HBD := zA hb
      clear hb R0 S0
      generalize wr.drew = w7 at B2 B6 HB E0 E1 HBD hHeld ⊢
      refine take_ (i := 0) (N := some 30) (v := ?_) (a' := ?_) #[true, false, false, false, false, false, false, false, false, false, false, false] rfl rfl (by kernel_rfl) (fun _ _ _ h => h) (Or.inl ⟨by rfl, ?_⟩) hHeld ?_ ?_
      rotate_left
      · rintro w' ⟨s0, s1, s2, s3, s4, s5⟩
        go_simp
        with_reducible rfl
      rotate_left
      · simp only [Act.put, sT_, s0_, sS_, i64_w, i32_w]
        rfl
      refine pure_ (i := 1) (N := some 31) (v := ?_) (a' := ?_) #[true, true, false, false, false, false, false, false, false, false, false, false] rfl rfl (by kernel_rfl) (fun _ _ _ h => h) (Or.inl ⟨by rfl, ?_⟩) ?_ ?_
      rotate_left
      · intro w'
        go_simp
        with_reducible rfl
      rotate_left
      · simp only [Act.put, sT_, s0_, sS_, i64_w, i32_w]
        rfl
      refine pure_ (i := 2) (N := some 32) (v := ?_) (a' := ?_) #[true, true, true, false, false, false, false, false, false, false, false, false] rfl rfl (by kernel_rfl) (fun _ _ _ h => h) (Or.inl ⟨by rfl, ?_⟩) ?_ ?_
      rotate_left
      · intro w'
        go_simp
        with_reducible rfl
      rotate_left
      · simp only [Act.put, sT_, s0_, sS_, i64_w, i32_w]
        rfl
      refine pure_ (i := 3) (N := some 33) (v := ?_) (a' := ?_) #[true, true, true, true, false, false, false, false, false, false, false, false] rfl rfl (by kernel_rfl) (fun _ _ _ h => h) (Or.inl ⟨by rfl, ?_⟩) ?_ ?_
      rotate_left
      · intro w'
        go_simp
        with_reducible rfl
      rotate_left
      · simp only [Act.put, sT_, s0_, sS_, i64_w, i32_w]
        rfl
      refine pure_ (i := 4) (N := some 34) (v := ?_) (a' := ?_) #[true, true, true, true, true, false, false, false, false, false, false, false] rfl rfl (by kernel_rfl) (fun _ _ _ h => h) (Or.inl ⟨by rfl, ?_⟩) ?_ ?_
      rotate_left
      · intro w'
        go_simp
        with_reducible rfl
      rotate_left
      · simp only [Act.put, sT_, s0_, sS_, i64_w, i32_w]
        rfl
      refine take_ (i := 5) (N := some 35) (v := ?_) (a' := ?_) #[true, true, true, true, true, true, false, false, false, false, false, false] rfl rfl (by kernel_rfl) (fun _ _ _ h => h) (Or.inl ⟨by rfl, ?_⟩) hHeld ?_ ?_
      rotate_left
      · rintro w' ⟨s0, s1, s2, s3, s4, s5⟩
        go_simp
        with_reducible rfl
      rotate_left
      · simp only [Act.put, sT_, s0_, sS_, i64_w, i32_w]
        rfl
      refine one_ (i := 6) (N := some 36) #[true, true, true, true, true, true, true, false, false, false, false, false] rfl rfl (by kernel_rfl) (by decide) (fun K hK => ?_)
      refine goes_ Try.func43 (by kernel_rfl) rfl #[.agg #[.slice A7 x.f0.length c7, .slice B7 x.f1.length d7, .int .i64 x.f2, .int .i64 x.f3], .string k0] (by rfl) rfl rfl (by (try simp only [List.map_toArray, List.map_cons, List.map_nil]); first | done | rfl) ?_
      refine (CC.out _ HBD.out).mono ?_
      rintro e w8 ⟨v0', v1', rfl, hR, hS, hb⟩
      refine ⟨_, rfl, ?_⟩
      have HL := zA (And.intro (blk_lt B6.out) (blk_lt B2.out))
      have HW := zA HB.out.size
      replace B2 := zA (blk_below B2.out hb)
      replace B6 := zA (blk_below B6.out hb)
      replace HB := zA (bel HB.out hb)
      have R1 := zA (Kd.R_lower (Kd.R_mono (Kd.R_bound hR) (ok' := fun k => k ≠ g ∧ g2 < k) (fun k h => ⟨Nat.ne_of_gt (Nat.lt_of_lt_of_le HL.out.1 h.2.1), Nat.lt_of_lt_of_le HL.out.2 h.2.1⟩)) HW.out)
      have S1 := zA (Kd.S_lower (Kd.S_mono (Kd.S_bound hS) (ok' := fun k => some k ≠ v0'.ownBlock ∧ k ≠ g ∧ g2 < k) (fun k h => ⟨h.1, Nat.ne_of_gt (Nat.lt_of_lt_of_le HL.out.1 h.2.1), Nat.lt_of_lt_of_le HL.out.2 h.2.1⟩)) HW.out)
      replace E0 := zA (cellU E0.out hb)
      replace E1 := zA (cellU E1.out hb)
      clear hb hR hS HL HW
      obtain ⟨A8, c8, rfl⟩ := Kd.R_slice R1.out
      obtain ⟨B8, d8, rfl⟩ := Kd.S_slice S1.out
      refine hK.out _ _ ⟨(blk_cell B6.out 0).trans rfl, (blk_cell B6.out 1).trans rfl, (blk_cell B6.out 2).trans rfl, (blk_cell B6.out 3).trans rfl, E0.out, E1.out⟩ (fun hHeld => ?_)
      clear hK K
      refine norm_ (a' := ?_) ?_ ?_
      rotate_left
      · show Act.put _ (some 36) _ = _
        simp only [Act.put, sT_, s0_, sS_, i64_w, i32_w]
        rfl
      refine pure_ (i := 7) (N := some 29) (v := ?_) (a' := ?_) #[true, true, true, true, true, true, true, true, false, false, false, false] rfl rfl (by kernel_rfl) (fun _ _ _ h => h) (Or.inl ⟨by rfl, ?_⟩) ?_ ?_
      rotate_left
      · intro w'
        go_simp
        with_reducible rfl
      rotate_left
      · simp only [Act.put, sT_, s0_, sS_, i64_w, i32_w]
        rfl
      refine pure_ (i := 8) (N := some 37) (v := ?_) (a' := ?_) #[true, true, true, true, true, true, true, true, true, false, false, false] rfl rfl (by kernel_rfl) (fun _ _ _ h => h) (Or.inl ⟨by rfl, ?_⟩) ?_ ?_
      rotate_left
      · intro w'
        go_simp
        with_reducible rfl
      rotate_left
      · simp only [Act.put, sT_, s0_, sS_, i64_w, i32_w]
        rfl
      refine pure_ (i := 9) (N := some 38) (v := ?_) (a' := ?_) #[true, true, true, true, true, true, true, true, true, true, false, false] rfl rfl (by kernel_rfl) (fun _ _ _ h => h) (Or.inl ⟨by rfl, ?_⟩) ?_ ?_
      rotate_left
      · intro w'
        go_simp
        with_reducible rfl
      rotate_left
      · simp only [Act.put, sT_, s0_, sS_, i64_w, i32_w]
        rfl
      obtain ⟨b60, b61, b62, b63⟩ := keep4 B6.out
      have cf0 := blk_frozen B6.out 0
      have cf1 := blk_frozen B6.out 1
      have cf2 := blk_frozen B6.out 2
      have cf3 := blk_frozen B6.out 3
      refine last_ (i := 10) (N := none) #[true, true, true, true, true, true, true, true, true, true, true, false] rfl rfl (by kernel_rfl) (by decide) (fun K hK => ?_)
      refine skip_ (w1 := ?_) (by rfl) rfl ?_ ?_
      rotate_left
      · go_simp
        rfl
      refine hK.out _ _ ?_
      clear hK K
      refine pure_ (i := 11) (N := some 7) (v := ?_) (a' := ?_) #[true, true, true, true, true, true, true, true, true, true, true, true] rfl rfl (by kernel_rfl) (fun _ _ _ h => h) (Or.inl ⟨by rfl, ?_⟩) ?_ ?_
      rotate_left
      · intro w'
        go_simp
        with_reducible rfl
      rotate_left
      · simp only [Act.put, sT_, s0_, sS_, i64_w, i32_w]
        rfl
      refine done_ (by kernel_rfl) ?_
      replace R1 := zA (put4_R (a := .slice A8 Y.f0.length c8) (b := .slice B8 Y.f1.length d8) (x := Y.f2) (y := Y.f3) B6.out R1.out)
      replace S1 := zA (put4_S (a := .slice A8 Y.f0.length c8) (b := .slice B8 Y.f1.length d8) (x := Y.f2) (y := Y.f3) B6.out S1.out)
      replace B2 := zA (put4_far (g := g) (a := .slice A8 Y.f0.length c8) (b := .slice B8 Y.f1.length d8) (x := Y.f2) (y := Y.f3) B2.out (Nat.ne_of_lt HGG.out.2))
      replace HB := zA (put4_below (a := .slice A8 Y.f0.length c8) (b := .slice B8 Y.f1.length d8) (x := Y.f2) (y := Y.f3) HB.out HGG.out.1)
      replace B6 := zA (put4_blk (a := .slice A8 Y.f0.length c8) (b := .slice B8 Y.f1.length d8) (x := Y.f2) (y := Y.f3) B6.out)
      have e4 : put4 w8 g (.slice A8 Y.f0.length c8) (.slice B8 Y.f1.length d8) Y.f2 Y.f3 = ((((w8.setCell ⟨g, 0, none⟩ (.slice A8 Y.f0.length c8)).setCell ⟨g, 1, none⟩ (.slice B8 Y.f1.length d8)).setCell ⟨g, 2, none⟩ (.int .i64 Y.f2)).setCell ⟨g, 3, none⟩ (.int .i64 Y.f3)) := rfl
      rw [← e4]
      clear e4 b60 b61 b62 b63 cf0 cf1 cf2 cf3 E0 E1
      generalize put4 w8 g (.slice A8 Y.f0.length c8) (.slice B8 Y.f1.length d8) Y.f2 Y.f3 = w9 at B2 B6 R1 S1 HB ⊢
      have hw : wrap64 ((j : Int) + 1) = (j : Int) + 1 := w64 (by omega) (by omega)
      go_wp2
      go_roundg (l.length - j)
      case measure => omega
      case rel => exact ⟨j + 1, Y, _, _, ⟨by omega, by omega⟩, rfl, by go_num, HYY, ⟨by first | exact B6.out | exact blk_below B6.out (pw_below_drewN (Below.refl _ _) _)⟩, ⟨by first | exact B2.out | exact blk_below B2.out (pw_below_drewN (Below.refl _ _) _)⟩, ⟨by first | exact R1.out | exact Kd.R_below R1.out (pw_below_drewN (Below.refl _ _) _)⟩, ⟨by first | exact S1.out | exact Kd.S_below S1.out (pw_below_drewN (Below.refl _ _) _)⟩, ⟨by first | exact HB.out | exact pw_below_drewN HB.out _⟩⟩
    case false =>
      clear hdc
      have CC := fun (V : World) (hb : Below wr.heap.size wr V) => put_impl A7 B7 c7 d7 x k0 k1 V (HTC.out.below hb) SX.out
      rw [HT.out] at CC
      replace CC := zA CC
      go_upto_region 8 with (fail)
      have E0 := zA e0
      have E1 := zA e1
      clear e0 e1 e2 e3
      refine start_ (n := 17) (S := fun w' => w'.cell? ⟨g, 0, none⟩ = some (.slice A7 x.f0.length c7) ∧ w'.cell? ⟨g, 1, none⟩ = some (.slice B7 x.f1.length d7) ∧ w'.cell? ⟨g, 2, none⟩ = some (.int .i64 x.f2) ∧ w'.cell? ⟨g, 3, none⟩ = some (.int .i64 x.f3) ∧ w'.cell? (ad2.add (j * 4)) = some (.string k0) ∧ w'.cell? ⟨(ad2.add (j * 4)).block, (ad2.add (j * 4)).off + 1, none⟩ = some (.string k1)) (ds := [15]) #[false, false, false, false, false, false, false, false, false, false, false, false, false, false, false, false, false] (by kernel_rfl) rfl rfl ⟨(blk_cell B6.out 0).trans rfl, (blk_cell B6.out 1).trans rfl, (blk_cell B6.out 2).trans rfl, (blk_cell B6.out 3).trans rfl, E0.out, E1.out⟩ (fun hHeld => ?_)
      have hb : Below wr.heap.size wr wr.drew := below_drew (Below.refl _ _)
      replace B2 := zA (blk_below B2.out hb)
      replace B6 := zA (blk_below B6.out hb)
      replace HB := zA (bel HB.out hb)
      replace E0 := zA (cellU E0.out hb)
      replace E1 := zA (cellU E1.out hb)
      have HBD := zA hb
      clear hb R0 S0
      generalize wr.drew = w7 at B2 B6 HB E0 E1 HBD hHeld ⊢
      refine take_ (i := 0) (N := some 40) (v := ?_) (a' := ?_) #[true, false, false, false, false, false, false, false, false, false, false, false, false, false, false, false, false] rfl rfl (by kernel_rfl) (fun _ _ _ h => h) (Or.inl ⟨by rfl, ?_⟩) hHeld ?_ ?_
      rotate_left
      · rintro w' ⟨s0, s1, s2, s3, s4, s5⟩
        go_simp
        with_reducible rfl
      rotate_left
      · simp only [Act.put, sT_, s0_, sS_, i64_w, i32_w]
        rfl
      refine pure_ (i := 1) (N := some 41) (v := ?_) (a' := ?_) #[true, true, false, false, false, false, false, false, false, false, false, false, false, false, false, false, false] rfl rfl (by kernel_rfl) (fun _ _ _ h => h) (Or.inl ⟨by rfl, ?_⟩) ?_ ?_
      rotate_left
      · intro w'
        go_simp
        with_reducible rfl
      rotate_left
      · simp only [Act.put, sT_, s0_, sS_, i64_w, i32_w]
        rfl
      refine pure_ (i := 2) (N := some 42) (v := ?_) (a' := ?_) #[true, true, true, false, false, false, false, false, false, false, false, false, false, false, false, false, false] rfl rfl (by kernel_rfl) (fun _ _ _ h => h) (Or.inl ⟨by rfl, ?_⟩) ?_ ?_
      rotate_left
      · intro w'
        go_simp
        with_reducible rfl
      rotate_left
      · simp only [Act.put, sT_, s0_, sS_, i64_w, i32_w]
        rfl
      refine pure_ (i := 3) (N := some 43) (v := ?_) (a' := ?_) #[true, true, true, true, false, false, false, false, false, false, false, false, false, false, false, false, false] rfl rfl (by kernel_rfl) (fun _ _ _ h => h) (Or.inl ⟨by rfl, ?_⟩) ?_ ?_
      rotate_left
      · intro w'
        go_simp
        with_reducible rfl
      rotate_left
      · simp only [Act.put, sT_, s0_, sS_, i64_w, i32_w]
        rfl
      refine pure_ (i := 4) (N := some 44) (v := ?_) (a' := ?_) #[true, true, true, true, true, false, false, false, false, false, false, false, false, false, false, false, false] rfl rfl (by kernel_rfl) (fun _ _ _ h => h) (Or.inl ⟨by rfl, ?_⟩) ?_ ?_
      rotate_left
      · intro w'
        go_simp
        with_reducible rfl
      rotate_left
      · simp only [Act.put, sT_, s0_, sS_, i64_w, i32_w]
        rfl
      refine take_ (i := 5) (N := some 45) (v := ?_) (a' := ?_) #[true, true, true, true, true, true, false, false, false, false, false, false, false, false, false, false, false] rfl rfl (by kernel_rfl) (fun _ _ _ h => h) (Or.inl ⟨by rfl, ?_⟩) hHeld ?_ ?_
      rotate_left
      · rintro w' ⟨s0, s1, s2, s3, s4, s5⟩
        go_simp
        with_reducible rfl
      rotate_left
      · simp only [Act.put, sT_, s0_, sS_, i64_w, i32_w]
        rfl
      refine pure_ (i := 6) (N := some 46) (v := ?_) (a' := ?_) #[true, true, true, true, true, true, true, false, false, false, false, false, false, false, false, false, false] rfl rfl (by kernel_rfl) (fun _ _ _ h => h) (Or.inl ⟨by rfl, ?_⟩) ?_ ?_
      rotate_left
      · intro w'
        go_simp
        with_reducible rfl
      rotate_left
      · simp only [Act.put, sT_, s0_, sS_, i64_w, i32_w]
        rfl
      refine pure_ (i := 7) (N := some 47) (v := ?_) (a' := ?_) #[true, true, true, true, true, true, true, true, false, false, false, false, false, false, false, false, false] rfl rfl (by kernel_rfl) (fun _ _ _ h => h) (Or.inl ⟨by rfl, ?_⟩) ?_ ?_
      rotate_left
      · intro w'
        go_simp
        with_reducible rfl
      rotate_left
      · simp only [Act.put, sT_, s0_, sS_, i64_w, i32_w]
        rfl
      refine pure_ (i := 8) (N := some 48) (v := ?_) (a' := ?_) #[true, true, true, true, true, true, true, true, true, false, false, false, false, false, false, false, false] rfl rfl (by kernel_rfl) (fun _ _ _ h => h) (Or.inl ⟨by rfl, ?_⟩) ?_ ?_
      rotate_left
      · intro w'
        go_simp
        with_reducible rfl
      rotate_left
      · simp only [Act.put, sT_, s0_, sS_, i64_w, i32_w]
        rfl
      refine pure_ (i := 9) (N := some 49) (v := ?_) (a' := ?_) #[true, true, true, true, true, true, true, true, true, true, false, false, false, false, false, false, false] rfl rfl (by kernel_rfl) (fun _ _ _ h => h) (Or.inl ⟨by rfl, ?_⟩) ?_ ?_
      rotate_left
      · intro w'
        go_simp
        with_reducible rfl
      rotate_left
      · simp only [Act.put, sT_, s0_, sS_, i64_w, i32_w]
        rfl
      refine take_ (i := 10) (N := some 50) (v := ?_) (a' := ?_) #[true, true, true, true, true, true, true, true, true, true, true, false, false, false, false, false, false] rfl rfl (by kernel_rfl) (fun _ _ _ h => h) (Or.inl ⟨by rfl, ?_⟩) hHeld ?_ ?_
      rotate_left
      · rintro w' ⟨s0, s1, s2, s3, s4, s5⟩
        go_simp
        with_reducible rfl
      rotate_left
      · simp only [Act.put, sT_, s0_, sS_, i64_w, i32_w]
        rfl
      refine one_ (i := 11) (N := some 51) #[true, true, true, true, true, true, true, true, true, true, true, true, false, false, false, false, false] rfl rfl (by kernel_rfl) (by decide) (fun K hK => ?_)
      refine goes_ Try.func45 (by kernel_rfl) rfl #[.agg #[.slice A7 x.f0.length c7, .slice B7 x.f1.length d7, .int .i64 x.f2, .int .i64 x.f3], .string k0, .string k1] (by rfl) rfl rfl (by (try simp only [List.map_toArray, List.map_cons, List.map_nil]); first | done | rfl) ?_
      refine (CC.out _ HBD.out).mono ?_
      rintro e w8 ⟨v0', v1', rfl, hR, hS, hb⟩
      refine ⟨_, rfl, ?_⟩
      have HL := zA (And.intro (blk_lt B6.out) (blk_lt B2.out))
      have HW := zA HB.out.size
      replace B2 := zA (blk_below B2.out hb)
      replace B6 := zA (blk_below B6.out hb)
      replace HB := zA (bel HB.out hb)
      have R1 := zA (Kd.R_lower (Kd.R_mono (Kd.R_bound hR) (ok' := fun k => k ≠ g ∧ g2 < k) (fun k h => ⟨Nat.ne_of_gt (Nat.lt_of_lt_of_le HL.out.1 h.2.1), Nat.lt_of_lt_of_le HL.out.2 h.2.1⟩)) HW.out)
      have S1 := zA (Kd.S_lower (Kd.S_mono (Kd.S_bound hS) (ok' := fun k => some k ≠ v0'.ownBlock ∧ k ≠ g ∧ g2 < k) (fun k h => ⟨h.1, Nat.ne_of_gt (Nat.lt_of_lt_of_le HL.out.1 h.2.1), Nat.lt_of_lt_of_le HL.out.2 h.2.1⟩)) HW.out)
      replace E0 := zA (cellU E0.out hb)
      replace E1 := zA (cellU E1.out hb)
      clear hb hR hS HL HW
      obtain ⟨A8, c8, rfl⟩ := Kd.R_slice R1.out
      obtain ⟨B8, d8, rfl⟩ := Kd.S_slice S1.out
      refine hK.out _ _ ⟨(blk_cell B6.out 0).trans rfl, (blk_cell B6.out 1).trans rfl, (blk_cell B6.out 2).trans rfl, (blk_cell B6.out 3).trans rfl, E0.out, E1.out⟩ (fun hHeld => ?_)
      clear hK K
      refine norm_ (a' := ?_) ?_ ?_
      rotate_left
      · show Act.put _ (some 51) _ = _
        simp only [Act.put, sT_, s0_, sS_, i64_w, i32_w]
        rfl
      refine pure_ (i := 12) (N := some 39) (v := ?_) (a' := ?_) #[true, true, true, true, true, true, true, true, true, true, true, true, true, false, false, false, false] rfl rfl (by kernel_rfl) (fun _ _ _ h => h) (Or.inl ⟨by rfl, ?_⟩) ?_ ?_
      rotate_left
      · intro w'
        go_simp
        with_reducible rfl
      rotate_left
      · simp only [Act.put, sT_, s0_, sS_, i64_w, i32_w]
        rfl
      refine pure_ (i := 13) (N := some 52) (v := ?_) (a' := ?_) #[true, true, true, true, true, true, true, true, true, true, true, true, true, true, false, false, false] rfl rfl (by kernel_rfl) (fun _ _ _ h => h) (Or.inl ⟨by rfl, ?_⟩) ?_ ?_
      rotate_left
      · intro w'
        go_simp
        with_reducible rfl
      rotate_left
      · simp only [Act.put, sT_, s0_, sS_, i64_w, i32_w]
        rfl
      refine pure_ (i := 14) (N := some 53) (v := ?_) (a' := ?_) #[true, true, true, true, true, true, true, true, true, true, true, true, true, true, true, false, false] rfl rfl (by kernel_rfl) (fun _ _ _ h => h) (Or.inl ⟨by rfl, ?_⟩) ?_ ?_
      rotate_left
      · intro w'
        go_simp
        with_reducible rfl
      rotate_left
      · simp only [Act.put, sT_, s0_, sS_, i64_w, i32_w]
        rfl
      obtain ⟨b60, b61, b62, b63⟩ := keep4 B6.out
      have cf0 := blk_frozen B6.out 0
      have cf1 := blk_frozen B6.out 1
      have cf2 := blk_frozen B6.out 2
      have cf3 := blk_frozen B6.out 3
      refine last_ (i := 15) (N := none) #[true, true, true, true, true, true, true, true, true, true, true, true, true, true, true, true, false] rfl rfl (by kernel_rfl) (by decide) (fun K hK => ?_)
      refine skip_ (w1 := ?_) (by rfl) rfl ?_ ?_
      rotate_left
      · go_simp
        rfl
      refine hK.out _ _ ?_
      clear hK K
      refine pure_ (i := 16) (N := some 7) (v := ?_) (a' := ?_) #[true, true, true, true, true, true, true, true, true, true, true, true, true, true, true, true, true] rfl rfl (by kernel_rfl) (fun _ _ _ h => h) (Or.inl ⟨by rfl, ?_⟩) ?_ ?_
      rotate_left
      · intro w'
        go_simp
        with_reducible rfl
      rotate_left
      · simp only [Act.put, sT_, s0_, sS_, i64_w, i32_w]
        rfl
      refine done_ (by kernel_rfl) ?_
      replace R1 := zA (put4_R (a := .slice A8 Y.f0.length c8) (b := .slice B8 Y.f1.length d8) (x := Y.f2) (y := Y.f3) B6.out R1.out)
      replace S1 := zA (put4_S (a := .slice A8 Y.f0.length c8) (b := .slice B8 Y.f1.length d8) (x := Y.f2) (y := Y.f3) B6.out S1.out)
      replace B2 := zA (put4_far (g := g) (a := .slice A8 Y.f0.length c8) (b := .slice B8 Y.f1.length d8) (x := Y.f2) (y := Y.f3) B2.out (Nat.ne_of_lt HGG.out.2))
      replace HB := zA (put4_below (a := .slice A8 Y.f0.length c8) (b := .slice B8 Y.f1.length d8) (x := Y.f2) (y := Y.f3) HB.out HGG.out.1)
      replace B6 := zA (put4_blk (a := .slice A8 Y.f0.length c8) (b := .slice B8 Y.f1.length d8) (x := Y.f2) (y := Y.f3) B6.out)
      have e4 : put4 w8 g (.slice A8 Y.f0.length c8) (.slice B8 Y.f1.length d8) Y.f2 Y.f3 = ((((w8.setCell ⟨g, 0, none⟩ (.slice A8 Y.f0.length c8)).setCell ⟨g, 1, none⟩ (.slice B8 Y.f1.length d8)).setCell ⟨g, 2, none⟩ (.int .i64 Y.f2)).setCell ⟨g, 3, none⟩ (.int .i64 Y.f3)) := rfl
      rw [← e4]
      clear e4 b60 b61 b62 b63 cf0 cf1 cf2 cf3 E0 E1
      generalize put4 w8 g (.slice A8 Y.f0.length c8) (.slice B8 Y.f1.length d8) Y.f2 Y.f3 = w9 at B2 B6 R1 S1 HB ⊢
      have hw : wrap64 ((j : Int) + 1) = (j : Int) + 1 := w64 (by omega) (by omega)
      go_wp2
      go_roundg (l.length - j)
      case measure => omega
      case rel => exact ⟨j + 1, Y, _, _, ⟨by omega, by omega⟩, rfl, by go_num, HYY, ⟨by first | exact B6.out | exact blk_below B6.out (pw_below_drewN (Below.refl _ _) _)⟩, ⟨by first | exact B2.out | exact blk_below B2.out (pw_below_drewN (Below.refl _ _) _)⟩, ⟨by first | exact R1.out | exact Kd.R_below R1.out (pw_below_drewN (Below.refl _ _) _)⟩, ⟨by first | exact S1.out | exact Kd.S_below S1.out (pw_below_drewN (Below.refl _ _) _)⟩, ⟨by first | exact HB.out | exact pw_below_drewN HB.out _⟩⟩
end Go.Proofs.Ythffllegmkolgaa.TreeK
