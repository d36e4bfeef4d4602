/- The law FnExactRestore, called with whatever can be read: it returns true and nothing that was there has changed. -/
import Derived.Test.YthffllegmkolgaaT5ChOwn
import Derived.Test.YthffllegmkolgaaT5RestS
namespace Go.Proofs.Ythffllegmkolgaa.TreeK
open Go.RowKit Go.Proofs.YthffllegmkolgaaW.PrintWords Go.Proofs.YthffllegmkolgaaW.PrintLast Go.Proofs.YthffllegmkolgaaW.PrintMore Go.Proofs.Ythffllegmkolgaa.QTree Go.Proofs.Ythffllegmkolgaa.EvKit Go.Proofs.Ythffllegmkolgaa.GTree
set_option linter.unusedSimpArgs false
set_option linter.unusedVariables false
abbrev LKC := k99
theorem resF_sm : ∀ (l : List Cel) (i : Int) (x : Tre), trB x = true → x.f2 = i → sm_Tree (resF l i x).1 := by
  intro l
  induction l with
  | nil => intro i x h _; exact sm_right h
  | cons c cs ih =>
    intro i x h hi
    rw [resF]
    by_cases hc : cellB c = true ∧ c.f2 = i + 1
    · rw [if_pos hc]
      have hs := res_step h hi hc.1 hc.2
      exact ih _ _ hs.2.1 hs.2.2.1
    · rw [if_neg hc]
      exact ⟨⟨by simp, fun c hc => by cases hc⟩, ⟨by simp, fun c hc => by cases hc⟩, (by decide : (-9223372036854775808 : Int) ≤ 0 ∧ (0 : Int) ≤ 9223372036854775807), (by decide : (-9223372036854775808 : Int) ≤ 0 ∧ (0 : Int) ≤ 9223372036854775807)⟩
theorem resT_sm (q : Int) (l : List Cel) : sm_Tree (resT q l).1 := by
  unfold resT
  by_cases h : 1 ≤ q ∧ q ≤ 50
  · rw [if_pos h]; exact resF_sm _ _ _ (res_none h) rfl
  · rw [if_neg h]
    exact ⟨⟨by simp, fun c hc => by cases hc⟩, ⟨by simp, fun c hc => by cases hc⟩, (by decide : (-9223372036854775808 : Int) ≤ 0 ∧ (0 : Int) ≤ 9223372036854775807), (by decide : (-9223372036854775808 : Int) ≤ 0 ∧ (0 : Int) ≤ 9223372036854775807)⟩
theorem to_row (base : Nat) (A : Option Addr) (c : Nat) (x : List S99) (W : World) (hb : base ≤ W.heap.size) (hc : x.length ≤ c) (h : LKC.C W A x.length x) (s : sm_CellS (to_CellS x)) :
    Calls Try.prog 37 #[.slice A x.length c] W fun e w' => ∃ A' c', e = .returned (.slice A' (to_CellS x).length c') ∧ KC.R TC w' base (fun k => W.heap.size ≤ k ∧ k < w'.heap.size) (.slice A' (to_CellS x).length c') (to_CellS x) ∧ Below W.heap.size W w' := by
  obtain ⟨k, hk⟩ := Ev.rounds (ev_toCellS x s)
  refine (laws_toCellS.calls k A c _ _ W h hc hk).mono ?_
  rintro e w' ⟨v0, rfl, h0, hb'⟩
  obtain ⟨A', c', rfl⟩ := Kd.R_slice h0
  exact ⟨A', c', rfl, Kd.R_lower (Kd.R_mono (Kd.R_bound h0) (fun k h => ⟨h.2.1, h.2.2.1⟩)) hb, hb'⟩
theorem eq_row (A A' : Option Addr) (c c' : Nat) (x : List Cel) (W : World) (hc : x.length ≤ c) (h : KC.C W A x.length x) (hc' : x.length ≤ c') (h' : KC.C W A' x.length x) (s : sm_CellS x) :
    Calls Try.prog 31 #[.slice A x.length c, .slice A' x.length c'] W fun e w' => e = .returned (.bool true) ∧ Below W.heap.size W w' := by
  obtain ⟨k, hk⟩ := Ev.rounds (ev_eqCellS x s)
  exact laws_eqCellS.calls k A c _ A' c' _ _ W h hc h' hc' hk
set_option maxHeartbeats 3200000 in
set_option maxRecDepth 100000 in
theorem rest_walk (w : World) (q : Int) (A : Option Addr) (len cap : Nat) (x : List S99) (hK : (Kd.slice 99 LKC).K w x [.slice A len cap]) (ok : ok_CellS x) :
    Calls Try.prog 8 #[.int .i64 q, .slice A len cap] w fun e w' => e = .returned (.bool true) ∧ Below w.heap.size w w' := by
  obtain ⟨A', c, e, hlc, h0⟩ := hK
  obtain ⟨rfl, rfl, rfl⟩ : A = A' ∧ len = x.length ∧ cap = c := by simpa using e
  clear e
  obtain ⟨vv, hv, _, hq⟩ := sz_CellS x ok 1048576 (by omega) (by omega)
  obtain ⟨kk, hk⟩ := Ev.rounds hv
  have S1 : ∀ V : World, Below w.heap.size w V → Calls Try.prog 35 #[.slice A x.length cap, .int .i64 1048576] V fun e w' => e = .returned (.int .i64 vv) ∧ Below V.heap.size V w' := fun V hb => laws_szCellS.calls kk A cap _ _ _ V (Kd.C_below h0 hb) hlc hk
  replace S1 := zA S1
  clear hv hk kk
  have HB := zA (Below.refl w.heap.size w)
  go_enter Try.func8, Try.ntmps8
  by_cases hv0 : vv < 0
  · go_wp2_with (fail)
    refine (S1.out _ HB.out).mono ?_
    rintro e u1 ⟨rfl, hb⟩
    replace HB := zA (bel HB.out hb)
    clear hb
    go_wp2_with (fail)
    go_ret
    exact ⟨rfl, HB.out⟩
  have hs := hq (by omega)
  clear hq
  have ey := resT_sm q (to_CellS x)
  obtain ⟨X, hX⟩ : ∃ X, X = to_CellS x := ⟨_, rfl⟩
  obtain ⟨⟨Y, b⟩, hY⟩ : ∃ Y, Y = resT q X := ⟨_, rfl⟩
  have SX : Aside0 (sm_CellS X) := ⟨hX ▸ hs⟩
  have SY : Aside0 (sm_Tree Y) := ⟨by rw [← hX, ← hY] at ey; exact ey⟩
  have T1 : ∀ V : World, Below w.heap.size w V → _ := fun V hb => to_row w.heap.size A cap x V hb.size hlc (Kd.C_below h0 hb) hs
  rw [← hX] at T1
  replace T1 := zA T1
  have C1 : ∀ (V : World) (A : Option Addr) (c : Nat), w.heap.size ≤ V.heap.size → X.length ≤ c → KC.C V A X.length X → _ := fun V A c hb hc h => own_of (base := w.heap.size) hb (rest_spec A c q X V hc h SX.out.1)
  have C2 : ∀ (V : World) (A : Option Addr) (c : Nat), w.heap.size ≤ V.heap.size → X.length ≤ c → KC.C V A X.length X → _ := fun V A c hb hc h => own_of (base := w.heap.size) hb (rest_impl A c q X V hc h SX.out.1)
  rw [← hY] at C1 C2
  simp only at C1 C2
  have hbb : (b != b) = false := by cases b <;> rfl
  replace C1 := zA C1
  replace C2 := zA C2
  clear h0 ok hs ey hX hY hlc
  go_wp2_with (fail)
  refine (S1.out _ HB.out).mono ?_
  rintro e u1 ⟨rfl, hb⟩
  skip
  have HZ1 : Aside0 (w.heap.size ≤ u1.heap.size) := ⟨hb.size⟩
  replace HB := zA (bel HB.out hb)
  clear hb
  skip
  go_wp2_with (fail)
  refine (T1.out _ HB.out).mono ?_
  rintro e u2 ⟨A3, c3, rfl, ho, hb⟩
  skip
  have O3 := zA ho
  clear ho
  have HZ2 : Aside0 (u1.heap.size ≤ u2.heap.size) := ⟨hb.size⟩
  replace HB := zA (bel HB.out hb)
  clear hb
  skip
  go_wp2_with (fail)
  refine (C1.out _ A3 c3 HB.out.size (Kd.R_reads' O3.out).2.1 (Kd.R_reads' O3.out).2.2).mono ?_
  rintro e u3 ⟨A4, c4, B4', d4, rfl, ho, hb⟩
  skip
  have O4 := zA ho
  clear ho O3
  have HZ3 : Aside0 (u2.heap.size ≤ u3.heap.size) := ⟨hb.size⟩
  replace HB := zA (bel HB.out hb)
  clear hb
  skip
  go_upto_region 6 with (fail)
  skip
  have B4 := zA (blk_new u3 (.cells #[.slice A4 Y.f0.length c4, .slice B4' Y.f1.length d4, .int .i64 Y.f2, .int .i64 Y.f3] 31))
  have hb := bel_alloc u3 (.cells #[.slice A4 Y.f0.length c4, .slice B4' Y.f1.length d4, .int .i64 Y.f2, .int .i64 Y.f3] 31)
  obtain ⟨g4, hg4⟩ : ∃ g_, g_ = u3.heap.size := ⟨_, rfl⟩
  have Hg4 := zA hg4
  have HLg4 := zA (blk_lt B4.out)
  replace O4 := zA (Own.below O4.out hb); replace HB := zA (bel HB.out hb)
  rw [← hg4] at B4 HLg4
  rw [← hg4]
  clear hg4
  have HZ4 : Aside0 (u3.heap.size ≤ (u3.alloc (.cells #[.slice A4 Y.f0.length c4, .slice B4' Y.f1.length d4, .int .i64 Y.f2, .int .i64 Y.f3] 31)).heap.size) := ⟨hb.size⟩
  clear hb
  generalize u3.alloc (.cells #[.slice A4 Y.f0.length c4, .slice B4' Y.f1.length d4, .int .i64 Y.f2, .int .i64 Y.f3] 31) = W4 at B4 HLg4 HB O4 HZ4 ⊢
  obtain ⟨B40, B41, B42, B43⟩ := keep4 B4.out
  go_wp2_with (fail)
  refine (T1.out _ HB.out).mono ?_
  rintro e u5 ⟨A5, c5, rfl, ho, hb⟩
  clear B40 B41 B42 B43
  have O5 := zA ho
  clear ho
  have HZ5 : Aside0 (W4.heap.size ≤ u5.heap.size) := ⟨hb.size⟩
  replace B4 := zA (blk_below B4.out hb); replace O4 := zA (Own.below O4.out hb); replace HB := zA (bel HB.out hb)
  clear hb
  obtain ⟨B40, B41, B42, B43⟩ := keep4 B4.out
  go_wp2_with (fail)
  refine (C2.out _ A5 c5 HB.out.size (Kd.R_reads' O5.out).2.1 (Kd.R_reads' O5.out).2.2).mono ?_
  rintro e u6 ⟨A6, c6, B6', d6, rfl, ho, hb⟩
  clear B40 B41 B42 B43
  have O6 := zA ho
  clear ho
  have HZ6 : Aside0 (u5.heap.size ≤ u6.heap.size) := ⟨hb.size⟩
  replace B4 := zA (blk_below B4.out hb); replace O4 := zA (Own.below O4.out hb); replace O5 := zA (Kd.R_below O5.out hb); replace HB := zA (bel HB.out hb)
  clear hb
  obtain ⟨B40, B41, B42, B43⟩ := keep4 B4.out
  go_upto_region 8 with (fail)
  clear B40 B41 B42 B43
  have B6 := zA (blk_new u6 (.cells #[.slice A6 Y.f0.length c6, .slice B6' Y.f1.length d6, .int .i64 Y.f2, .int .i64 Y.f3] 31))
  have hb := bel_alloc u6 (.cells #[.slice A6 Y.f0.length c6, .slice B6' Y.f1.length d6, .int .i64 Y.f2, .int .i64 Y.f3] 31)
  obtain ⟨g6, hg6⟩ : ∃ g_, g_ = u6.heap.size := ⟨_, rfl⟩
  have Hg6 := zA hg6
  have HLg6 := zA (blk_lt B6.out)
  replace B4 := zA (blk_below B4.out hb); replace O4 := zA (Own.below O4.out hb); replace O6 := zA (Own.below O6.out hb); replace O5 := zA (Kd.R_below O5.out hb); replace HB := zA (bel HB.out hb)
  rw [← hg6] at B6 HLg6
  rw [← hg6]
  clear hg6
  have HZ7 : Aside0 (u6.heap.size ≤ (u6.alloc (.cells #[.slice A6 Y.f0.length c6, .slice B6' Y.f1.length d6, .int .i64 Y.f2, .int .i64 Y.f3] 31)).heap.size) := ⟨hb.size⟩
  clear hb
  generalize u6.alloc (.cells #[.slice A6 Y.f0.length c6, .slice B6' Y.f1.length d6, .int .i64 Y.f2, .int .i64 Y.f3] 31) = W6 at B6 HLg6 HB B4 O4 O6 O5 HZ7 ⊢
  obtain ⟨B40, B41, B42, B43⟩ := keep4 B4.out; obtain ⟨B60, B61, B62, B63⟩ := keep4 B6.out
  go_wp2_with (fail)
  refine (eq_tree A6 B6' A4 B4' c6 d6 c4 d4 Y W6 O6.out.tree O4.out.tree SY.out).mono ?_
  rintro e u7 ⟨rfl, hb⟩
  clear B40 B41 B42 B43 B60 B61 B62 B63
  have HZ8 : Aside0 (W6.heap.size ≤ u7.heap.size) := ⟨hb.size⟩
  replace B4 := zA (blk_below B4.out hb); replace B6 := zA (blk_below B6.out hb); replace O4 := zA (Own.below O4.out hb); replace O6 := zA (Own.below O6.out hb); replace O5 := zA (Kd.R_below O5.out hb); replace HB := zA (bel HB.out hb)
  clear hb
  obtain ⟨B40, B41, B42, B43⟩ := keep4 B4.out; obtain ⟨B60, B61, B62, B63⟩ := keep4 B6.out
  go_wp2_with (fail)
  refine (T1.out _ HB.out).mono ?_
  rintro e u8 ⟨A8, c8, rfl, ho, hb⟩
  clear B40 B41 B42 B43 B60 B61 B62 B63
  have O8 := zA ho
  clear ho
  have HZ9 : Aside0 (u7.heap.size ≤ u8.heap.size) := ⟨hb.size⟩
  replace B4 := zA (blk_below B4.out hb); replace B6 := zA (blk_below B6.out hb); replace O4 := zA (Own.below O4.out hb); replace O6 := zA (Own.below O6.out hb); replace O5 := zA (Kd.R_below O5.out hb); replace HB := zA (bel HB.out hb)
  clear hb
  obtain ⟨B40, B41, B42, B43⟩ := keep4 B4.out; obtain ⟨B60, B61, B62, B63⟩ := keep4 B6.out
  go_wp2_with (fail)
  refine (eq_row A5 A8 c5 c8 X u8 (Kd.R_reads' O5.out).2.1 (Kd.R_reads' O5.out).2.2 (Kd.R_reads' O8.out).2.1 (Kd.R_reads' O8.out).2.2 SX.out).mono ?_
  rintro e u9 ⟨rfl, hb⟩
  clear B40 B41 B42 B43 B60 B61 B62 B63
  clear O8
  have HZ10 : Aside0 (u8.heap.size ≤ u9.heap.size) := ⟨hb.size⟩
  replace B4 := zA (blk_below B4.out hb); replace B6 := zA (blk_below B6.out hb); replace O4 := zA (Own.below O4.out hb); replace O6 := zA (Own.below O6.out hb); replace O5 := zA (Kd.R_below O5.out hb); replace HB := zA (bel HB.out hb)
  clear hb
  obtain ⟨B40, B41, B42, B43⟩ := keep4 B4.out; obtain ⟨B60, B61, B62, B63⟩ := keep4 B6.out
  have hc2 := cnt_le Y SY.out
  have hx1 := SX.out.1
  go_wp2_with (fail)
  refine (mark_cells _ (.slice A5 X.length c5) X 1 w u9 HB.out O5.out (by omega) (by omega)).mono ?_
  rintro e u10 ⟨rfl, ht, hb, hkp⟩
  clear B40 B41 B42 B43 B60 B61 B62 B63
  have HZ11 : Aside0 (u9.heap.size ≤ u10.heap.size) := ⟨hkp.1⟩
  clear ht O5
  have i1 := HZ1.out; have i2 := HZ2.out; have i3 := HZ3.out; have i4 := HZ4.out; have i5 := HZ5.out; have i6 := HZ6.out; have i7 := HZ7.out; have i8 := HZ8.out; have i9 := HZ9.out; have i10 := HZ10.out; have i11 := HZ11.out; have j4 := HLg4.out; have j6 := HLg6.out; have k4 := Hg4.out; have k6 := Hg6.out
  replace B4 := zA (blk_kept B4.out hkp (fun h => by omega))
  replace B6 := zA (blk_kept B6.out hkp (fun h => by omega))
  replace O4 := zA (Own.kept O4.out hkp (fun k h h' h'' => by omega))
  replace O6 := zA (Own.kept O6.out hkp (fun k h h' h'' => by omega))
  replace HB := zA hb
  clear hb hkp i1 i2 i3 i4 i5 i6 i7 i8 i9 i10 i11 j4 j6 k4 k6
  obtain ⟨B40, B41, B42, B43⟩ := keep4 B4.out; obtain ⟨B60, B61, B62, B63⟩ := keep4 B6.out
  obtain ⟨K, hK⟩ : ∃ K, K = 1 + 4 * (X.length : Int) := ⟨_, rfl⟩
  rw [← hK]
  have hK0 : ¬ K < 0 := by omega
  clear hK hx1
  go_wp2_with (fail)
  refine (eq_tree A6 B6' A4 B4' c6 d6 c4 d4 Y u10 O6.out.tree O4.out.tree SY.out).mono ?_
  rintro e u11 ⟨rfl, hb⟩
  clear B40 B41 B42 B43 B60 B61 B62 B63
  have HZ12 : Aside0 (u10.heap.size ≤ u11.heap.size) := ⟨hb.size⟩
  replace B4 := zA (blk_below B4.out hb); replace B6 := zA (blk_below B6.out hb); replace O4 := zA (Own.below O4.out hb); replace O6 := zA (Own.below O6.out hb); replace HB := zA (bel HB.out hb)
  clear hb
  obtain ⟨B40, B41, B42, B43⟩ := keep4 B4.out; obtain ⟨B60, B61, B62, B63⟩ := keep4 B6.out
  go_wp2_with (fail)
  refine (mark_own u11 w _ _ Y A6 B6' _ c6 _ d6 _ _ 1 HB.out O6.out (by omega) (by omega)).mono ?_
  rintro e u12 ⟨rfl, ht, hb, hkp⟩
  clear B40 B41 B42 B43 B60 B61 B62 B63
  have HZ13 : Aside0 (u11.heap.size ≤ u12.heap.size) := ⟨hkp.1⟩
  clear O6
  have i1 := HZ1.out; have i2 := HZ2.out; have i3 := HZ3.out; have i4 := HZ4.out; have i5 := HZ5.out; have i6 := HZ6.out; have i7 := HZ7.out; have i8 := HZ8.out; have i9 := HZ9.out; have i10 := HZ10.out; have i11 := HZ11.out; have i12 := HZ12.out; have i13 := HZ13.out; have j4 := HLg4.out; have j6 := HLg6.out; have k4 := Hg4.out; have k6 := Hg6.out
  replace B4 := zA (blk_kept B4.out hkp (fun h => by omega))
  replace B6 := zA (blk_kept B6.out hkp (fun h => by omega))
  replace O4 := zA (Own.kept O4.out hkp (fun k h h' h'' => by omega))
  replace HB := zA hb
  have M6 := zA ht
  clear ht
  clear hb hkp i1 i2 i3 i4 i5 i6 i7 i8 i9 i10 i11 i12 i13 j4 j6 k4 k6
  obtain ⟨B40, B41, B42, B43⟩ := keep4 B4.out; obtain ⟨B60, B61, B62, B63⟩ := keep4 B6.out
  have HH : Aside0 (∀ V : World, TreeC V (markT Y 1) A6 c6 B6' d6 → _) := ⟨fun V h => held_own Y A6 B6' c6 d6 1 V h (by omega) (by omega) (Nat.le_trans SY.out.2.1.1 (by omega))⟩
  obtain ⟨M, hM⟩ : ∃ M, M = 1 + cnt Y := ⟨_, rfl⟩
  rw [← hM] at HH ⊢
  have hM0 : ¬ M < 0 := by omega
  have hMM : (M != M) = false := by simp
  clear hM hc2
  go_wp2_with (fail)
  refine (HH.out _ M6.out).mono ?_
  rintro e u13 ⟨rfl, hb⟩
  clear B40 B41 B42 B43 B60 B61 B62 B63
  have HZ14 : Aside0 (u12.heap.size ≤ u13.heap.size) := ⟨hb.size⟩
  replace B4 := zA (blk_below B4.out hb); replace B6 := zA (blk_below B6.out hb); replace O4 := zA (Own.below O4.out hb); replace M6 := zA (TreeC.below M6.out hb); replace HB := zA (bel HB.out hb)
  clear hb
  obtain ⟨B40, B41, B42, B43⟩ := keep4 B4.out; obtain ⟨B60, B61, B62, B63⟩ := keep4 B6.out
  go_wp2_with (fail)
  refine (T1.out _ HB.out).mono ?_
  rintro e u14 ⟨A14, c14, rfl, ho, hb⟩
  clear B40 B41 B42 B43 B60 B61 B62 B63
  have O14 := zA ho
  clear ho
  have HZ15 : Aside0 (u13.heap.size ≤ u14.heap.size) := ⟨hb.size⟩
  replace B4 := zA (blk_below B4.out hb); replace B6 := zA (blk_below B6.out hb); replace O4 := zA (Own.below O4.out hb); replace M6 := zA (TreeC.below M6.out hb); replace HB := zA (bel HB.out hb)
  clear hb
  obtain ⟨B40, B41, B42, B43⟩ := keep4 B4.out; obtain ⟨B60, B61, B62, B63⟩ := keep4 B6.out
  go_wp2_with (fail)
  refine (C2.out _ A14 c14 HB.out.size (Kd.R_reads' O14.out).2.1 (Kd.R_reads' O14.out).2.2).mono ?_
  rintro e u15 ⟨A15, c15, B15, d15, rfl, ho, hb⟩
  clear B40 B41 B42 B43 B60 B61 B62 B63
  have O15 := zA ho
  clear ho O14
  have HZ16 : Aside0 (u14.heap.size ≤ u15.heap.size) := ⟨hb.size⟩
  replace B4 := zA (blk_below B4.out hb); replace B6 := zA (blk_below B6.out hb); replace O4 := zA (Own.below O4.out hb); replace M6 := zA (TreeC.below M6.out hb); replace HB := zA (bel HB.out hb)
  clear hb
  obtain ⟨B40, B41, B42, B43⟩ := keep4 B4.out; obtain ⟨B60, B61, B62, B63⟩ := keep4 B6.out
  go_upto_region 25 with (fail)
  clear B40 B41 B42 B43 B60 B61 B62 B63
  have B15b := zA (blk_new u15 (.cells #[.slice A15 Y.f0.length c15, .slice B15 Y.f1.length d15, .int .i64 Y.f2, .int .i64 Y.f3] 31))
  have hb := bel_alloc u15 (.cells #[.slice A15 Y.f0.length c15, .slice B15 Y.f1.length d15, .int .i64 Y.f2, .int .i64 Y.f3] 31)
  obtain ⟨g15, hg15⟩ : ∃ g_, g_ = u15.heap.size := ⟨_, rfl⟩
  have Hg15 := zA hg15
  have HLg15 := zA (blk_lt B15b.out)
  replace B4 := zA (blk_below B4.out hb); replace B6 := zA (blk_below B6.out hb); replace O4 := zA (Own.below O4.out hb); replace O15 := zA (Own.below O15.out hb); replace M6 := zA (TreeC.below M6.out hb); replace HB := zA (bel HB.out hb)
  rw [← hg15] at B15b HLg15
  rw [← hg15]
  clear hg15
  have HZ17 : Aside0 (u15.heap.size ≤ (u15.alloc (.cells #[.slice A15 Y.f0.length c15, .slice B15 Y.f1.length d15, .int .i64 Y.f2, .int .i64 Y.f3] 31)).heap.size) := ⟨hb.size⟩
  clear hb
  generalize u15.alloc (.cells #[.slice A15 Y.f0.length c15, .slice B15 Y.f1.length d15, .int .i64 Y.f2, .int .i64 Y.f3] 31) = W15 at B15b HLg15 HB B4 B6 O4 O15 M6 HZ17 ⊢
  obtain ⟨B40, B41, B42, B43⟩ := keep4 B4.out; obtain ⟨B60, B61, B62, B63⟩ := keep4 B6.out; obtain ⟨B15b0, B15b1, B15b2, B15b3⟩ := keep4 B15b.out
  go_wp2_with (fail)
  refine (eq_tree A15 B15 A4 B4' c15 d15 c4 d4 Y W15 O15.out.tree O4.out.tree SY.out).mono ?_
  rintro e u16 ⟨rfl, hb⟩
  clear B40 B41 B42 B43 B60 B61 B62 B63 B15b0 B15b1 B15b2 B15b3
  have HZ18 : Aside0 (W15.heap.size ≤ u16.heap.size) := ⟨hb.size⟩
  replace B4 := zA (blk_below B4.out hb); replace B6 := zA (blk_below B6.out hb); replace B15b := zA (blk_below B15b.out hb); replace O4 := zA (Own.below O4.out hb); replace O15 := zA (Own.below O15.out hb); replace M6 := zA (TreeC.below M6.out hb); replace HB := zA (bel HB.out hb)
  clear hb
  obtain ⟨B40, B41, B42, B43⟩ := keep4 B4.out; obtain ⟨B60, B61, B62, B63⟩ := keep4 B6.out; obtain ⟨B15b0, B15b1, B15b2, B15b3⟩ := keep4 B15b.out
  go_wp2_with (fail)
  refine (HH.out _ M6.out).mono ?_
  rintro e u17 ⟨rfl, hb⟩
  clear B40 B41 B42 B43 B60 B61 B62 B63 B15b0 B15b1 B15b2 B15b3
  have HZ19 : Aside0 (u16.heap.size ≤ u17.heap.size) := ⟨hb.size⟩
  replace B4 := zA (blk_below B4.out hb); replace B6 := zA (blk_below B6.out hb); replace B15b := zA (blk_below B15b.out hb); replace O4 := zA (Own.below O4.out hb); replace O15 := zA (Own.below O15.out hb); replace M6 := zA (TreeC.below M6.out hb); replace HB := zA (bel HB.out hb)
  clear hb
  obtain ⟨B40, B41, B42, B43⟩ := keep4 B4.out; obtain ⟨B60, B61, B62, B63⟩ := keep4 B6.out; obtain ⟨B15b0, B15b1, B15b2, B15b3⟩ := keep4 B15b.out
  go_wp2_with (fail)
  go_ret
  exact ⟨rfl, by first | exact HB.out | exact HB.out.drew⟩
theorem rest_row (w : World) (q : Int) (_ : (Lit.int .i64 q).wf = true) (A : Option Addr) (len cap : Nat) (x : List S99) (hK : (Kd.slice 99 LKC).K w x [.slice A len cap]) (ok : ok_CellS x) :
    Calls Try.prog 8 #[.int .i64 q, .slice A len cap] w fun e w' => e = .returned (.bool true) ∧ Below w.heap.size w w' := rest_walk w q A len cap x hK ok
end Go.Proofs.Ythffllegmkolgaa.TreeK
