/- The law FnExactScan, called with whatever can be read: it returns true and nothing that was there has changed. -/
import Derived.Test.YthffllegmkolgaaT10FlOwn
import Derived.Test.YthffllegmkolgaaT10ScanI
import Derived.Test.YthffllegmkolgaaT10ScanS
namespace Go.Proofs.Ythffllegmkolgaa.TreeK
open Go.RowKit Go.Proofs.YthffllegmkolgaaW.PrintWords Go.Proofs.YthffllegmkolgaaW.PrintLast Go.Proofs.YthffllegmkolgaaW.PrintMore Go.Proofs.Ythffllegmkolgaa.QTree Go.Proofs.Ythffllegmkolgaa.EvKit Go.Proofs.Ythffllegmkolgaa.GTree
set_option linter.unusedSimpArgs false
set_option linter.unusedVariables false
set_option maxHeartbeats 3200000 in
set_option maxRecDepth 100000 in
theorem scan_walk (w : World) (cs : Array Value) (x : LTre) (fr til : ByteArray) (seq : Int) (hf1 : fr.size ≤ maxLen) (hf2 : til.size ≤ maxLen) (hK : kp25.K w x cs.toList) (ok : ok_Tree x) :
    Calls Try.prog 13 #[.agg cs, .string fr, .string til, .int .i64 seq] w fun e w' => e = .returned (.bool true) ∧ Below w.heap.size w w' := by
  obtain ⟨A, c, B, d, e, h0⟩ := tree_open hK
  obtain rfl : cs = #[.slice A x.f0.length c, .slice B x.f1.length d, .int .i64 x.f2, .int .i64 x.f3] := by rw [← Array.toList_inj]; exact e
  clear hK
  obtain ⟨v, hv, _, hq⟩ := sz_Tree x ok 1048576 (by omega) (by omega)
  obtain ⟨k, hk⟩ := Ev.rounds hv
  have S1 : ∀ V : World, Below w.heap.size w V → Calls Try.prog 15 #[.agg #[.slice A x.f0.length c, .slice B x.f1.length d, .int .i64 x.f2, .int .i64 x.f3], .int .i64 1048576] V fun e w' => e = .returned (.int .i64 v) ∧ Below V.heap.size V w' := fun V hb => laws_szTree.calls k A c _ B d _ _ _ _ _ V (h0.below hb).1.2 h0.1.1 (h0.below hb).2.2 h0.2.1 hk
  replace S1 := zA S1
  clear hv hk k e
  have hf3 : fr.size ≤ 9223372036854775807 := by unfold maxLen at hf1; omega
  have hf4 : til.size ≤ 9223372036854775807 := by unfold maxLen at hf2; omega
  clear hf1 hf2
  go_enter Try.func13, Try.ntmps13
  go_upto_region 1 with (fail)
  have BK := zA (blk_new w (.cells #[.slice A x.f0.length c, .slice B x.f1.length d, .int .i64 x.f2, .int .i64 x.f3] 25))
  have HB := zA (bel_alloc w (.cells #[.slice A x.f0.length c, .slice B x.f1.length d, .int .i64 x.f2, .int .i64 x.f3] 25))
  obtain ⟨g, hgg⟩ : ∃ g, g = w.heap.size := ⟨_, rfl⟩
  rw [← hgg] at BK
  simp only [← hgg]
  clear hgg
  generalize w.alloc (.cells #[.slice A x.f0.length c, .slice B x.f1.length d, .int .i64 x.f2, .int .i64 x.f3] 25) = W0 at *
  have HLg := zA (blk_lt BK.out)
  obtain ⟨BK0, BK1, BK2, BK3⟩ := keep4 BK.out
  by_cases hl1 : (fr.size : Int) > 1048576
  · go_wp2_with (fail)
    go_ret
    exact ⟨rfl, by first | exact HB.out | exact HB.out.drew⟩
  by_cases hl2 : (til.size : Int) > 1048576
  · go_wp2_with (fail)
    go_ret
    exact ⟨rfl, by first | exact HB.out | exact HB.out.drew⟩
  by_cases hv0 : v < 0
  · go_wp2_with (fail)
    refine (S1.out _ HB.out).mono ?_
    rintro e u1 ⟨rfl, hb⟩
    replace HB := zA (bel HB.out hb)
    clear hb
    go_wp2_with (fail)
    go_ret
    exact ⟨rfl, HB.out⟩
  have hs := hq (by omega)
  clear hq
  have ey := scanX_len (to_Tree x) fr til seq
  obtain ⟨X, hX⟩ : ∃ X, X = to_Tree x := ⟨_, rfl⟩
  obtain ⟨Y, hY⟩ : ∃ Y, Y = scanX X fr til seq := ⟨_, rfl⟩
  have SX : Aside0 (sm_Tree X) := ⟨hX ▸ hs⟩
  have SY : Aside0 (Y.length ≤ 400) := ⟨by rw [hY, hX]; exact ey⟩
  have T1 : ∀ V : World, Below w.heap.size w V → _ := fun V hb => to_own w.heap.size A B c d x V hb.size (h0.below hb) hs
  rw [← hX] at T1
  replace T1 := zA T1
  have C1 : ∀ (V : World) (A B : Option Addr) (c d : Nat), w.heap.size ≤ V.heap.size → TreeC V X A c B d → _ := fun V A B c d hb h => own_rowP (base := w.heap.size) hb (scan_spec A B c d X fr til seq V h SX.out)
  have C2 : ∀ (V : World) (A B : Option Addr) (c d : Nat), w.heap.size ≤ V.heap.size → TreeC V X A c B d → _ := fun V A B c d hb h => own_rowP (base := w.heap.size) hb (scan_impl A B c d X fr til seq V h SX.out)
  rw [← hY] at C1 C2
  replace C1 := zA C1
  replace C2 := zA C2
  clear h0 ok hs ey hX hY
  go_wp2_with (fail)
  refine (S1.out _ HB.out).mono ?_
  rintro e u1 ⟨rfl, hb⟩
  clear BK0 BK1 BK2 BK3
  have HZ1 : Aside0 (W0.heap.size ≤ u1.heap.size) := ⟨hb.size⟩
  replace BK := zA (blk_below BK.out hb); replace HB := zA (bel HB.out hb)
  clear hb
  obtain ⟨BK0, BK1, BK2, BK3⟩ := keep4 BK.out
  go_wp2_with (fail)
  refine (T1.out _ HB.out).mono ?_
  rintro e u2 ⟨A3, c3, B3, d3, rfl, ho, hb⟩
  clear BK0 BK1 BK2 BK3
  have O3 := zA ho
  clear ho
  have HZ2 : Aside0 (u1.heap.size ≤ u2.heap.size) := ⟨hb.size⟩
  replace BK := zA (blk_below BK.out hb); replace HB := zA (bel HB.out hb)
  clear hb
  obtain ⟨BK0, BK1, BK2, BK3⟩ := keep4 BK.out
  go_wp2_with (fail)
  refine (C1.out _ A3 B3 c3 d3 HB.out.size O3.out.tree).mono ?_
  rintro e u3 ⟨A4, c4, rfl, ho, hb⟩
  clear BK0 BK1 BK2 BK3
  have O4 := zA ho
  clear ho O3
  have HZ3 : Aside0 (u2.heap.size ≤ u3.heap.size) := ⟨hb.size⟩
  replace BK := zA (blk_below BK.out hb); replace HB := zA (bel HB.out hb)
  clear hb
  obtain ⟨BK0, BK1, BK2, BK3⟩ := keep4 BK.out
  go_wp2_with (fail)
  refine (T1.out _ HB.out).mono ?_
  rintro e u5 ⟨A5, c5, B5', d5, rfl, ho, hb⟩
  clear BK0 BK1 BK2 BK3
  have O5 := zA ho
  clear ho
  have HZ4 : Aside0 (u3.heap.size ≤ u5.heap.size) := ⟨hb.size⟩
  replace BK := zA (blk_below BK.out hb); replace O4 := zA (Kd.R_below O4.out hb); replace HB := zA (bel HB.out hb)
  clear hb
  obtain ⟨BK0, BK1, BK2, BK3⟩ := keep4 BK.out
  go_upto_region 11 with (fail)
  clear BK0 BK1 BK2 BK3
  have B5 := zA (blk_new u5 (.cells #[.slice A5 X.f0.length c5, .slice B5' X.f1.length d5, .int .i64 X.f2, .int .i64 X.f3] 31))
  have hb := bel_alloc u5 (.cells #[.slice A5 X.f0.length c5, .slice B5' X.f1.length d5, .int .i64 X.f2, .int .i64 X.f3] 31)
  obtain ⟨g5, hg5⟩ : ∃ g_, g_ = u5.heap.size := ⟨_, rfl⟩
  have Hg5 := zA hg5
  have HLg5 := zA (blk_lt B5.out)
  replace BK := zA (blk_below BK.out hb); replace O5 := zA (Own.below O5.out hb); replace O4 := zA (Kd.R_below O4.out hb); replace HB := zA (bel HB.out hb)
  rw [← hg5] at B5 HLg5
  rw [← hg5]
  clear hg5
  have HZ5 : Aside0 (u5.heap.size ≤ (u5.alloc (.cells #[.slice A5 X.f0.length c5, .slice B5' X.f1.length d5, .int .i64 X.f2, .int .i64 X.f3] 31)).heap.size) := ⟨hb.size⟩
  clear hb
  generalize u5.alloc (.cells #[.slice A5 X.f0.length c5, .slice B5' X.f1.length d5, .int .i64 X.f2, .int .i64 X.f3] 31) = W5 at B5 HLg5 HB BK O5 O4 HZ5 ⊢
  obtain ⟨BK0, BK1, BK2, BK3⟩ := keep4 BK.out; obtain ⟨B50, B51, B52, B53⟩ := keep4 B5.out
  go_wp2_with (fail)
  refine (C2.out _ A5 B5' c5 d5 HB.out.size O5.out.tree).mono ?_
  rintro e u6 ⟨A6, c6, rfl, ho, hb⟩
  clear BK0 BK1 BK2 BK3 B50 B51 B52 B53
  have O6 := zA ho
  clear ho
  have HZ6 : Aside0 (W5.heap.size ≤ u6.heap.size) := ⟨hb.size⟩
  replace BK := zA (blk_below BK.out hb); replace B5 := zA (blk_below B5.out hb); replace O5 := zA (Own.below O5.out hb); replace O4 := zA (Kd.R_below O4.out hb); replace HB := zA (bel HB.out hb)
  clear hb
  obtain ⟨BK0, BK1, BK2, BK3⟩ := keep4 BK.out; obtain ⟨B50, B51, B52, B53⟩ := keep4 B5.out
  go_wp2_with (fail)
  refine (eq_rowP A6 A4 c6 c4 Y u6 (Kd.R_reads' O6.out).2.1 (Kd.R_reads' O6.out).2.2 (Kd.R_reads' O4.out).2.1 (Kd.R_reads' O4.out).2.2 (by have := SY.out; omega)).mono ?_
  rintro e u7 ⟨rfl, hb⟩
  clear BK0 BK1 BK2 BK3 B50 B51 B52 B53
  have HZ7 : Aside0 (u6.heap.size ≤ u7.heap.size) := ⟨hb.size⟩
  replace BK := zA (blk_below BK.out hb); replace B5 := zA (blk_below B5.out hb); replace O5 := zA (Own.below O5.out hb); replace O4 := zA (Kd.R_below O4.out hb); replace O6 := zA (Kd.R_below O6.out hb); replace HB := zA (bel HB.out hb)
  clear hb
  obtain ⟨BK0, BK1, BK2, BK3⟩ := keep4 BK.out; obtain ⟨B50, B51, B52, B53⟩ := keep4 B5.out
  go_upto_region 14 with (fail)
  clear BK0 BK1 BK2 BK3 B50 B51 B52 B53
  refine start_ (n := 5) (S := fun w' => w'.cell? ⟨g, 0, none⟩ = some (.slice A x.f0.length c) ∧ w'.cell? ⟨g, 1, none⟩ = some (.slice B x.f1.length d) ∧ w'.cell? ⟨g, 2, none⟩ = some (.int .i64 x.f2) ∧ w'.cell? ⟨g, 3, none⟩ = some (.int .i64 x.f3) ∧ w'.cell? ⟨g5, 0, none⟩ = some (.slice A5 X.f0.length c5) ∧ w'.cell? ⟨g5, 1, none⟩ = some (.slice B5' X.f1.length d5) ∧ w'.cell? ⟨g5, 2, none⟩ = some (.int .i64 X.f2) ∧ w'.cell? ⟨g5, 3, none⟩ = some (.int .i64 X.f3)) (ds := [4]) #[false, false, false, false, false] (by kernel_rfl) rfl rfl ⟨(blk_cell BK.out 0).trans rfl, (blk_cell BK.out 1).trans rfl, (blk_cell BK.out 2).trans rfl, (blk_cell BK.out 3).trans rfl, (blk_cell B5.out 0).trans rfl, (blk_cell B5.out 1).trans rfl, (blk_cell B5.out 2).trans rfl, (blk_cell B5.out 3).trans rfl⟩ (fun hHeld => ?_)
  have hb : Below u7.heap.size u7 u7.drew := below_drew (Below.refl _ _)
  have HZ8 : Aside0 (u7.heap.size ≤ u7.drew.heap.size) := ⟨Nat.le_refl _⟩
  replace BK := zA (blk_below BK.out hb); replace B5 := zA (blk_below B5.out hb); replace O5 := zA (Own.below O5.out hb); replace O4 := zA (Kd.R_below O4.out hb); replace O6 := zA (Kd.R_below O6.out hb); replace HB := zA (bel HB.out hb)
  clear hb
  generalize u7.drew = W7 at BK B5 O5 O4 O6 HB HZ8 hHeld ⊢
  refine take_ (i := 0) (N := some 45) (v := ?_) (a' := ?_) #[true, false, false, false, false] rfl rfl (by kernel_rfl) (fun _ _ _ h => h) (Or.inl ⟨by rfl, ?_⟩) hHeld ?_ ?_
  rotate_left
  · rintro w' ⟨s0, s1, s2, s3, s4, s5, s6, s7⟩
    go_simp
    with_reducible rfl
  rotate_left
  · simp only [Act.put, sT_, s0_, sS_, i64_w, i32_w]
    rfl
  refine take_ (i := 1) (N := some 46) (v := ?_) (a' := ?_) #[true, true, false, false, false] rfl rfl (by kernel_rfl) (fun _ _ _ h => h) (Or.inl ⟨by rfl, ?_⟩) hHeld ?_ ?_
  rotate_left
  · rintro w' ⟨s0, s1, s2, s3, s4, s5, s6, s7⟩
    go_simp
    with_reducible rfl
  rotate_left
  · simp only [Act.put, sT_, s0_, sS_, i64_w, i32_w]
    rfl
  refine one_ (i := 2) (N := some 47) #[true, true, true, false, false] rfl rfl (by kernel_rfl) (by decide) (fun K hK => ?_)
  refine goes_ Try.func17 (by kernel_rfl) rfl #[.agg #[.slice A x.f0.length c, .slice B x.f1.length d, .int .i64 x.f2, .int .i64 x.f3]] (by rfl) rfl rfl (by (try simp only [List.map_toArray, List.map_cons, List.map_nil]); first | done | rfl) ?_
  refine (T1.out _ HB.out).mono ?_
  rintro e u8 ⟨A8, c8, B8, d8, rfl, ho, hb⟩
  refine ⟨_, rfl, ?_⟩
  have HZ9 : Aside0 (W7.heap.size ≤ u8.heap.size) := ⟨hb.size⟩
  have O8 := zA ho
  clear ho
  replace BK := zA (blk_below BK.out hb); replace B5 := zA (blk_below B5.out hb); replace O5 := zA (Own.below O5.out hb); replace O4 := zA (Kd.R_below O4.out hb); replace O6 := zA (Kd.R_below O6.out hb); replace HB := zA (bel HB.out hb)
  clear hb
  refine hK.out _ _ ⟨(blk_cell BK.out 0).trans rfl, (blk_cell BK.out 1).trans rfl, (blk_cell BK.out 2).trans rfl, (blk_cell BK.out 3).trans rfl, (blk_cell B5.out 0).trans rfl, (blk_cell B5.out 1).trans rfl, (blk_cell B5.out 2).trans rfl, (blk_cell B5.out 3).trans rfl⟩ (fun hHeld => ?_)
  clear hK K
  refine norm_ (a' := ?_) ?_ ?_
  rotate_left
  · show Act.put _ (some 47) _ = _
    simp only [Act.put, sT_, s0_, sS_, i64_w, i32_w]
    rfl
  refine one_ (i := 3) (N := some 48) #[true, true, true, true, false] rfl rfl (by kernel_rfl) (by decide) (fun K hK => ?_)
  refine goes_ Try.func19 (by kernel_rfl) rfl #[.agg #[.slice A5 X.f0.length c5, .slice B5' X.f1.length d5, .int .i64 X.f2, .int .i64 X.f3], .agg #[.slice A8 X.f0.length c8, .slice B8 X.f1.length d8, .int .i64 X.f2, .int .i64 X.f3]] (by rfl) rfl rfl (by (try simp only [List.map_toArray, List.map_cons, List.map_nil]); first | done | rfl) ?_
  refine (eq_tree A5 B5' A8 B8 c5 d5 c8 d8 X u8 O5.out.tree O8.out.tree SX.out).mono ?_
  rintro e u9 ⟨rfl, hb⟩
  refine ⟨_, rfl, ?_⟩
  have HZ10 : Aside0 (u8.heap.size ≤ u9.heap.size) := ⟨hb.size⟩
  skip
  replace BK := zA (blk_below BK.out hb); replace B5 := zA (blk_below B5.out hb); replace O5 := zA (Own.below O5.out hb); replace O8 := zA (Own.below O8.out hb); replace O4 := zA (Kd.R_below O4.out hb); replace O6 := zA (Kd.R_below O6.out hb); replace HB := zA (bel HB.out hb)
  clear hb
  refine hK.out _ _ ⟨(blk_cell BK.out 0).trans rfl, (blk_cell BK.out 1).trans rfl, (blk_cell BK.out 2).trans rfl, (blk_cell BK.out 3).trans rfl, (blk_cell B5.out 0).trans rfl, (blk_cell B5.out 1).trans rfl, (blk_cell B5.out 2).trans rfl, (blk_cell B5.out 3).trans rfl⟩ (fun hHeld => ?_)
  clear hK K
  refine norm_ (a' := ?_) ?_ ?_
  rotate_left
  · show Act.put _ (some 48) _ = _
    simp only [Act.put, sT_, s0_, sS_, i64_w, i32_w]
    rfl
  refine pure_ (i := 4) (N := some 49) (v := ?_) (a' := ?_) #[true, true, true, true, true] rfl rfl (by kernel_rfl) (fun _ _ _ h => h) (Or.inl ⟨by rfl, ?_⟩) ?_ ?_
  rotate_left
  · intro w'
    go_simp
    with_reducible rfl
  rotate_left
  · simp only [Act.put, sT_, s0_, sS_, i64_w, i32_w]
    rfl
  refine done_ (by kernel_rfl) ?_
  clear O8 hHeld
  obtain ⟨BK0, BK1, BK2, BK3⟩ := keep4 BK.out; obtain ⟨B50, B51, B52, B53⟩ := keep4 B5.out
  have hc1 := cnt_le X SX.out
  have hc2 := SY.out
  go_wp2_with (fail)
  refine (mark_own u9 w _ _ X A5 B5' _ c5 _ d5 _ _ 1 HB.out O5.out (by omega) (by omega)).mono ?_
  rintro e u10 ⟨rfl, ht, hb, hkp⟩
  clear BK0 BK1 BK2 BK3 B50 B51 B52 B53
  have HZ11 : Aside0 (u9.heap.size ≤ u10.heap.size) := ⟨hkp.1⟩
  clear ht O5
  have i1 := HZ1.out; have i2 := HZ2.out; have i3 := HZ3.out; have i4 := HZ4.out; have i5 := HZ5.out; have i6 := HZ6.out; have i7 := HZ7.out; have i8 := HZ8.out; have i9 := HZ9.out; have i10 := HZ10.out; have i11 := HZ11.out; have j1 := HLg.out; have j5 := HLg5.out; have k5 := Hg5.out
  replace BK := zA (blk_kept BK.out hkp (fun h => by omega))
  replace B5 := zA (blk_kept B5.out hkp (fun h => by omega))
  replace O4 := zA (Kd.R_kept O4.out hkp (fun k h h' => by omega))
  replace O6 := zA (Kd.R_kept O6.out hkp (fun k h h' => by omega))
  replace HB := zA hb
  clear hb hkp i1 i2 i3 i4 i5 i6 i7 i8 i9 i10 i11 j1 j5 k5
  obtain ⟨BK0, BK1, BK2, BK3⟩ := keep4 BK.out; obtain ⟨B50, B51, B52, B53⟩ := keep4 B5.out
  obtain ⟨K, hK⟩ : ∃ K, K = 1 + cnt X := ⟨_, rfl⟩
  rw [← hK]
  have hK0 : ¬ K < 0 := by omega
  clear hK hc1
  go_wp2_with (fail)
  refine (eq_rowP A6 A4 c6 c4 Y u10 (Kd.R_reads' O6.out).2.1 (Kd.R_reads' O6.out).2.2 (Kd.R_reads' O4.out).2.1 (Kd.R_reads' O4.out).2.2 (by have := SY.out; omega)).mono ?_
  rintro e u11 ⟨rfl, hb⟩
  clear BK0 BK1 BK2 BK3 B50 B51 B52 B53
  have HZ12 : Aside0 (u10.heap.size ≤ u11.heap.size) := ⟨hb.size⟩
  replace BK := zA (blk_below BK.out hb); replace B5 := zA (blk_below B5.out hb); replace O4 := zA (Kd.R_below O4.out hb); replace O6 := zA (Kd.R_below O6.out hb); replace HB := zA (bel HB.out hb)
  clear hb
  obtain ⟨BK0, BK1, BK2, BK3⟩ := keep4 BK.out; obtain ⟨B50, B51, B52, B53⟩ := keep4 B5.out
  go_wp2_with (fail)
  refine (mark_pairs _ (.slice A6 Y.length c6) Y 1 w u11 HB.out O6.out (by omega) (by omega)).mono ?_
  rintro e u12 ⟨rfl, ht, hb, hkp⟩
  clear BK0 BK1 BK2 BK3 B50 B51 B52 B53
  have HZ13 : Aside0 (u11.heap.size ≤ u12.heap.size) := ⟨hkp.1⟩
  clear O6
  have i1 := HZ1.out; have i2 := HZ2.out; have i3 := HZ3.out; have i4 := HZ4.out; have i5 := HZ5.out; have i6 := HZ6.out; have i7 := HZ7.out; have i8 := HZ8.out; have i9 := HZ9.out; have i10 := HZ10.out; have i11 := HZ11.out; have i12 := HZ12.out; have i13 := HZ13.out; have j1 := HLg.out; have j5 := HLg5.out; have k5 := Hg5.out
  replace BK := zA (blk_kept BK.out hkp (fun h => by omega))
  replace B5 := zA (blk_kept B5.out hkp (fun h => by omega))
  replace O4 := zA (Kd.R_kept O4.out hkp (fun k h h' => by omega))
  replace HB := zA hb
  have M6 := zA ht
  clear ht
  clear hb hkp i1 i2 i3 i4 i5 i6 i7 i8 i9 i10 i11 i12 i13 j1 j5 k5
  obtain ⟨BK0, BK1, BK2, BK3⟩ := keep4 BK.out; obtain ⟨B50, B51, B52, B53⟩ := keep4 B5.out
  have HH : Aside0 (∀ V : World, Y.length ≤ c6 → KP.C V A6 Y.length (markPL 1 Y.length) → _) := ⟨fun V hc h => held_rowP Y.length A6 c6 1 V hc h (by omega) (by omega)⟩
  obtain ⟨M, hM⟩ : ∃ M, M = 1 + 2 * (Y.length : Int) := ⟨_, rfl⟩
  rw [← hM] at HH ⊢
  have hM0 : ¬ M < 0 := by omega
  have hMM : (M != M) = false := by simp
  have HML := zA (markPL_length Y.length 1)
  clear hM hc2
  go_wp2_with (fail)
  refine (HH.out _ (by have h := (Kd.R_reads' M6.out).2.1; exact h) (by have h := (Kd.R_reads' M6.out).2.2; rw [HML.out] at h; exact h)).mono ?_
  rintro e u13 ⟨rfl, hb⟩
  clear BK0 BK1 BK2 BK3 B50 B51 B52 B53
  have HZ14 : Aside0 (u12.heap.size ≤ u13.heap.size) := ⟨hb.size⟩
  replace BK := zA (blk_below BK.out hb); replace B5 := zA (blk_below B5.out hb); replace O4 := zA (Kd.R_below O4.out hb); replace M6 := zA (Kd.R_below M6.out hb); replace HB := zA (bel HB.out hb)
  clear hb
  obtain ⟨BK0, BK1, BK2, BK3⟩ := keep4 BK.out; obtain ⟨B50, B51, B52, B53⟩ := keep4 B5.out
  go_wp2_with (fail)
  refine (T1.out _ HB.out).mono ?_
  rintro e u14 ⟨A14, c14, B14, d14, rfl, ho, hb⟩
  clear BK0 BK1 BK2 BK3 B50 B51 B52 B53
  have O14 := zA ho
  clear ho
  have HZ15 : Aside0 (u13.heap.size ≤ u14.heap.size) := ⟨hb.size⟩
  replace BK := zA (blk_below BK.out hb); replace B5 := zA (blk_below B5.out hb); replace O4 := zA (Kd.R_below O4.out hb); replace M6 := zA (Kd.R_below M6.out hb); replace HB := zA (bel HB.out hb)
  clear hb
  obtain ⟨BK0, BK1, BK2, BK3⟩ := keep4 BK.out; obtain ⟨B50, B51, B52, B53⟩ := keep4 B5.out
  go_wp2_with (fail)
  refine (C2.out _ A14 B14 c14 d14 HB.out.size O14.out.tree).mono ?_
  rintro e u15 ⟨A15, c15, rfl, ho, hb⟩
  clear BK0 BK1 BK2 BK3 B50 B51 B52 B53
  have O15 := zA ho
  clear ho O14
  have HZ16 : Aside0 (u14.heap.size ≤ u15.heap.size) := ⟨hb.size⟩
  replace BK := zA (blk_below BK.out hb); replace B5 := zA (blk_below B5.out hb); replace O4 := zA (Kd.R_below O4.out hb); replace M6 := zA (Kd.R_below M6.out hb); replace HB := zA (bel HB.out hb)
  clear hb
  obtain ⟨BK0, BK1, BK2, BK3⟩ := keep4 BK.out; obtain ⟨B50, B51, B52, B53⟩ := keep4 B5.out
  go_wp2_with (fail)
  refine (eq_rowP A15 A4 c15 c4 Y u15 (Kd.R_reads' O15.out).2.1 (Kd.R_reads' O15.out).2.2 (Kd.R_reads' O4.out).2.1 (Kd.R_reads' O4.out).2.2 (by have := SY.out; omega)).mono ?_
  rintro e u16 ⟨rfl, hb⟩
  clear BK0 BK1 BK2 BK3 B50 B51 B52 B53
  have HZ17 : Aside0 (u15.heap.size ≤ u16.heap.size) := ⟨hb.size⟩
  replace BK := zA (blk_below BK.out hb); replace B5 := zA (blk_below B5.out hb); replace O4 := zA (Kd.R_below O4.out hb); replace M6 := zA (Kd.R_below M6.out hb); replace O15 := zA (Kd.R_below O15.out hb); replace HB := zA (bel HB.out hb)
  clear hb
  obtain ⟨BK0, BK1, BK2, BK3⟩ := keep4 BK.out; obtain ⟨B50, B51, B52, B53⟩ := keep4 B5.out
  go_wp2_with (fail)
  refine (HH.out _ (by have h := (Kd.R_reads' M6.out).2.1; exact h) (by have h := (Kd.R_reads' M6.out).2.2; rw [HML.out] at h; exact h)).mono ?_
  rintro e u17 ⟨rfl, hb⟩
  clear BK0 BK1 BK2 BK3 B50 B51 B52 B53
  have HZ18 : Aside0 (u16.heap.size ≤ u17.heap.size) := ⟨hb.size⟩
  replace BK := zA (blk_below BK.out hb); replace B5 := zA (blk_below B5.out hb); replace O4 := zA (Kd.R_below O4.out hb); replace M6 := zA (Kd.R_below M6.out hb); replace O15 := zA (Kd.R_below O15.out hb); replace HB := zA (bel HB.out hb)
  clear hb
  obtain ⟨BK0, BK1, BK2, BK3⟩ := keep4 BK.out; obtain ⟨B50, B51, B52, B53⟩ := keep4 B5.out
  go_wp2_with (fail)
  go_ret
  exact ⟨rfl, by first | exact HB.out | exact HB.out.drew⟩
theorem scan_row (w : World) (cs : Array Value) (x : LTre) (hK : kp25.K w x cs.toList) (ok : ok_Tree x) (fr : ByteArray) (hf1 : fr.size ≤ maxLen) (_ : fr.size ≤ 140737488351232) (til : ByteArray) (hf2 : til.size ≤ maxLen) (_ : til.size ≤ 140737488351232) (seq : Int) (_ : (Lit.int .i64 seq).wf = true) :
    Calls Try.prog 13 #[.agg cs, .string fr, .string til, .int .i64 seq] w fun e w' => e = .returned (.bool true) ∧ Below w.heap.size w w' := scan_walk w cs x fr til seq hf1 hf2 hK ok
end Go.Proofs.Ythffllegmkolgaa.TreeK
