/- The law FnExactLook, called with whatever can be read: it returns true and nothing that was there has changed. -/
import Derived.Test.YthffllegmkolgaaT1LookCalls
import Derived.Deep.RegionHeld3
namespace Go.Proofs.Ythffllegmkolgaa.TreeK
open Go.RowKit Go.Proofs.YthffllegmkolgaaW.PrintWords Go.Proofs.YthffllegmkolgaaW.PrintLast Go.Proofs.YthffllegmkolgaaW.PrintMore Go.Proofs.Ythffllegmkolgaa.QTree Go.Proofs.Ythffllegmkolgaa.EvKit Go.Proofs.Ythffllegmkolgaa.GTree
set_option maxHeartbeats 3200000 in
set_option maxRecDepth 100000 in
theorem look_walk (w : World) (cs : Array Value) (x : LTre) (key : ByteArray) (seq : Int) (hK : kp25.K w x cs.toList) (ok : ok_Tree x) (hkm : key.size ≤ maxLen) :
    Calls Try.prog 4 #[.agg cs, .string key, .int .i64 seq] w fun e w' => e = .returned (.bool true) ∧ Below w.heap.size w w' := by
  obtain ⟨A, c, B, d, e, h0⟩ := tree_open hK
  obtain rfl : cs = #[.slice A x.f0.length c, .slice B x.f1.length d, .int .i64 x.f2, .int .i64 x.f3] := by rw [← Array.toList_inj]; exact e
  clear hK
  obtain ⟨v, hv, _, hq⟩ := sz_Tree x ok 1048576 (by omega) (by omega)
  obtain ⟨k, hk⟩ := Ev.rounds hv
  have S1 : ∀ V : World, Below w.heap.size w V → Calls Try.prog 15 #[.agg #[.slice A x.f0.length c, .slice B x.f1.length d, .int .i64 x.f2, .int .i64 x.f3], .int .i64 1048576] V fun e w' => e = .returned (.int .i64 v) ∧ Below V.heap.size V w' := fun V hb => laws_szTree.calls k A c _ B d _ _ _ _ _ V (h0.below hb).1.2 h0.1.1 (h0.below hb).2.2 h0.2.1 hk
  replace S1 := Aside0.mk S1
  clear hv hk k e
  have hkm2 : Aside0 (key.size ≤ maxLen) := ⟨hkm⟩
  have hkm3 : key.size ≤ 9223372036854775807 := by unfold maxLen at hkm; omega
  clear hkm
  go_enter Try.func4, Try.ntmps4
  go_upto_region 1 with (fail)
  have BK := Aside0.mk (blk_new w (.cells #[.slice A x.f0.length c, .slice B x.f1.length d, .int .i64 x.f2, .int .i64 x.f3] 25))
  have HB := Aside0.mk (bel_alloc w (.cells #[.slice A x.f0.length c, .slice B x.f1.length d, .int .i64 x.f2, .int .i64 x.f3] 25))
  obtain ⟨g, hgg⟩ : ∃ g, g = w.heap.size := ⟨_, rfl⟩
  rw [← hgg] at BK
  simp only [← hgg]
  clear hgg
  generalize w.alloc (.cells #[.slice A x.f0.length c, .slice B x.f1.length d, .int .i64 x.f2, .int .i64 x.f3] 25) = W at *
  have hz0 := (blk_cell BK.out 0).trans rfl
  have hz1 := (blk_cell BK.out 1).trans rfl
  have hz2 := (blk_cell BK.out 2).trans rfl
  have hz3 := (blk_cell BK.out 3).trans rfl
  have hfz0 := blk_frozen BK.out 0
  have hfz1 := blk_frozen BK.out 1
  have hfz2 := blk_frozen BK.out 2
  have hfz3 := blk_frozen BK.out 3
  clear hz0 hfz0 hz1 hfz1 hz2 hfz2 hz3 hfz3
  have hkBK := keep4 BK.out; obtain ⟨BK0, BK1, BK2, BK3⟩ := hkBK
  by_cases hlen : (key.size : Int) > 1048576
  · go_wp2_with (fail)
    go_ret
    exact ⟨rfl, by repeat (first | (with_reducible exact HB.out) | apply pw_below_drewN)⟩
  by_cases hv0 : v < 0
  · go_wp2_with (go_at_call 15; refine (S1.out _ (by repeat (first | (with_reducible exact HB.out) | apply pw_below_drewN))).mono ?_; rintro e w' ⟨rfl, hb⟩; replace HB := Aside0.mk (bel (by repeat (first | (with_reducible exact HB.out) | apply pw_below_drewN)) hb); clear hb)
    go_ret
    exact ⟨rfl, by repeat (first | (with_reducible exact HB.out) | apply pw_below_drewN)⟩
  have hs := Aside0.mk (hq (by omega))
  clear hq
  have T1 : ∀ V : World, Below w.heap.size w V → _ := fun V hb => to_tree A B c d x V (h0.below hb) hs.out
  replace T1 := Aside0.mk T1
  clear h0 ok
  go_wp2_with (fail)
  refine (S1.out _ (by repeat (first | (with_reducible exact HB.out) | apply pw_below_drewN))).mono ?_; rintro e w' ⟨rfl, hb⟩; replace BK := Aside0.mk (blk_below (show _ = some _ from (by (with_reducible repeat (first | refine blk_drewN ?_ _ | refine blk_drew ?_)); exact BK.out)) hb); replace HB := Aside0.mk (bel (by repeat (first | (with_reducible exact HB.out) | apply pw_below_drewN)) hb); clear hb BK0 BK1 BK2 BK3; have hkBK := keep4 BK.out; obtain ⟨BK0, BK1, BK2, BK3⟩ := hkBK
  go_wp2_with (fail)
  refine (T1.out _ (by repeat (first | (with_reducible exact HB.out) | apply pw_below_drewN))).mono ?_; rintro e w' ⟨A3, c3, B3, d3, rfl, hm, hb⟩; replace BK := Aside0.mk (blk_below (show _ = some _ from (by (with_reducible repeat (first | refine blk_drewN ?_ _ | refine blk_drew ?_)); exact BK.out)) hb); replace HB := Aside0.mk (bel (by repeat (first | (with_reducible exact HB.out) | apply pw_below_drewN)) hb); clear hb BK0 BK1 BK2 BK3; have hkBK := keep4 BK.out; obtain ⟨BK0, BK1, BK2, BK3⟩ := hkBK
  have HM := Aside0.mk hm
  clear hm
  obtain ⟨⟨r0, r1⟩, hr⟩ : ∃ r, lookX (to_Tree x) key seq = r := ⟨_, rfl⟩
  replace hr := Aside0.mk hr
  go_wp2_with (fail)
  refine (call_look_spec A3 B3 c3 d3 _ key seq _ HM.out hs.out).mono ?_; rw [hr.out]; rintro e w' ⟨rfl, hb⟩; replace BK := Aside0.mk (blk_below (show _ = some _ from (by (with_reducible repeat (first | refine blk_drewN ?_ _ | refine blk_drew ?_)); exact BK.out)) hb); replace HB := Aside0.mk (bel (by repeat (first | (with_reducible exact HB.out) | apply pw_below_drewN)) hb); clear hb BK0 BK1 BK2 BK3; have hkBK := keep4 BK.out; obtain ⟨BK0, BK1, BK2, BK3⟩ := hkBK
  clear HM
  go_wp2_with (fail)
  refine (T1.out _ (by repeat (first | (with_reducible exact HB.out) | apply pw_below_drewN))).mono ?_; rintro e w' ⟨A5, c5, B5, d5, rfl, hm, hb⟩; replace BK := Aside0.mk (blk_below (show _ = some _ from (by (with_reducible repeat (first | refine blk_drewN ?_ _ | refine blk_drew ?_)); exact BK.out)) hb); replace HB := Aside0.mk (bel (by repeat (first | (with_reducible exact HB.out) | apply pw_below_drewN)) hb); clear hb BK0 BK1 BK2 BK3; have hkBK := keep4 BK.out; obtain ⟨BK0, BK1, BK2, BK3⟩ := hkBK
  have HM := Aside0.mk hm
  clear hm
  go_upto_region 9 with (fail)
  have BX := Aside0.mk (blk_new w' (.cells #[.slice A5 (to_Tree x).f0.length c5, .slice B5 (to_Tree x).f1.length d5, .int .i64 (to_Tree x).f2, .int .i64 (to_Tree x).f3] 31))
  have hb := bel_alloc w' (.cells #[.slice A5 (to_Tree x).f0.length c5, .slice B5 (to_Tree x).f1.length d5, .int .i64 (to_Tree x).f2, .int .i64 (to_Tree x).f3] 31)
  replace BK := Aside0.mk (blk_below (show _ = some _ from (by (with_reducible repeat (first | refine blk_drewN ?_ _ | refine blk_drew ?_)); exact BK.out)) hb)
  replace HM := Aside0.mk (HM.out.below hb)
  replace HB := Aside0.mk (bel (by repeat (first | (with_reducible exact HB.out) | apply pw_below_drewN)) hb)
  clear hb BK0 BK1 BK2 BK3
  generalize w'.alloc (.cells #[.slice A5 (to_Tree x).f0.length c5, .slice B5 (to_Tree x).f1.length d5, .int .i64 (to_Tree x).f2, .int .i64 (to_Tree x).f3] 31) = W2 at *
  generalize w'.heap.size = g2 at *
  clear w'
  have hkBK := keep4 BK.out; obtain ⟨BK0, BK1, BK2, BK3⟩ := hkBK
  have hkBX := keep4 BX.out; obtain ⟨BX0, BX1, BX2, BX3⟩ := hkBX
  go_wp2_with (fail)
  refine (call_look_impl A5 B5 c5 d5 _ key seq _ HM.out hs.out hkm2.out).mono ?_; rw [hr.out]; rintro e w' ⟨rfl, hb⟩; replace BK := Aside0.mk (blk_below (show _ = some _ from (by (with_reducible repeat (first | refine blk_drewN ?_ _ | refine blk_drew ?_)); exact BK.out)) hb); replace BX := Aside0.mk (blk_below (show _ = some _ from (by (with_reducible repeat (first | refine blk_drewN ?_ _ | refine blk_drew ?_)); exact BX.out)) hb); replace HM := Aside0.mk (HM.out.below hb); replace HB := Aside0.mk (bel (by repeat (first | (with_reducible exact HB.out) | apply pw_below_drewN)) hb); clear hb BK0 BK1 BK2 BK3 BX0 BX1 BX2 BX3; have hkBK := keep4 BK.out; obtain ⟨BK0, BK1, BK2, BK3⟩ := hkBK; have hkBX := keep4 BX.out; obtain ⟨BX0, BX1, BX2, BX3⟩ := hkBX
  clear hr
  have hbb : (r1 != r1) = false := by cases r1 <;> rfl
  have hss : (r0.toList != r0.toList) = false := by simp
  go_upto_region 12 with (fail)
  go_region_held3 (fun w' => (w'.cell? ⟨g, 0, none⟩ = some (.slice A x.f0.length c) ∧ w'.cell? ⟨g, 1, none⟩ = some (.slice B x.f1.length d) ∧ w'.cell? ⟨g, 2, none⟩ = some (.int .i64 x.f2) ∧ w'.cell? ⟨g, 3, none⟩ = some (.int .i64 x.f3)) ∧ (w'.cell? ⟨g2, 0, none⟩ = some (.slice A5 (to_Tree x).f0.length c5) ∧ w'.cell? ⟨g2, 1, none⟩ = some (.slice B5 (to_Tree x).f1.length d5) ∧ w'.cell? ⟨g2, 2, none⟩ = some (.int .i64 (to_Tree x).f2) ∧ w'.cell? ⟨g2, 3, none⟩ = some (.int .i64 (to_Tree x).f3))) (exact ⟨keep4 (by (with_reducible repeat (first | refine blk_drewN ?_ _ | refine blk_drew ?_)); exact BK.out), keep4 (by (with_reducible repeat (first | refine blk_drewN ?_ _ | refine blk_drew ?_)); exact BX.out)⟩) (first | (go_at_call 17; refine (T1.out _ HB.out.drew).mono ?_; rintro e w' ⟨A7, c7, B7, d7, rfl, hm, hb⟩; replace BK := Aside0.mk (blk_below (show _ = some _ from (by (with_reducible repeat (first | refine blk_drewN ?_ _ | refine blk_drew ?_)); exact BK.out)) hb); replace BX := Aside0.mk (blk_below (show _ = some _ from (by (with_reducible repeat (first | refine blk_drewN ?_ _ | refine blk_drew ?_)); exact BX.out)) hb); have HN := Aside0.mk hm; replace HM := Aside0.mk (HM.out.below ((Below.refl _ _).drew.trans hb)); replace HB := Aside0.mk (bel HB.out.drew hb); clear hb hm BK0 BK1 BK2 BK3 BX0 BX1 BX2 BX3; have hkBK := keep4 BK.out; obtain ⟨BK0, BK1, BK2, BK3⟩ := hkBK; have hkBX := keep4 BX.out; obtain ⟨BX0, BX1, BX2, BX3⟩ := hkBX) | (go_at_call 19; refine (eq_tree A5 B5 A7 B7 c5 d5 c7 d7 _ _ HM.out HN.out hs.out).mono ?_; rintro e w' ⟨rfl, hb⟩; replace BK := Aside0.mk (blk_below (show _ = some _ from (by (with_reducible repeat (first | refine blk_drewN ?_ _ | refine blk_drew ?_)); exact BK.out)) hb); replace BX := Aside0.mk (blk_below (show _ = some _ from (by (with_reducible repeat (first | refine blk_drewN ?_ _ | refine blk_drew ?_)); exact BX.out)) hb); replace HB := Aside0.mk (bel HB.out hb); clear hb BK0 BK1 BK2 BK3 BX0 BX1 BX2 BX3; have hkBK := keep4 BK.out; obtain ⟨BK0, BK1, BK2, BK3⟩ := hkBK; have hkBX := keep4 BX.out; obtain ⟨BX0, BX1, BX2, BX3⟩ := hkBX))
  all_goals (go_wp2_with (fail); go_ret; exact ⟨rfl, by first | exact HB.out | exact HB.out.drew⟩)
theorem look_row (w : World) (cs : Array Value) (x : LTre) (hK : kp25.K w x cs.toList) (ok : ok_Tree x) (key : ByteArray) (hkm : key.size ≤ maxLen) (_ : key.size ≤ 140737488351232) (seq : Int) (_ : (Lit.int .i64 seq).wf = true) :
    Calls Try.prog 4 #[.agg cs, .string key, .int .i64 seq] w fun e w' => e = .returned (.bool true) ∧ Below w.heap.size w w' := look_walk w cs x key seq hK ok hkm
end Go.Proofs.Ythffllegmkolgaa.TreeK
