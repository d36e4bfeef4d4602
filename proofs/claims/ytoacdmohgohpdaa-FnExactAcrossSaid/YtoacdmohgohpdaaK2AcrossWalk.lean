/- The law FnExactAcross, called with whatever can be read: it returns true and nothing that was there has changed. -/
import Derived.Test.YtoacdmohgohpdaaK2MirLawKit
import Derived.Test.YtoacdmohgohpdaaK2AcrWalk
import Derived.Deep.RegionHeld3
namespace Go.Proofs.Ytoacdmohgohpdaa.LogK
open Go.RowKit Go.Proofs.YtoacdmohgohpdaaW.PrintWords Go.Proofs.YtoacdmohgohpdaaW.PrintLast Go.Proofs.YtoacdmohgohpdaaW.PrintMore Go.Proofs.Ytoacdmohgohpdaa.QFnExactBehind Go.Proofs.Ytoacdmohgohpdaa.EvKit Go.Proofs.Ytoacdmohgohpdaa.GFnExactBehind
theorem call_acr_spec (A B : Option Addr) (c d : Nat) (x : Mir) (o : Int) (V : Int) (W : World) (hV : acrB x.f0.f0 x.f0.f1 (mirB x) x.f2 o = V) (h : MirC W x A c B d) (s : sm_Mirror x) :
    Calls Try.prog 32 #[.agg #[.int .i64 x.f0.f0, .int .i64 x.f0.f1, .int .i64 x.f0.f2, .slice A x.f0.f3.length c, .int .i64 x.f1, .slice B x.f2.length d], .int .i64 o] W fun e w' => e = .returned (.int .i64 V) ∧ Below W.heap.size W w' :=
  spec_across _ _ _ _ A B c d _ _ o W h.1.2 h.1.1 (smL_of s.1.2.2.2) h.2.2 h.2.1 s.2.2.1 V hV
theorem call_acr_impl (A B : Option Addr) (c d : Nat) (x : Mir) (o : Int) (V : Int) (W : World) (hV : acrB x.f0.f0 x.f0.f1 (mirB x) x.f2 o = V) (h : MirC W x A c B d) (s : sm_Mirror x) :
    Calls Try.prog 33 #[.agg #[.int .i64 x.f0.f0, .int .i64 x.f0.f1, .int .i64 x.f0.f2, .slice A x.f0.f3.length c, .int .i64 x.f1, .slice B x.f2.length d], .int .i64 o] W fun e w' => e = .returned (.int .i64 V) ∧ Below W.heap.size W w' :=
  impl_across _ _ _ _ A B c d _ _ o W h.1.2 h.1.1 (smL_of s.1.2.2.2) h.2.2 h.2.1 s.2.2.1 V hV
set_option maxHeartbeats 3200000 in
set_option maxRecDepth 100000 in
theorem across_walk (w : World) (cs : Array Value) (x : LMir) (hK : kp49.K w x cs.toList) (ok : ok_Mirror x) (o : Int) (_ : (Lit.int .i64 o).wf = true) :
    Calls Try.prog 7 #[.agg cs, .int .i64 o] w fun e w' => e = .returned (.bool true) ∧ Below w.heap.size w w' := by
  obtain ⟨A, c, B, d, e, h0⟩ := mir_open hK
  obtain rfl : cs = #[.int .i64 x.f0.f0, .int .i64 x.f0.f1, .int .i64 x.f0.f2, .slice A x.f0.f3.length c, .int .i64 x.f1, .slice B x.f2.length d] := by rw [← Array.toList_inj]; exact e
  clear hK
  obtain ⟨v, hv, _, hq⟩ := sz_Mirror x ok 1048576 (by omega) (by omega)
  obtain ⟨k, hk⟩ := Ev.rounds hv
  have S1 : ∀ V : World, Below w.heap.size w V → Calls Try.prog 23 #[.agg #[.int .i64 x.f0.f0, .int .i64 x.f0.f1, .int .i64 x.f0.f2, .slice A x.f0.f3.length c, .int .i64 x.f1, .slice B x.f2.length d], .int .i64 1048576] V fun e w' => e = .returned (.int .i64 v) ∧ Below V.heap.size V w' := fun V hb => laws_szMirror.calls k _ _ _ A c _ _ B d _ _ _ V (Kd.C_below h0.1.2 hb) h0.1.1 (Kd.C_below h0.2.2 hb) h0.2.1 hk
  replace S1 := Aside0.mk S1
  clear hv hk k e
  go_enter Try.func7, Try.ntmps7
  go_upto_region 1 with (fail)
  have BK := Aside0.mk (blk_new w (.cells #[.int .i64 x.f0.f0, .int .i64 x.f0.f1, .int .i64 x.f0.f2, .slice A x.f0.f3.length c, .int .i64 x.f1, .slice B x.f2.length d] 49))
  have HB := Aside0.mk (bel_alloc w (.cells #[.int .i64 x.f0.f0, .int .i64 x.f0.f1, .int .i64 x.f0.f2, .slice A x.f0.f3.length c, .int .i64 x.f1, .slice B x.f2.length d] 49))
  obtain ⟨g, hgg⟩ : ∃ g, g = w.heap.size := ⟨_, rfl⟩
  rw [← hgg] at BK
  simp only [← hgg]
  clear hgg
  generalize w.alloc (.cells #[.int .i64 x.f0.f0, .int .i64 x.f0.f1, .int .i64 x.f0.f2, .slice A x.f0.f3.length c, .int .i64 x.f1, .slice B x.f2.length d] 49) = W at *
  have hz0 := (blk_cell BK.out 0).trans rfl
  have hz1 := (blk_cell BK.out 1).trans rfl
  have hz2 := (blk_cell BK.out 2).trans rfl
  have hz3 := (blk_cell BK.out 3).trans rfl
  have hz4 := (blk_cell BK.out 4).trans rfl
  have hz5 := (blk_cell BK.out 5).trans rfl
  have hfz0 := blk_frozen BK.out 0
  have hfz1 := blk_frozen BK.out 1
  have hfz2 := blk_frozen BK.out 2
  have hfz3 := blk_frozen BK.out 3
  have hfz4 := blk_frozen BK.out 4
  have hfz5 := blk_frozen BK.out 5
  clear hz0 hfz0 hz1 hfz1 hz2 hfz2 hz3 hfz3 hz4 hfz4 hz5 hfz5
  have hkBK := keep6 BK.out; obtain ⟨BK0, BK1, BK2, BK3, BK4, BK5⟩ := hkBK
  by_cases hv0 : v < 0
  · go_wp2_with (go_at_call 23; refine (S1.out _ (by repeat (first | (with_reducible exact HB.out) | apply pw_below_drewN))).mono ?_; rintro e w' ⟨rfl, hb⟩; replace HB := Aside0.mk (bel (by repeat (first | (with_reducible exact HB.out) | apply pw_below_drewN)) hb); clear hb)
    go_ret
    exact ⟨rfl, by repeat (first | (with_reducible exact HB.out) | apply pw_below_drewN)⟩
  have hs := Aside0.mk (hq (by omega))
  clear hq
  have T1 : ∀ V : World, Below w.heap.size w V → _ := fun V hb => to_mir A B c d x V ⟨⟨h0.1.1, Kd.C_below h0.1.2 hb⟩, h0.2.1, Kd.C_below h0.2.2 hb⟩ hs.out
  replace T1 := Aside0.mk T1
  obtain ⟨V, hV⟩ : ∃ V : Int, acrB (to_Mirror x).f0.f0 (to_Mirror x).f0.f1 (mirB (to_Mirror x)) (to_Mirror x).f2 o = V := ⟨_, rfl⟩
  replace hV := Aside0.mk hV
  clear h0 ok
  go_wp2_with (fail)
  refine (S1.out _ (by repeat (first | (with_reducible exact HB.out) | apply pw_below_drewN))).mono ?_; rintro e w' ⟨rfl, hb⟩; replace BK := Aside0.mk (blk_below (show _ = some _ from (by (with_reducible repeat (first | refine blk_drewN ?_ _ | refine blk_drew ?_)); exact BK.out)) hb); replace HB := Aside0.mk (bel (by repeat (first | (with_reducible exact HB.out) | apply pw_below_drewN)) hb); clear hb BK0 BK1 BK2 BK3 BK4 BK5; have hkBK := keep6 BK.out; obtain ⟨BK0, BK1, BK2, BK3, BK4, BK5⟩ := hkBK
  go_wp2_with (fail)
  refine (T1.out _ (by repeat (first | (with_reducible exact HB.out) | apply pw_below_drewN))).mono ?_; rintro e w' ⟨A3, c3, B3, d3, rfl, hm, hb⟩; replace BK := Aside0.mk (blk_below (show _ = some _ from (by (with_reducible repeat (first | refine blk_drewN ?_ _ | refine blk_drew ?_)); exact BK.out)) hb); replace HB := Aside0.mk (bel (by repeat (first | (with_reducible exact HB.out) | apply pw_below_drewN)) hb); clear hb BK0 BK1 BK2 BK3 BK4 BK5; have hkBK := keep6 BK.out; obtain ⟨BK0, BK1, BK2, BK3, BK4, BK5⟩ := hkBK
  have HM := Aside0.mk hm
  clear hm
  go_wp2_with (fail)
  refine (call_acr_spec A3 B3 c3 d3 _ o V _ hV.out HM.out hs.out).mono ?_; rintro e w' ⟨rfl, hb⟩; replace BK := Aside0.mk (blk_below (show _ = some _ from (by (with_reducible repeat (first | refine blk_drewN ?_ _ | refine blk_drew ?_)); exact BK.out)) hb); replace HB := Aside0.mk (bel (by repeat (first | (with_reducible exact HB.out) | apply pw_below_drewN)) hb); clear hb BK0 BK1 BK2 BK3 BK4 BK5; have hkBK := keep6 BK.out; obtain ⟨BK0, BK1, BK2, BK3, BK4, BK5⟩ := hkBK
  clear HM
  go_wp2_with (fail)
  refine (T1.out _ (by repeat (first | (with_reducible exact HB.out) | apply pw_below_drewN))).mono ?_; rintro e w' ⟨A5, c5, B5, d5, rfl, hm, hb⟩; replace BK := Aside0.mk (blk_below (show _ = some _ from (by (with_reducible repeat (first | refine blk_drewN ?_ _ | refine blk_drew ?_)); exact BK.out)) hb); replace HB := Aside0.mk (bel (by repeat (first | (with_reducible exact HB.out) | apply pw_below_drewN)) hb); clear hb BK0 BK1 BK2 BK3 BK4 BK5; have hkBK := keep6 BK.out; obtain ⟨BK0, BK1, BK2, BK3, BK4, BK5⟩ := hkBK
  have HM := Aside0.mk hm
  clear hm
  go_upto_region 7 with (fail)
  have BX := Aside0.mk (blk_new w' (.cells #[.int .i64 (to_Mirror x).f0.f0, .int .i64 (to_Mirror x).f0.f1, .int .i64 (to_Mirror x).f0.f2, .slice A5 (to_Mirror x).f0.f3.length c5, .int .i64 (to_Mirror x).f1, .slice B5 (to_Mirror x).f2.length d5] 39))
  have hb := bel_alloc w' (.cells #[.int .i64 (to_Mirror x).f0.f0, .int .i64 (to_Mirror x).f0.f1, .int .i64 (to_Mirror x).f0.f2, .slice A5 (to_Mirror x).f0.f3.length c5, .int .i64 (to_Mirror x).f1, .slice B5 (to_Mirror x).f2.length d5] 39)
  replace BK := Aside0.mk (blk_below (show _ = some _ from (by (with_reducible repeat (first | refine blk_drewN ?_ _ | refine blk_drew ?_)); exact BK.out)) hb)
  replace HM := Aside0.mk (HM.out.below hb)
  replace HB := Aside0.mk (bel (by repeat (first | (with_reducible exact HB.out) | apply pw_below_drewN)) hb)
  clear hb BK0 BK1 BK2 BK3 BK4 BK5
  generalize w'.alloc (.cells #[.int .i64 (to_Mirror x).f0.f0, .int .i64 (to_Mirror x).f0.f1, .int .i64 (to_Mirror x).f0.f2, .slice A5 (to_Mirror x).f0.f3.length c5, .int .i64 (to_Mirror x).f1, .slice B5 (to_Mirror x).f2.length d5] 39) = W2 at *
  generalize w'.heap.size = g2 at *
  clear w'
  have hkBK := keep6 BK.out; obtain ⟨BK0, BK1, BK2, BK3, BK4, BK5⟩ := hkBK
  have hkBX := keep6 BX.out; obtain ⟨BX0, BX1, BX2, BX3, BX4, BX5⟩ := hkBX
  go_wp2_with (fail)
  refine (call_acr_impl A5 B5 c5 d5 _ o V _ hV.out HM.out hs.out).mono ?_; rintro e w' ⟨rfl, hb⟩; replace BK := Aside0.mk (blk_below (show _ = some _ from (by (with_reducible repeat (first | refine blk_drewN ?_ _ | refine blk_drew ?_)); exact BK.out)) hb); replace BX := Aside0.mk (blk_below (show _ = some _ from (by (with_reducible repeat (first | refine blk_drewN ?_ _ | refine blk_drew ?_)); exact BX.out)) hb); replace HM := Aside0.mk (HM.out.below hb); replace HB := Aside0.mk (bel (by repeat (first | (with_reducible exact HB.out) | apply pw_below_drewN)) hb); clear hb BK0 BK1 BK2 BK3 BK4 BK5 BX0 BX1 BX2 BX3 BX4 BX5; have hkBK := keep6 BK.out; obtain ⟨BK0, BK1, BK2, BK3, BK4, BK5⟩ := hkBK; have hkBX := keep6 BX.out; obtain ⟨BX0, BX1, BX2, BX3, BX4, BX5⟩ := hkBX
  have hbb : (V != V) = false := by simp
  go_upto_region 10 with (fail)
  go_region_held3 (fun w' => (w'.cell? ⟨g, 0, none⟩ = some (.int .i64 x.f0.f0) ∧ w'.cell? ⟨g, 1, none⟩ = some (.int .i64 x.f0.f1) ∧ w'.cell? ⟨g, 2, none⟩ = some (.int .i64 x.f0.f2) ∧ w'.cell? ⟨g, 3, none⟩ = some (.slice A x.f0.f3.length c) ∧ w'.cell? ⟨g, 4, none⟩ = some (.int .i64 x.f1) ∧ w'.cell? ⟨g, 5, none⟩ = some (.slice B x.f2.length d)) ∧ (w'.cell? ⟨g2, 0, none⟩ = some (.int .i64 (to_Mirror x).f0.f0) ∧ w'.cell? ⟨g2, 1, none⟩ = some (.int .i64 (to_Mirror x).f0.f1) ∧ w'.cell? ⟨g2, 2, none⟩ = some (.int .i64 (to_Mirror x).f0.f2) ∧ w'.cell? ⟨g2, 3, none⟩ = some (.slice A5 (to_Mirror x).f0.f3.length c5) ∧ w'.cell? ⟨g2, 4, none⟩ = some (.int .i64 (to_Mirror x).f1) ∧ w'.cell? ⟨g2, 5, none⟩ = some (.slice B5 (to_Mirror x).f2.length d5))) (exact ⟨keep6 (by (with_reducible repeat (first | refine blk_drewN ?_ _ | refine blk_drew ?_)); exact BK.out), keep6 (by (with_reducible repeat (first | refine blk_drewN ?_ _ | refine blk_drew ?_)); exact BX.out)⟩) (first | (go_at_call 25; refine (T1.out _ (by first | exact HB.out | exact HB.out.drew | exact pw_below_drewN HB.out _ | exact (pw_below_drewN HB.out _).drew | exact HB.out.drew.drew)).mono ?_; rintro e w' ⟨A7, c7, B7, d7, rfl, hm, hb⟩; replace BK := Aside0.mk (blk_below (show _ = some _ from (by (with_reducible repeat (first | refine blk_drewN ?_ _ | refine blk_drew ?_)); exact BK.out)) hb); replace BX := Aside0.mk (blk_below (show _ = some _ from (by (with_reducible repeat (first | refine blk_drewN ?_ _ | refine blk_drew ?_)); exact BX.out)) hb); have HN := Aside0.mk hm; replace HM := Aside0.mk (HM.out.below ((Below.refl _ _).drew.trans hb)); replace HB := Aside0.mk (bel (by first | exact HB.out | exact HB.out.drew | exact pw_below_drewN HB.out _ | exact (pw_below_drewN HB.out _).drew | exact HB.out.drew.drew) hb); clear hb hm BK0 BK1 BK2 BK3 BK4 BK5 BX0 BX1 BX2 BX3 BX4 BX5; have hkBK := keep6 BK.out; obtain ⟨BK0, BK1, BK2, BK3, BK4, BK5⟩ := hkBK; have hkBX := keep6 BX.out; obtain ⟨BX0, BX1, BX2, BX3, BX4, BX5⟩ := hkBX) | (go_at_call 20; refine (eq_mir A5 B5 A7 B7 c5 d5 c7 d7 _ _ HM.out HN.out hs.out).mono ?_; rintro e w' ⟨rfl, hb⟩; replace BK := Aside0.mk (blk_below (show _ = some _ from (by (with_reducible repeat (first | refine blk_drewN ?_ _ | refine blk_drew ?_)); exact BK.out)) hb); replace BX := Aside0.mk (blk_below (show _ = some _ from (by (with_reducible repeat (first | refine blk_drewN ?_ _ | refine blk_drew ?_)); exact BX.out)) hb); replace HB := Aside0.mk (bel (by first | exact HB.out | exact HB.out.drew | exact pw_below_drewN HB.out _ | exact (pw_below_drewN HB.out _).drew | exact HB.out.drew.drew) hb); clear hb BK0 BK1 BK2 BK3 BK4 BK5 BX0 BX1 BX2 BX3 BX4 BX5; have hkBK := keep6 BK.out; obtain ⟨BK0, BK1, BK2, BK3, BK4, BK5⟩ := hkBK; have hkBX := keep6 BX.out; obtain ⟨BX0, BX1, BX2, BX3, BX4, BX5⟩ := hkBX))
  all_goals (go_wp2_with (fail); go_ret; exact ⟨rfl, by first | exact HB.out | exact HB.out.drew | exact pw_below_drewN HB.out _ | exact (pw_below_drewN HB.out _).drew | exact HB.out.drew.drew⟩)
end Go.Proofs.Ytoacdmohgohpdaa.LogK
