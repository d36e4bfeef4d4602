/- The law FnExactBehind, called with whatever can be read: it returns true and nothing that was there has changed. -/
import Derived.Test.YtoacdmohgohpdaaK2MirLawKit
import Derived.Test.YtoacdmohgohpdaaK2BehWalk
import Derived.Deep.RegionHeld3
namespace Go.Proofs.Ytoacdmohgohpdaa.LogK
open Go.RowKit Go.Proofs.YtoacdmohgohpdaaW.PrintWords Go.Proofs.YtoacdmohgohpdaaW.PrintLast Go.Proofs.YtoacdmohgohpdaaW.PrintMore Go.Proofs.Ytoacdmohgohpdaa.QFnExactBehind Go.Proofs.Ytoacdmohgohpdaa.EvKit Go.Proofs.Ytoacdmohgohpdaa.GFnExactBehind
theorem keep4 {w : World} {g : Nat} {v0 v1 v2 v3 : Value} {t : TypeId} (h : w.heap[g]? = some (.cells #[v0, v1, v2, v3] t (0, 0))) : w.cell? ⟨g, 0, none⟩ = some v0 ∧ w.cell? ⟨g, 1, none⟩ = some v1 ∧ w.cell? ⟨g, 2, none⟩ = some v2 ∧ w.cell? ⟨g, 3, none⟩ = some v3 :=
  ⟨(blk_cell h 0).trans rfl, (blk_cell h 1).trans rfl, (blk_cell h 2).trans rfl, (blk_cell h 3).trans rfl⟩
theorem call_beh_spec (A0 : Option Addr) (c0 : Nat) (l : Lg) (A B : Option Addr) (c d : Nat) (x : Mir) (V : Int) (W : World) (hV : behB l.f0 l.f1 l.f2 l.f3 (mirB x) x.f1 = V) (h0 : LogC W l A0 c0) (s0 : sm_Log l) (h : MirC W x A c B d) (s : sm_Mirror x) :
    Calls Try.prog 28 #[.agg #[.int .i64 l.f0, .int .i64 l.f1, .int .i64 l.f2, .slice A0 l.f3.length c0], .agg #[.int .i64 x.f0.f0, .int .i64 x.f0.f1, .int .i64 x.f0.f2, .slice A x.f0.f3.length c, .int .i64 x.f1, .slice B x.f2.length d]] W fun e w' => e = .returned (.int .i64 V) ∧ Below W.heap.size W w' :=
  spec_behind _ _ _ A0 c0 _ _ _ _ _ A B c d _ _ W h0.2 h0.1 (smL_of s0.2.2.2) h.1.2 h.1.1 (smL_of s.1.2.2.2) h.2.2 h.2.1 s.2.2.1 V hV
theorem call_beh_impl (A0 : Option Addr) (c0 : Nat) (l : Lg) (A B : Option Addr) (c d : Nat) (x : Mir) (V : Int) (W : World) (hV : behB l.f0 l.f1 l.f2 l.f3 (mirB x) x.f1 = V) (h0 : LogC W l A0 c0) (s0 : sm_Log l) (h : MirC W x A c B d) (s : sm_Mirror x) :
    Calls Try.prog 30 #[.agg #[.int .i64 l.f0, .int .i64 l.f1, .int .i64 l.f2, .slice A0 l.f3.length c0], .agg #[.int .i64 x.f0.f0, .int .i64 x.f0.f1, .int .i64 x.f0.f2, .slice A x.f0.f3.length c, .int .i64 x.f1, .slice B x.f2.length d]] W fun e w' => e = .returned (.int .i64 V) ∧ Below W.heap.size W w' :=
  impl_behind _ _ _ A0 c0 _ _ _ _ _ A B c d _ _ W h0.2 h0.1 (smL_of s0.2.2.2) h.1.2 h.1.1 (smL_of s.1.2.2.2) h.2.2 h.2.1 s.2.2.1 V hV
theorem first_below {w w' : World} (hb : Below w.drew.heap.size w.drew w') : Below w.heap.size w w' := (Below.refl _ _).drew.trans hb
set_option maxHeartbeats 3200000 in
set_option maxRecDepth 100000 in
theorem behind_walk (w : World) (ls : Array Value) (l : LLog) (hK0 : kp46.K w l ls.toList) (ok0 : ok_Log l) (cs : Array Value) (x : LMir) (hK : kp49.K w x cs.toList) (ok : ok_Mirror x) :
    Calls Try.prog 6 #[.agg ls, .agg cs] w fun e w' => e = .returned (.bool true) ∧ Below w.heap.size w w' := by
  obtain ⟨A0, c0, e, i0⟩ := log_open hK0
  obtain rfl : ls = #[.int .i64 l.f0, .int .i64 l.f1, .int .i64 l.f2, .slice A0 l.f3.length c0] := by rw [← Array.toList_inj]; exact e
  clear e
  obtain ⟨A, c, B, d, e, h0⟩ := mir_open hK
  obtain rfl : cs = #[.int .i64 x.f0.f0, .int .i64 x.f0.f1, .int .i64 x.f0.f2, .slice A x.f0.f3.length c, .int .i64 x.f1, .slice B x.f2.length d] := by rw [← Array.toList_inj]; exact e
  clear hK hK0
  obtain ⟨v, hv, _, hq0⟩ := sz_Log l ok0 1048576 (by omega) (by omega)
  obtain ⟨k, hk⟩ := Ev.rounds hv
  have S1 : ∀ V : World, Below w.heap.size w V → Calls Try.prog 27 #[.agg #[.int .i64 l.f0, .int .i64 l.f1, .int .i64 l.f2, .slice A0 l.f3.length c0], .int .i64 1048576] V fun e w' => e = .returned (.int .i64 v) ∧ Below V.heap.size V w' := fun V hb => laws_szLog.calls k _ _ _ A0 c0 _ _ _ V (Kd.C_below i0.2 hb) i0.1 hk
  replace S1 := Aside0.mk S1
  clear hv hk k e
  go_enter Try.func6, Try.ntmps6
  go_upto_region 1 with (fail)
  have BK := Aside0.mk (blk_below (blk_new w (.cells #[.int .i64 l.f0, .int .i64 l.f1, .int .i64 l.f2, .slice A0 l.f3.length c0] 46)) (bel_alloc _ (.cells #[.int .i64 x.f0.f0, .int .i64 x.f0.f1, .int .i64 x.f0.f2, .slice A x.f0.f3.length c, .int .i64 x.f1, .slice B x.f2.length d] 49)))
  have BM := Aside0.mk (blk_new (w.alloc (.cells #[.int .i64 l.f0, .int .i64 l.f1, .int .i64 l.f2, .slice A0 l.f3.length c0] 46)) (.cells #[.int .i64 x.f0.f0, .int .i64 x.f0.f1, .int .i64 x.f0.f2, .slice A x.f0.f3.length c, .int .i64 x.f1, .slice B x.f2.length d] 49))
  have HB := Aside0.mk (bel (bel_alloc w (.cells #[.int .i64 l.f0, .int .i64 l.f1, .int .i64 l.f2, .slice A0 l.f3.length c0] 46)) (bel_alloc _ (.cells #[.int .i64 x.f0.f0, .int .i64 x.f0.f1, .int .i64 x.f0.f2, .slice A x.f0.f3.length c, .int .i64 x.f1, .slice B x.f2.length d] 49)))
  have hgs : (w.alloc (.cells #[.int .i64 l.f0, .int .i64 l.f1, .int .i64 l.f2, .slice A0 l.f3.length c0] 46)).heap.size = w.heap.size + 1 := by simp
  rw [hgs] at BM
  obtain ⟨g2, hgg2⟩ : ∃ g, g = w.heap.size + 1 := ⟨_, rfl⟩
  try rw [hgs]
  rw [← hgg2] at BM
  simp only [← hgg2]
  clear hgs hgg2
  obtain ⟨g, hgg⟩ : ∃ g, g = w.heap.size := ⟨_, rfl⟩
  rw [← hgg] at BK
  simp only [← hgg]
  clear hgg
  generalize (w.alloc (.cells #[.int .i64 l.f0, .int .i64 l.f1, .int .i64 l.f2, .slice A0 l.f3.length c0] 46)).alloc (.cells #[.int .i64 x.f0.f0, .int .i64 x.f0.f1, .int .i64 x.f0.f2, .slice A x.f0.f3.length c, .int .i64 x.f1, .slice B x.f2.length d] 49) = W at *
  have hkBK := keep4 BK.out; obtain ⟨BK0, BK1, BK2, BK3⟩ := hkBK
  have hkBM := keep6 BM.out; obtain ⟨BM0, BM1, BM2, BM3, BM4, BM5⟩ := hkBM
  by_cases hv0 : v < 0
  · go_wp2_with (go_at_call 27; refine (S1.out _ (by repeat (first | (with_reducible exact HB.out) | apply pw_below_drewN))).mono ?_; rintro e w' ⟨rfl, hb⟩; replace HB := Aside0.mk (bel (by repeat (first | (with_reducible exact HB.out) | apply pw_below_drewN)) hb); clear hb)
    go_ret
    exact ⟨rfl, by repeat (first | (with_reducible exact HB.out) | apply pw_below_drewN)⟩
  have hs0 := Aside0.mk (hq0 (by omega))
  obtain ⟨v2, hv, _, hq⟩ := sz_Mirror x ok v (by omega) (by omega)
  obtain ⟨k, hk⟩ := Ev.rounds hv
  have S2 : ∀ V : World, Below w.heap.size w V → Calls Try.prog 23 #[.agg #[.int .i64 x.f0.f0, .int .i64 x.f0.f1, .int .i64 x.f0.f2, .slice A x.f0.f3.length c, .int .i64 x.f1, .slice B x.f2.length d], .int .i64 v] V fun e w' => e = .returned (.int .i64 v2) ∧ Below V.heap.size V w' := fun V hb => laws_szMirror.calls k _ _ _ A c _ _ B d _ _ _ V (Kd.C_below h0.1.2 hb) h0.1.1 (Kd.C_below h0.2.2 hb) h0.2.1 hk
  replace S2 := Aside0.mk S2
  clear hv hk k hq0
  have T0 : ∀ V : World, Below w.heap.size w V → _ := fun V hb => to_lg A0 c0 l V ⟨i0.1, Kd.C_below i0.2 hb⟩ hs0.out
  replace T0 := Aside0.mk T0
  go_wp2_with (fail)
  refine (S1.out _ (by repeat (first | (with_reducible exact HB.out) | apply pw_below_drewN))).mono ?_; rintro e w' ⟨rfl, hb⟩; replace BK := Aside0.mk (blk_below (show _ = some _ from (by (with_reducible repeat (first | refine blk_drewN ?_ _ | refine blk_drew ?_)); exact BK.out)) hb); replace BM := Aside0.mk (blk_below (show _ = some _ from (by (with_reducible repeat (first | refine blk_drewN ?_ _ | refine blk_drew ?_)); exact BM.out)) hb); replace HB := Aside0.mk (bel (by repeat (first | (with_reducible exact HB.out) | apply pw_below_drewN)) hb); clear hb BK0 BK1 BK2 BK3 BM0 BM1 BM2 BM3 BM4 BM5; have hkBK := keep4 BK.out; obtain ⟨BK0, BK1, BK2, BK3⟩ := hkBK; have hkBM := keep6 BM.out; obtain ⟨BM0, BM1, BM2, BM3, BM4, BM5⟩ := hkBM
  by_cases hv1 : v2 < 0
  · go_wp2_with (go_at_call 23; refine (S2.out _ (by repeat (first | (with_reducible exact HB.out) | apply pw_below_drewN))).mono ?_; rintro e w' ⟨rfl, hb⟩; replace HB := Aside0.mk (bel (by repeat (first | (with_reducible exact HB.out) | apply pw_below_drewN)) hb); clear hb)
    go_ret
    exact ⟨rfl, by repeat (first | (with_reducible exact HB.out) | apply pw_below_drewN)⟩
  have hs := Aside0.mk (hq (by omega))
  clear hq
  have T1 : ∀ V : World, Below w.heap.size w V → _ := fun V hb => to_mir A B c d x V ⟨⟨h0.1.1, Kd.C_below h0.1.2 hb⟩, h0.2.1, Kd.C_below h0.2.2 hb⟩ hs.out
  replace T1 := Aside0.mk T1
  obtain ⟨V, hV⟩ : ∃ V : Int, behB (to_Log l).f0 (to_Log l).f1 (to_Log l).f2 (to_Log l).f3 (mirB (to_Mirror x)) (to_Mirror x).f1 = V := ⟨_, rfl⟩
  replace hV := Aside0.mk hV
  clear h0 ok i0 ok0
  go_wp2_with (fail)
  refine (S2.out _ (by repeat (first | (with_reducible exact HB.out) | apply pw_below_drewN))).mono ?_; rintro e w' ⟨rfl, hb⟩; replace BK := Aside0.mk (blk_below (show _ = some _ from (by (with_reducible repeat (first | refine blk_drewN ?_ _ | refine blk_drew ?_)); exact BK.out)) hb); replace BM := Aside0.mk (blk_below (show _ = some _ from (by (with_reducible repeat (first | refine blk_drewN ?_ _ | refine blk_drew ?_)); exact BM.out)) hb); replace HB := Aside0.mk (bel (by repeat (first | (with_reducible exact HB.out) | apply pw_below_drewN)) hb); clear hb BK0 BK1 BK2 BK3 BM0 BM1 BM2 BM3 BM4 BM5; have hkBK := keep4 BK.out; obtain ⟨BK0, BK1, BK2, BK3⟩ := hkBK; have hkBM := keep6 BM.out; obtain ⟨BM0, BM1, BM2, BM3, BM4, BM5⟩ := hkBM
  go_upto_region 8 with (fail)
  go_cut [6] (fun v6 wc => v6 = .int .i64 V ∧ Aside0 (wc.heap[g]? = some (.cells #[.int .i64 l.f0, .int .i64 l.f1, .int .i64 l.f2, .slice A0 l.f3.length c0] 46 (0, 0))) ∧ Aside0 (wc.heap[g2]? = some (.cells #[.int .i64 x.f0.f0, .int .i64 x.f0.f1, .int .i64 x.f0.f2, .slice A x.f0.f3.length c, .int .i64 x.f1, .slice B x.f2.length d] 49 (0, 0))) ∧ Aside0 (Below w.heap.size w wc))
  case first =>
    go_region_held3 (fun w' => (w'.cell? ⟨g, 0, none⟩ = some (.int .i64 l.f0) ∧ w'.cell? ⟨g, 1, none⟩ = some (.int .i64 l.f1) ∧ w'.cell? ⟨g, 2, none⟩ = some (.int .i64 l.f2) ∧ w'.cell? ⟨g, 3, none⟩ = some (.slice A0 l.f3.length c0)) ∧ (w'.cell? ⟨g2, 0, none⟩ = some (.int .i64 x.f0.f0) ∧ w'.cell? ⟨g2, 1, none⟩ = some (.int .i64 x.f0.f1) ∧ w'.cell? ⟨g2, 2, none⟩ = some (.int .i64 x.f0.f2) ∧ w'.cell? ⟨g2, 3, none⟩ = some (.slice A x.f0.f3.length c) ∧ w'.cell? ⟨g2, 4, none⟩ = some (.int .i64 x.f1) ∧ w'.cell? ⟨g2, 5, none⟩ = some (.slice B x.f2.length d))) (exact ⟨keep4 (by (with_reducible repeat (first | refine blk_drewN ?_ _ | refine blk_drew ?_)); exact BK.out), keep6 (by (with_reducible repeat (first | refine blk_drewN ?_ _ | refine blk_drew ?_)); exact BM.out)⟩) (first | (go_at_call 29; refine (T0.out _ (by first | exact HB.out | exact HB.out.drew | exact pw_below_drewN HB.out _ | exact (pw_below_drewN HB.out _).drew | exact HB.out.drew.drew)).mono ?_; rintro e w' ⟨A3, c3, rfl, hm, hb⟩; replace BK := Aside0.mk (blk_below (show _ = some _ from (by (with_reducible repeat (first | refine blk_drewN ?_ _ | refine blk_drew ?_)); exact BK.out)) hb); replace BM := Aside0.mk (blk_below (show _ = some _ from (by (with_reducible repeat (first | refine blk_drewN ?_ _ | refine blk_drew ?_)); exact BM.out)) hb); have HL := Aside0.mk hm; clear hm; replace HB := Aside0.mk (bel (by first | exact HB.out | exact HB.out.drew | exact pw_below_drewN HB.out _ | exact (pw_below_drewN HB.out _).drew | exact HB.out.drew.drew) hb); clear hb BK0 BK1 BK2 BK3 BM0 BM1 BM2 BM3 BM4 BM5; have hkBK := keep4 BK.out; obtain ⟨BK0, BK1, BK2, BK3⟩ := hkBK; have hkBM := keep6 BM.out; obtain ⟨BM0, BM1, BM2, BM3, BM4, BM5⟩ := hkBM) | (go_at_call 25; refine (T1.out _ (by first | exact HB.out | exact HB.out.drew | exact pw_below_drewN HB.out _ | exact (pw_below_drewN HB.out _).drew | exact HB.out.drew.drew)).mono ?_; rintro e w' ⟨A4, c4, B4, d4, rfl, hm, hb⟩; replace BK := Aside0.mk (blk_below (show _ = some _ from (by (with_reducible repeat (first | refine blk_drewN ?_ _ | refine blk_drew ?_)); exact BK.out)) hb); replace BM := Aside0.mk (blk_below (show _ = some _ from (by (with_reducible repeat (first | refine blk_drewN ?_ _ | refine blk_drew ?_)); exact BM.out)) hb); have HM := Aside0.mk hm; clear hm; replace HL := Aside0.mk (HL.out.below hb); replace HB := Aside0.mk (bel (by first | exact HB.out | exact HB.out.drew | exact pw_below_drewN HB.out _ | exact (pw_below_drewN HB.out _).drew | exact HB.out.drew.drew) hb); clear hb BK0 BK1 BK2 BK3 BM0 BM1 BM2 BM3 BM4 BM5; have hkBK := keep4 BK.out; obtain ⟨BK0, BK1, BK2, BK3⟩ := hkBK; have hkBM := keep6 BM.out; obtain ⟨BM0, BM1, BM2, BM3, BM4, BM5⟩ := hkBM) | (go_at_call 28; refine (call_beh_spec A3 c3 _ A4 B4 c4 d4 _ V _ hV.out HL.out hs0.out HM.out hs.out).mono ?_; rintro e w' ⟨rfl, hb⟩; replace BK := Aside0.mk (blk_below (show _ = some _ from (by (with_reducible repeat (first | refine blk_drewN ?_ _ | refine blk_drew ?_)); exact BK.out)) hb); replace BM := Aside0.mk (blk_below (show _ = some _ from (by (with_reducible repeat (first | refine blk_drewN ?_ _ | refine blk_drew ?_)); exact BM.out)) hb); replace HB := Aside0.mk (bel (by first | exact HB.out | exact HB.out.drew | exact pw_below_drewN HB.out _ | exact (pw_below_drewN HB.out _).drew | exact HB.out.drew.drew) hb); clear hb BK0 BK1 BK2 BK3 BM0 BM1 BM2 BM3 BM4 BM5; have hkBK := keep4 BK.out; obtain ⟨BK0, BK1, BK2, BK3⟩ := hkBK; have hkBM := keep6 BM.out; obtain ⟨BM0, BM1, BM2, BM3, BM4, BM5⟩ := hkBM))
    all_goals (go_wp2_with (fail); go_meet; (case rel => exact ⟨rfl, ⟨by (with_reducible repeat (first | refine blk_drewN ?_ _ | refine blk_drew ?_)); exact BK.out⟩, ⟨by (with_reducible repeat (first | refine blk_drewN ?_ _ | refine blk_drew ?_)); exact BM.out⟩, ⟨by first | exact HB.out | exact HB.out.drew | exact pw_below_drewN HB.out _ | exact (pw_below_drewN HB.out _).drew | exact HB.out.drew.drew⟩⟩))
  case rest =>
    clear BK0 BK1 BK2 BK3 BM0 BM1 BM2 BM3 BM4 BM5 BK BM HB
    obtain ⟨rfl, BK, BM, HB⟩ := hcut
    have hkBK := keep4 BK.out; obtain ⟨BK0, BK1, BK2, BK3⟩ := hkBK
    have hkBM := keep6 BM.out; obtain ⟨BM0, BM1, BM2, BM3, BM4, BM5⟩ := hkBM
    go_wp2_with (fail)
    refine (T0.out _ (by repeat (first | (with_reducible exact HB.out) | apply pw_below_drewN))).mono ?_; rintro e w' ⟨A5, c5, rfl, hm, hb⟩; replace BK := Aside0.mk (blk_below (show _ = some _ from (by (with_reducible repeat (first | refine blk_drewN ?_ _ | refine blk_drew ?_)); exact BK.out)) hb); replace BM := Aside0.mk (blk_below (show _ = some _ from (by (with_reducible repeat (first | refine blk_drewN ?_ _ | refine blk_drew ?_)); exact BM.out)) hb); replace HB := Aside0.mk (bel (by repeat (first | (with_reducible exact HB.out) | apply pw_below_drewN)) hb); clear hb BK0 BK1 BK2 BK3 BM0 BM1 BM2 BM3 BM4 BM5; have hkBK := keep4 BK.out; obtain ⟨BK0, BK1, BK2, BK3⟩ := hkBK; have hkBM := keep6 BM.out; obtain ⟨BM0, BM1, BM2, BM3, BM4, BM5⟩ := hkBM
    have HL := Aside0.mk hm
    clear hm
    go_upto_region 10 with (fail)
    have BX := Aside0.mk (blk_new w' (.cells #[.int .i64 (to_Log l).f0, .int .i64 (to_Log l).f1, .int .i64 (to_Log l).f2, .slice A5 (to_Log l).f3.length c5] 36))
    have hb := bel_alloc w' (.cells #[.int .i64 (to_Log l).f0, .int .i64 (to_Log l).f1, .int .i64 (to_Log l).f2, .slice A5 (to_Log l).f3.length c5] 36)
    replace BK := Aside0.mk (blk_below (show _ = some _ from (by (with_reducible repeat (first | refine blk_drewN ?_ _ | refine blk_drew ?_)); exact BK.out)) hb)
    replace BM := Aside0.mk (blk_below (show _ = some _ from (by (with_reducible repeat (first | refine blk_drewN ?_ _ | refine blk_drew ?_)); exact BM.out)) hb)
    replace HL := Aside0.mk (HL.out.below hb)
    replace HB := Aside0.mk (bel (by repeat (first | (with_reducible exact HB.out) | apply pw_below_drewN)) hb)
    clear hb BK0 BK1 BK2 BK3 BM0 BM1 BM2 BM3 BM4 BM5
    generalize w'.alloc (.cells #[.int .i64 (to_Log l).f0, .int .i64 (to_Log l).f1, .int .i64 (to_Log l).f2, .slice A5 (to_Log l).f3.length c5] 36) = W2 at *
    generalize w'.heap.size = g3 at *
    clear w'
    have hkBK := keep4 BK.out; obtain ⟨BK0, BK1, BK2, BK3⟩ := hkBK
    have hkBM := keep6 BM.out; obtain ⟨BM0, BM1, BM2, BM3, BM4, BM5⟩ := hkBM
    have hkBX := keep4 BX.out; obtain ⟨BX0, BX1, BX2, BX3⟩ := hkBX
    go_wp2_with (fail)
    refine (T1.out _ (by repeat (first | (with_reducible exact HB.out) | apply pw_below_drewN))).mono ?_; rintro e w' ⟨A7, c7, B7, d7, rfl, hm, hb⟩; replace BK := Aside0.mk (blk_below (show _ = some _ from (by (with_reducible repeat (first | refine blk_drewN ?_ _ | refine blk_drew ?_)); exact BK.out)) hb); replace BM := Aside0.mk (blk_below (show _ = some _ from (by (with_reducible repeat (first | refine blk_drewN ?_ _ | refine blk_drew ?_)); exact BM.out)) hb); replace BX := Aside0.mk (blk_below (show _ = some _ from (by (with_reducible repeat (first | refine blk_drewN ?_ _ | refine blk_drew ?_)); exact BX.out)) hb); replace HL := Aside0.mk (HL.out.below hb); replace HB := Aside0.mk (bel (by repeat (first | (with_reducible exact HB.out) | apply pw_below_drewN)) hb); clear hb BK0 BK1 BK2 BK3 BM0 BM1 BM2 BM3 BM4 BM5 BX0 BX1 BX2 BX3; have hkBK := keep4 BK.out; obtain ⟨BK0, BK1, BK2, BK3⟩ := hkBK; have hkBM := keep6 BM.out; obtain ⟨BM0, BM1, BM2, BM3, BM4, BM5⟩ := hkBM; have hkBX := keep4 BX.out; obtain ⟨BX0, BX1, BX2, BX3⟩ := hkBX
    have HM := Aside0.mk hm
    clear hm
    go_upto_region 11 with (fail)
    have BY := Aside0.mk (blk_new w' (.cells #[.int .i64 (to_Mirror x).f0.f0, .int .i64 (to_Mirror x).f0.f1, .int .i64 (to_Mirror x).f0.f2, .slice A7 (to_Mirror x).f0.f3.length c7, .int .i64 (to_Mirror x).f1, .slice B7 (to_Mirror x).f2.length d7] 39))
    have hb := bel_alloc w' (.cells #[.int .i64 (to_Mirror x).f0.f0, .int .i64 (to_Mirror x).f0.f1, .int .i64 (to_Mirror x).f0.f2, .slice A7 (to_Mirror x).f0.f3.length c7, .int .i64 (to_Mirror x).f1, .slice B7 (to_Mirror x).f2.length d7] 39)
    replace BK := Aside0.mk (blk_below (show _ = some _ from (by (with_reducible repeat (first | refine blk_drewN ?_ _ | refine blk_drew ?_)); exact BK.out)) hb)
    replace BM := Aside0.mk (blk_below (show _ = some _ from (by (with_reducible repeat (first | refine blk_drewN ?_ _ | refine blk_drew ?_)); exact BM.out)) hb)
    replace BX := Aside0.mk (blk_below (show _ = some _ from (by (with_reducible repeat (first | refine blk_drewN ?_ _ | refine blk_drew ?_)); exact BX.out)) hb)
    replace HL := Aside0.mk (HL.out.below hb)
    replace HM := Aside0.mk (HM.out.below hb)
    replace HB := Aside0.mk (bel (by repeat (first | (with_reducible exact HB.out) | apply pw_below_drewN)) hb)
    clear hb BK0 BK1 BK2 BK3 BM0 BM1 BM2 BM3 BM4 BM5 BX0 BX1 BX2 BX3
    generalize w'.alloc (.cells #[.int .i64 (to_Mirror x).f0.f0, .int .i64 (to_Mirror x).f0.f1, .int .i64 (to_Mirror x).f0.f2, .slice A7 (to_Mirror x).f0.f3.length c7, .int .i64 (to_Mirror x).f1, .slice B7 (to_Mirror x).f2.length d7] 39) = W3 at *
    generalize w'.heap.size = g4 at *
    clear w'
    have hkBK := keep4 BK.out; obtain ⟨BK0, BK1, BK2, BK3⟩ := hkBK
    have hkBM := keep6 BM.out; obtain ⟨BM0, BM1, BM2, BM3, BM4, BM5⟩ := hkBM
    have hkBX := keep4 BX.out; obtain ⟨BX0, BX1, BX2, BX3⟩ := hkBX
    have hkBY := keep6 BY.out; obtain ⟨BY0, BY1, BY2, BY3, BY4, BY5⟩ := hkBY
    go_wp2_with (fail)
    refine (call_beh_impl A5 c5 _ A7 B7 c7 d7 _ V _ hV.out HL.out hs0.out HM.out hs.out).mono ?_; rintro e w' ⟨rfl, hb⟩; replace BK := Aside0.mk (blk_below (show _ = some _ from (by (with_reducible repeat (first | refine blk_drewN ?_ _ | refine blk_drew ?_)); exact BK.out)) hb); replace BM := Aside0.mk (blk_below (show _ = some _ from (by (with_reducible repeat (first | refine blk_drewN ?_ _ | refine blk_drew ?_)); exact BM.out)) hb); replace BX := Aside0.mk (blk_below (show _ = some _ from (by (with_reducible repeat (first | refine blk_drewN ?_ _ | refine blk_drew ?_)); exact BX.out)) hb); replace BY := Aside0.mk (blk_below (show _ = some _ from (by (with_reducible repeat (first | refine blk_drewN ?_ _ | refine blk_drew ?_)); exact BY.out)) hb); replace HL := Aside0.mk (HL.out.below hb); replace HM := Aside0.mk (HM.out.below hb); replace HB := Aside0.mk (bel (by repeat (first | (with_reducible exact HB.out) | apply pw_below_drewN)) hb); clear hb BK0 BK1 BK2 BK3 BM0 BM1 BM2 BM3 BM4 BM5 BX0 BX1 BX2 BX3 BY0 BY1 BY2 BY3 BY4 BY5; have hkBK := keep4 BK.out; obtain ⟨BK0, BK1, BK2, BK3⟩ := hkBK; have hkBM := keep6 BM.out; obtain ⟨BM0, BM1, BM2, BM3, BM4, BM5⟩ := hkBM; have hkBX := keep4 BX.out; obtain ⟨BX0, BX1, BX2, BX3⟩ := hkBX; have hkBY := keep6 BY.out; obtain ⟨BY0, BY1, BY2, BY3, BY4, BY5⟩ := hkBY
    have hbb : (V != V) = false := by simp
    go_upto_region 14 with (fail)
    go_cut [39] (fun v39 wc => v39 = .bool false ∧ Aside0 (MirC wc (to_Mirror x) A7 c7 B7 d7) ∧ Aside0 (wc.heap[g2]? = some (.cells #[.int .i64 x.f0.f0, .int .i64 x.f0.f1, .int .i64 x.f0.f2, .slice A x.f0.f3.length c, .int .i64 x.f1, .slice B x.f2.length d] 49 (0, 0))) ∧ Aside0 (wc.heap[g4]? = some (.cells #[.int .i64 (to_Mirror x).f0.f0, .int .i64 (to_Mirror x).f0.f1, .int .i64 (to_Mirror x).f0.f2, .slice A7 (to_Mirror x).f0.f3.length c7, .int .i64 (to_Mirror x).f1, .slice B7 (to_Mirror x).f2.length d7] 39 (0, 0))) ∧ Aside0 (Below w.heap.size w wc))
    case first =>
      go_region_held3 (fun w' => (w'.cell? ⟨g, 0, none⟩ = some (.int .i64 l.f0) ∧ w'.cell? ⟨g, 1, none⟩ = some (.int .i64 l.f1) ∧ w'.cell? ⟨g, 2, none⟩ = some (.int .i64 l.f2) ∧ w'.cell? ⟨g, 3, none⟩ = some (.slice A0 l.f3.length c0)) ∧ (w'.cell? ⟨g3, 0, none⟩ = some (.int .i64 (to_Log l).f0) ∧ w'.cell? ⟨g3, 1, none⟩ = some (.int .i64 (to_Log l).f1) ∧ w'.cell? ⟨g3, 2, none⟩ = some (.int .i64 (to_Log l).f2) ∧ w'.cell? ⟨g3, 3, none⟩ = some (.slice A5 (to_Log l).f3.length c5))) (exact ⟨keep4 (by (with_reducible repeat (first | refine blk_drewN ?_ _ | refine blk_drew ?_)); exact BK.out), keep4 (by (with_reducible repeat (first | refine blk_drewN ?_ _ | refine blk_drew ?_)); exact BX.out)⟩) (first | (go_at_call 29; refine (T0.out _ (by first | exact HB.out | exact HB.out.drew | exact pw_below_drewN HB.out _ | exact (pw_below_drewN HB.out _).drew | exact HB.out.drew.drew)).mono ?_; rintro e w' ⟨A3, c3, rfl, hm, hb⟩; replace BK := Aside0.mk (blk_below (show _ = some _ from (by (with_reducible repeat (first | refine blk_drewN ?_ _ | refine blk_drew ?_)); exact BK.out)) hb); replace BM := Aside0.mk (blk_below (show _ = some _ from (by (with_reducible repeat (first | refine blk_drewN ?_ _ | refine blk_drew ?_)); exact BM.out)) hb); replace BX := Aside0.mk (blk_below (show _ = some _ from (by (with_reducible repeat (first | refine blk_drewN ?_ _ | refine blk_drew ?_)); exact BX.out)) hb); replace BY := Aside0.mk (blk_below (show _ = some _ from (by (with_reducible repeat (first | refine blk_drewN ?_ _ | refine blk_drew ?_)); exact BY.out)) hb); have HN := Aside0.mk hm; clear hm; replace HL := Aside0.mk (HL.out.below (first_below hb)); replace HM := Aside0.mk (HM.out.below (first_below hb)); replace HB := Aside0.mk (bel (by first | exact HB.out | exact HB.out.drew | exact pw_below_drewN HB.out _ | exact (pw_below_drewN HB.out _).drew | exact HB.out.drew.drew) hb); clear hb BK0 BK1 BK2 BK3 BM0 BM1 BM2 BM3 BM4 BM5 BX0 BX1 BX2 BX3 BY0 BY1 BY2 BY3 BY4 BY5; have hkBK := keep4 BK.out; obtain ⟨BK0, BK1, BK2, BK3⟩ := hkBK; have hkBM := keep6 BM.out; obtain ⟨BM0, BM1, BM2, BM3, BM4, BM5⟩ := hkBM; have hkBX := keep4 BX.out; obtain ⟨BX0, BX1, BX2, BX3⟩ := hkBX; have hkBY := keep6 BY.out; obtain ⟨BY0, BY1, BY2, BY3, BY4, BY5⟩ := hkBY) | (go_at_call 31; refine (eq_lg A5 A3 c5 c3 _ _ HL.out HN.out hs0.out).mono ?_; rintro e w' ⟨rfl, hb⟩; replace BK := Aside0.mk (blk_below (show _ = some _ from (by (with_reducible repeat (first | refine blk_drewN ?_ _ | refine blk_drew ?_)); exact BK.out)) hb); replace BM := Aside0.mk (blk_below (show _ = some _ from (by (with_reducible repeat (first | refine blk_drewN ?_ _ | refine blk_drew ?_)); exact BM.out)) hb); replace BX := Aside0.mk (blk_below (show _ = some _ from (by (with_reducible repeat (first | refine blk_drewN ?_ _ | refine blk_drew ?_)); exact BX.out)) hb); replace BY := Aside0.mk (blk_below (show _ = some _ from (by (with_reducible repeat (first | refine blk_drewN ?_ _ | refine blk_drew ?_)); exact BY.out)) hb); replace HM := Aside0.mk (HM.out.below hb); replace HB := Aside0.mk (bel (by first | exact HB.out | exact HB.out.drew | exact pw_below_drewN HB.out _ | exact (pw_below_drewN HB.out _).drew | exact HB.out.drew.drew) hb); clear hb BK0 BK1 BK2 BK3 BM0 BM1 BM2 BM3 BM4 BM5 BX0 BX1 BX2 BX3 BY0 BY1 BY2 BY3 BY4 BY5; have hkBK := keep4 BK.out; obtain ⟨BK0, BK1, BK2, BK3⟩ := hkBK; have hkBM := keep6 BM.out; obtain ⟨BM0, BM1, BM2, BM3, BM4, BM5⟩ := hkBM; have hkBX := keep4 BX.out; obtain ⟨BX0, BX1, BX2, BX3⟩ := hkBX; have hkBY := keep6 BY.out; obtain ⟨BY0, BY1, BY2, BY3, BY4, BY5⟩ := hkBY))
      all_goals (go_wp2_with (fail); go_meet; (case rel => exact ⟨rfl, ⟨HM.out⟩, ⟨by (with_reducible repeat (first | refine blk_drewN ?_ _ | refine blk_drew ?_)); exact BM.out⟩, ⟨by (with_reducible repeat (first | refine blk_drewN ?_ _ | refine blk_drew ?_)); exact BY.out⟩, ⟨by first | exact HB.out | exact HB.out.drew | exact pw_below_drewN HB.out _ | exact (pw_below_drewN HB.out _).drew | exact HB.out.drew.drew⟩⟩))
    case rest =>
      clear BK0 BK1 BK2 BK3 BM0 BM1 BM2 BM3 BM4 BM5 BX0 BX1 BX2 BX3 BY0 BY1 BY2 BY3 BY4 BY5 BK BM BX BY HB HM HL
      obtain ⟨rfl, HM, BM, BY, HB⟩ := hcut
      have hkBM := keep6 BM.out; obtain ⟨BM0, BM1, BM2, BM3, BM4, BM5⟩ := hkBM
      have hkBY := keep6 BY.out; obtain ⟨BY0, BY1, BY2, BY3, BY4, BY5⟩ := hkBY
      go_upto_region 16 with (fail)
      go_region_held3 (fun w' => (w'.cell? ⟨g2, 0, none⟩ = some (.int .i64 x.f0.f0) ∧ w'.cell? ⟨g2, 1, none⟩ = some (.int .i64 x.f0.f1) ∧ w'.cell? ⟨g2, 2, none⟩ = some (.int .i64 x.f0.f2) ∧ w'.cell? ⟨g2, 3, none⟩ = some (.slice A x.f0.f3.length c) ∧ w'.cell? ⟨g2, 4, none⟩ = some (.int .i64 x.f1) ∧ w'.cell? ⟨g2, 5, none⟩ = some (.slice B x.f2.length d)) ∧ (w'.cell? ⟨g4, 0, none⟩ = some (.int .i64 (to_Mirror x).f0.f0) ∧ w'.cell? ⟨g4, 1, none⟩ = some (.int .i64 (to_Mirror x).f0.f1) ∧ w'.cell? ⟨g4, 2, none⟩ = some (.int .i64 (to_Mirror x).f0.f2) ∧ w'.cell? ⟨g4, 3, none⟩ = some (.slice A7 (to_Mirror x).f0.f3.length c7) ∧ w'.cell? ⟨g4, 4, none⟩ = some (.int .i64 (to_Mirror x).f1) ∧ w'.cell? ⟨g4, 5, none⟩ = some (.slice B7 (to_Mirror x).f2.length d7))) (exact ⟨keep6 (by (with_reducible repeat (first | refine blk_drewN ?_ _ | refine blk_drew ?_)); exact BM.out), keep6 (by (with_reducible repeat (first | refine blk_drewN ?_ _ | refine blk_drew ?_)); exact BY.out)⟩) (first | (go_at_call 25; refine (T1.out _ (by first | exact HB.out | exact HB.out.drew | exact pw_below_drewN HB.out _ | exact (pw_below_drewN HB.out _).drew | exact HB.out.drew.drew)).mono ?_; rintro e w' ⟨A8, c8, B8, d8, rfl, hm, hb⟩; replace BM := Aside0.mk (blk_below (show _ = some _ from (by (with_reducible repeat (first | refine blk_drewN ?_ _ | refine blk_drew ?_)); exact BM.out)) hb); replace BY := Aside0.mk (blk_below (show _ = some _ from (by (with_reducible repeat (first | refine blk_drewN ?_ _ | refine blk_drew ?_)); exact BY.out)) hb); have HN := Aside0.mk hm; clear hm; replace HM := Aside0.mk (HM.out.below (first_below hb)); replace HB := Aside0.mk (bel (by first | exact HB.out | exact HB.out.drew | exact pw_below_drewN HB.out _ | exact (pw_below_drewN HB.out _).drew | exact HB.out.drew.drew) hb); clear hb BM0 BM1 BM2 BM3 BM4 BM5 BY0 BY1 BY2 BY3 BY4 BY5; have hkBM := keep6 BM.out; obtain ⟨BM0, BM1, BM2, BM3, BM4, BM5⟩ := hkBM; have hkBY := keep6 BY.out; obtain ⟨BY0, BY1, BY2, BY3, BY4, BY5⟩ := hkBY) | (go_at_call 20; refine (eq_mir A7 B7 A8 B8 c7 d7 c8 d8 _ _ HM.out HN.out hs.out).mono ?_; rintro e w' ⟨rfl, hb⟩; replace BM := Aside0.mk (blk_below (show _ = some _ from (by (with_reducible repeat (first | refine blk_drewN ?_ _ | refine blk_drew ?_)); exact BM.out)) hb); replace BY := Aside0.mk (blk_below (show _ = some _ from (by (with_reducible repeat (first | refine blk_drewN ?_ _ | refine blk_drew ?_)); exact BY.out)) hb); replace HB := Aside0.mk (bel (by first | exact HB.out | exact HB.out.drew | exact pw_below_drewN HB.out _ | exact (pw_below_drewN HB.out _).drew | exact HB.out.drew.drew) hb); clear hb BM0 BM1 BM2 BM3 BM4 BM5 BY0 BY1 BY2 BY3 BY4 BY5; have hkBM := keep6 BM.out; obtain ⟨BM0, BM1, BM2, BM3, BM4, BM5⟩ := hkBM; have hkBY := keep6 BY.out; obtain ⟨BY0, BY1, BY2, BY3, BY4, BY5⟩ := hkBY))
      all_goals (go_wp2_with (fail); go_ret; exact ⟨rfl, by first | exact HB.out | exact HB.out.drew | exact pw_below_drewN HB.out _ | exact (pw_below_drewN HB.out _).drew | exact HB.out.drew.drew⟩)
end Go.Proofs.Ytoacdmohgohpdaa.LogK
