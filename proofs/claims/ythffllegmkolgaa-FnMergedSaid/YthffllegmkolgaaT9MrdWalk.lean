/- The law FnMerged, called with whatever can be read: it returns true and nothing that was there has changed. -/
import Derived.Test.YthffllegmkolgaaT9RemWalk
import Derived.Test.YthffllegmkolgaaT9MrdPure
import Derived.Test.YthffllegmkolgaaT9MrgI
import Derived.Test.YthffllegmkolgaaT9ChgI
import Derived.Test.YthffllegmkolgaaT9Chgd
import Derived.Test.YthffllegmkolgaaT9FlOwn
import Derived.Test.YthffllegmkolgaaT9QTreex18
namespace Go.Proofs.Ythffllegmkolgaa.TreeK
open Go.RowKit Go.Proofs.YthffllegmkolgaaW.PrintWords Go.Proofs.YthffllegmkolgaaW.PrintLast Go.Proofs.YthffllegmkolgaaW.PrintMore Go.Proofs.Ythffllegmkolgaa.QTree Go.Proofs.Ythffllegmkolgaa.EvKit Go.Proofs.Ythffllegmkolgaa.GTree Go.Proofs.Ythffllegmkolgaa.Open
set_option linter.unusedSimpArgs false
set_option linter.unusedVariables false
set_option linter.unnecessarySimpa false
theorem mrd_look {most : Int} {l : List Cel} (hm : 1 ≤ most ∧ most ≤ 50) (hl : l.length ≤ 400) (hc : ∀ c ∈ l, okC c) (kp : Nat) (key : ByteArray) (s : Nat) (hs : s ≤ l.length) (hk : kp ≤ s) : lookX (mrgT (bld most l l.length) (kp : Int)) key (s : Int) = lastN l key s := by
  have hf := bld_facts hm hl hc l.length (Nat.le_refl _)
  rw [mrg_look hf.1 (by omega) (fun c hcm hg => ?_) key (s : Int) (by omega)]
  · exact (bld_look hm hl hc key s hs).1
  · obtain ⟨i, hi, rfl⟩ := (hf.2.2.1 c).1 hcm
    have hg2 : (l.getD i zCel).f3 = true := hg
    have hgd : l.getD i zCel = l[i] := by rw [List.getD_eq_getElem?_getD, List.getElem?_eq_getElem hi]; rfl
    show (l.getD i zCel).f1 = ⟨#[]⟩
    rw [hgd] at hg2 ⊢
    exact (hc _ (List.getElem_mem hi)).2.2 hg2
set_option maxHeartbeats 3200000 in
set_option maxRecDepth 100000 in
theorem mrd_walk (w : World) (A : Option Addr) (c : Nat) (bs : List Int) (A2 : Option Addr) (c2 : Nat) (ms : List Int) (hC : BY.C w A bs.length bs) (hc : bs.length ≤ c) (hC2 : BY.C w A2 ms.length ms) (hc2 : ms.length ≤ c2) (okm : ∀ a ∈ ms, 0 ≤ a ∧ a ≤ 255) :
    Calls Try.prog 6 #[.slice A bs.length c, .slice A2 ms.length c2] w fun e w' => e = .returned (.bool true) ∧ Below w.heap.size w w' := by
  have HC := zA (And.intro hC hc)
  have HC2 := zA (And.intro hC2 hc2)
  have OKM := zA okm
  clear hC hC2 hc hc2 okm
  have HB := zA (Below.refl w.heap.size w)
  go_enter Try.func6, Try.ntmps6
  obtain ⟨r1, hr1⟩ : ∃ b, decide ((bs.length : Int) > 1048576) = b := ⟨_, rfl⟩
  obtain ⟨r2, hr2⟩ : ∃ b, decide ((ms.length : Int) > 1048576) = b := ⟨_, rfl⟩
  have CB1 : Aside0 (∀ V : World, Below w.heap.size w V → _) := ⟨fun V hb => call_big A c bs r1 V (Kd.C_below HC.out.1 hb) HC.out.2 hr1⟩
  have CB2 : Aside0 (∀ V : World, Below w.heap.size w V → _) := ⟨fun V hb => call_big A2 c2 ms r2 V (Kd.C_below HC2.out.1 hb) HC2.out.2 hr2⟩
  have HR1 := zA hr1
  have HR2 := zA hr2
  clear hr1 hr2
  cases r1
  case true =>
    go_wp2_with (go_at_call 22; refine (CB1.out _ HB.out).mono ?_; rintro e w1 ⟨rfl, hb⟩; replace HB := zA (bel HB.out hb); clear hb)
    go_ret
    exact ⟨rfl, HB.out⟩
  cases r2
  case true =>
    go_wp2_with (first
      | (go_at_call 22; refine (CB1.out _ HB.out).mono ?_; rintro e w1 ⟨rfl, hb⟩; replace HB := zA (bel HB.out hb); clear hb CB1)
      | (go_at_call 22; refine (CB2.out _ HB.out).mono ?_; rintro e w2 ⟨rfl, hb⟩; replace HB := zA (bel HB.out hb); clear hb CB2))
    go_ret
    exact ⟨rfl, HB.out⟩
  have HL1 : Aside0 (bs.length ≤ 1048576) := ⟨by have := of_decide_eq_false HR1.out; omega⟩
  have HL2 : Aside0 (ms.length ≤ 1048576) := ⟨by have := of_decide_eq_false HR2.out; omega⟩
  clear HR1 HR2
  go_upto_region 4 with (first
    | (go_at_call 22; refine (CB1.out _ HB.out).mono ?_; rintro e w1 ⟨rfl, hb⟩; replace HB := zA (bel HB.out hb); clear hb CB1)
    | (go_at_call 22; refine (CB2.out _ HB.out).mono ?_; rintro e w2 ⟨rfl, hb⟩; replace HB := zA (bel HB.out hb); clear hb CB2)
    | (go_at_call 23; refine (draw_changed A c bs _ (Kd.C_below HC.out.1 HB.out) HC.out.2 HL1.out).mono ?_; rintro e w3 ⟨most, l, v, rfl, hl, hR, hb⟩; have HL := zA hl; have RL := zA (Kd.R_reads hR); replace HB := zA (bel HB.out hb); clear hl hR hb))
  obtain ⟨AL, cL, rfl, hlc, hlC⟩ := RL.out
  have HCL := zA (And.intro hlC hlc)
  clear RL hlC hlc
  have hm := most_in most HL.out.1
  have hok : ∀ x ∈ l, okC x := fun x hx => drawn_ok (HL.out.2.2 x hx)
  have HBF := zA (bld_facts hm (by have := HL.out.2.1; omega) hok l.length (Nat.le_refl _))
  obtain ⟨r, er, hr0⟩ := at_ex ms 0 (by omega) HL2.out OKM.out
  have ER := zA er
  obtain ⟨kp, hs⟩ : ∃ s : Nat, Int.tmod r ((l.length : Int) + 1) = (s : Int) := ⟨(Int.tmod r ((l.length : Int) + 1)).toNat, by have := Int.tmod_nonneg ((l.length : Int) + 1) hr0; omega⟩
  have HSL : Aside0 (kp ≤ l.length) := ⟨by have := Int.tmod_lt_of_pos r (show (0 : Int) < (l.length : Int) + 1 by omega); omega⟩
  have HS := zA hs
  clear er hs
  have HLK := zA (fun key s hs hk => mrd_look hm (by have := HL.out.2.1; omega) hok kp key s hs hk)
  have CCH := zA (changed_call AL cL most l w3 HCL.out.2 HCL.out.1 hm HL.out.2.1 HL.out.2.2)
  obtain ⟨x, hx⟩ : ∃ x, x = bld most l l.length := ⟨_, rfl⟩
  rw [← hx] at HBF HLK CCH
  have SX := zA (sm_right HBF.out.1)
  obtain ⟨y, hy⟩ : ∃ y, y = mrgT x (kp : Int) := ⟨_, rfl⟩
  have HTY : Aside0 (trB y = true) := ⟨by rw [hy]; exact mrg_right HBF.out.1 (by omega)⟩
  have HONE : Aside0 (y.f1.length ≤ 1) := ⟨by rw [hy, mrgT, if_pos ⟨HBF.out.1, by omega⟩]; exact mrgX_one _ _⟩
  have HLE : Aside0 ((chgR y 0).length ≤ (chgR x 0).length) := ⟨by rw [hy]; exact mrg_chg HBF.out.1 (by omega) 0⟩
  have SY := zA (sm_right HTY.out)
  have CFL : Aside0 (∀ (V : World) (A' B' : Option Addr) (c' d' : Nat), TreeC V x A' c' B' d' → _) := ⟨fun V A' B' c' d' h => merge_impl A' B' c' d' x (kp : Int) V h SX.out⟩
  rw [← hy] at HLK CFL
  have HL75 := zA HL.out.2.1
  have HKEY : Aside0 (∀ (j : Nat) (h : j < l.length), l[j].f0.size ≤ 2) := ⟨fun j h => (HL.out.2.2 _ (List.getElem_mem h)).1⟩
  clear hm hok hx hy HL
  go_upto_region 5 with (go_at_call 24; refine CCH.out.mono ?_; rintro e w4 ⟨v0, v1, rfl, hR, hS, hb⟩; have R0 := zA hR; have S0 := zA hS; replace HB := zA (bel HB.out hb); replace HCL := zA (And.intro (Kd.C_below HCL.out.1 hb) HCL.out.2); clear hR hS hb CCH; obtain ⟨A7, c7, rfl⟩ := Kd.R_slice R0.out; obtain ⟨B7, d7, rfl⟩ := Kd.S_slice S0.out)
  have HX : Aside0 (TreeC w4 x A7 c7 B7 d7) := ⟨⟨⟨(Kd.R_reads' R0.out).2.1, (Kd.R_reads' R0.out).2.2⟩, (Kd.S_reads' S0.out).2.1, (Kd.S_reads' S0.out).2.2⟩⟩
  clear R0 S0
  have BX := zA (blk_new w4 (.cells #[.slice A7 x.f0.length c7, .slice B7 x.f1.length d7, .int .i64 x.f2, .int .i64 x.f3] 31))
  have hb := bel_alloc w4 (.cells #[.slice A7 x.f0.length c7, .slice B7 x.f1.length d7, .int .i64 x.f2, .int .i64 x.f3] 31)
  replace HX := zA (HX.out.below hb)
  replace HB := zA (bel HB.out hb)
  replace HCL := zA (And.intro (Kd.C_below HCL.out.1 hb) HCL.out.2)
  obtain ⟨g, hg⟩ : ∃ g, g = w4.heap.size := ⟨_, rfl⟩
  rw [← hg] at BX ⊢
  clear hb hg
  generalize w4.alloc (.cells #[.slice A7 x.f0.length c7, .slice B7 x.f1.length d7, .int .i64 x.f2, .int .i64 x.f3] 31) = W5 at BX HX HB HCL ⊢
  obtain ⟨b0, b1, b2, b3⟩ := keep4 BX.out
  have hll : wrap64 ((l.length : Int) + 1) = (l.length : Int) + 1 := w64 (by omega) (by have := HL75.out; omega)
  have hne : ¬ ((l.length : Int) + 1 = 0) := by omega
  have hne2 : (((l.length : Int) + 1) == 0) = false := beq_eq_false_iff_ne.2 hne
  have hs := HS.out
  have hsw : wrap64 (kp : Int) = (kp : Int) := w64 (by omega) (by have := HL75.out; have := HSL.out; omega)
  go_upto_region 8 with (first
    | (go_at_call 26; refine (call_at A2 c2 ms 0 r _ (Kd.C_below HC2.out.1 HB.out) HC2.out.2 ER.out).mono ?_; rintro e w6 ⟨rfl, hb⟩; replace BX := zA (blk_below BX.out hb); replace HX := zA (HX.out.below hb); replace HB := zA (bel HB.out hb); replace HCL := zA (And.intro (Kd.C_below HCL.out.1 hb) HCL.out.2); clear hb b0 b1 b2 b3; obtain ⟨b0, b1, b2, b3⟩ := keep4 BX.out)
    | (simp only [hs, hsw]; done))
  clear hs hne hne2 hsw hll
  go_upto_region 9 with (first
    | (go_at_call 28; refine (CFL.out _ A7 B7 c7 d7 HX.out).mono ?_; rintro e w7 ⟨v0, v1, rfl, hR, hS, hb⟩; have R0 := zA hR; have S0 := zA hS; replace BX := zA (blk_below BX.out hb); replace HX := zA (HX.out.below hb); replace HB := zA (bel HB.out hb); replace HCL := zA (And.intro (Kd.C_below HCL.out.1 hb) HCL.out.2); clear hR hS hb b0 b1 b2 b3; obtain ⟨A8, c8, rfl⟩ := Kd.R_slice R0.out; obtain ⟨B8, d8, rfl⟩ := Kd.S_slice S0.out))
  have HY : Aside0 (TreeC w7 y A8 c8 B8 d8) := ⟨⟨⟨(Kd.R_reads' R0.out).2.1, (Kd.R_reads' R0.out).2.2⟩, (Kd.S_reads' S0.out).2.1, (Kd.S_reads' S0.out).2.2⟩⟩
  clear R0 S0 CFL
  have BYY := zA (blk_new w7 (.cells #[.slice A8 y.f0.length c8, .slice B8 y.f1.length d8, .int .i64 y.f2, .int .i64 y.f3] 31))
  have hb := bel_alloc w7 (.cells #[.slice A8 y.f0.length c8, .slice B8 y.f1.length d8, .int .i64 y.f2, .int .i64 y.f3] 31)
  replace BX := zA (blk_below BX.out hb)
  replace HX := zA (HX.out.below hb)
  replace HY := zA (HY.out.below hb)
  replace HB := zA (bel HB.out hb)
  replace HCL := zA (And.intro (Kd.C_below HCL.out.1 hb) HCL.out.2)
  obtain ⟨g9, hg⟩ : ∃ g, g = w7.heap.size := ⟨_, rfl⟩
  rw [← hg] at BYY ⊢
  clear hb hg
  generalize w7.alloc (.cells #[.slice A8 y.f0.length c8, .slice B8 y.f1.length d8, .int .i64 y.f2, .int .i64 y.f3] 31) = W8 at BX HX HY HB HCL BYY ⊢
  have CT : Aside0 (∀ (V : World), TreeC V y A8 c8 B8 d8 → _) := ⟨fun V h => call_tree_impl A8 B8 c8 d8 y V h SY.out⟩
  rw [HTY.out] at CT
  obtain ⟨z1, hz1⟩ : ∃ z, z = chgR y 0 := ⟨_, rfl⟩
  obtain ⟨z2, hz2⟩ : ∃ z, z = chgR x 0 := ⟨_, rfl⟩
  have CG1 : Aside0 (∀ (V : World), TreeC V y A8 c8 B8 d8 → _) := ⟨fun V h => changes_impl A8 B8 c8 d8 y 0 V h SY.out⟩
  have CG2 : Aside0 (∀ (V : World), TreeC V x A7 c7 B7 d7 → _) := ⟨fun V h => changes_impl A7 B7 c7 d7 x 0 V h SX.out⟩
  rw [← hz1] at CG1 HLE
  rw [← hz2] at CG2 HLE
  clear hz1 hz2
  have hg1 : decide ((1 : Int) < (y.f1.length : Int)) = false := decide_eq_false (by have := HONE.out; omega)
  have hg2 : decide ((z2.length : Int) < (z1.length : Int)) = false := decide_eq_false (by have := HLE.out; omega)
  have hg3 : ¬ z2.length < z1.length := Nat.not_lt_of_le HLE.out
  have hg4 : decide (z2.length < z1.length) = false := decide_eq_false hg3
  have hg5 : ¬ (z2.length : Int) < (z1.length : Int) := of_decide_eq_false hg2
  have hg6 : ¬ 1 < y.f1.length := Nat.not_lt_of_le HONE.out
  refine start_ (n := 18) (S := fun w' => w'.cell? ⟨g9, 0, none⟩ = some (.slice A8 y.f0.length c8) ∧ w'.cell? ⟨g9, 1, none⟩ = some (.slice B8 y.f1.length d8) ∧ w'.cell? ⟨g9, 2, none⟩ = some (.int .i64 y.f2) ∧ w'.cell? ⟨g9, 3, none⟩ = some (.int .i64 y.f3) ∧ w'.cell? ⟨g, 0, none⟩ = some (.slice A7 x.f0.length c7) ∧ w'.cell? ⟨g, 1, none⟩ = some (.slice B7 x.f1.length d7) ∧ w'.cell? ⟨g, 2, none⟩ = some (.int .i64 x.f2) ∧ w'.cell? ⟨g, 3, none⟩ = some (.int .i64 x.f3)) (ds := [17]) #[false, false, false, false, false, false, false, false, false, false, false, false, false, false, false, false, false, false] (by kernel_rfl) rfl rfl ⟨(blk_cell BYY.out 0).trans rfl, (blk_cell BYY.out 1).trans rfl, (blk_cell BYY.out 2).trans rfl, (blk_cell BYY.out 3).trans rfl, (blk_cell BX.out 0).trans rfl, (blk_cell BX.out 1).trans rfl, (blk_cell BX.out 2).trans rfl, (blk_cell BX.out 3).trans rfl⟩ (fun hHeld => ?_)
  have hb : Below W8.heap.size W8 W8.drew := below_drew (Below.refl _ _)
  replace BX := zA (blk_below BX.out hb); replace BYY := zA (blk_below BYY.out hb); replace HX := zA (HX.out.below hb); replace HY := zA (HY.out.below hb); replace HB := zA (bel HB.out hb); replace HCL := zA (And.intro (Kd.C_below HCL.out.1 hb) HCL.out.2); clear hb
  generalize W8.drew = V0 at BX BYY HX HY HB HCL hHeld ⊢
  refine take_ (i := 0) (N := some 45) (v := ?_) (a' := ?_) #[true, false, false, false, false, false, false, false, false, false, false, false, false, false, false, false, false, false] rfl rfl (by kernel_rfl) (fun _ _ _ h => h) (Or.inl ⟨by rfl, ?_⟩) hHeld ?_ ?_
  rotate_left
  · rintro w' ⟨s0, s1, s2, s3, s4, s5, s6, s7⟩
    go_simp
    with_reducible rfl
  rotate_left
  · simp only [Act.put, sT_, s0_, sS_, i64_w, i32_w]
    rfl
  refine one_ (i := 1) (N := some 46) #[true, true, false, false, false, false, false, false, false, false, false, false, false, false, false, false, false, false] rfl rfl (by kernel_rfl) (by decide) (fun K hK => ?_)
  refine goes_ Try.func18 (by kernel_rfl) rfl #[.agg #[.slice A8 y.f0.length c8, .slice B8 y.f1.length d8, .int .i64 y.f2, .int .i64 y.f3]] (by rfl) rfl rfl (by (try simp only [List.map_toArray, List.map_cons, List.map_nil]); first | done | rfl) ?_
  refine (CT.out _ HY.out).mono ?_
  rintro e V1 ⟨rfl, hb⟩
  refine ⟨_, rfl, ?_⟩
  replace BX := zA (blk_below BX.out hb); replace BYY := zA (blk_below BYY.out hb); replace HX := zA (HX.out.below hb); replace HY := zA (HY.out.below hb); replace HB := zA (bel HB.out hb); replace HCL := zA (And.intro (Kd.C_below HCL.out.1 hb) HCL.out.2); clear hb
  refine hK.out _ _ ⟨(blk_cell BYY.out 0).trans rfl, (blk_cell BYY.out 1).trans rfl, (blk_cell BYY.out 2).trans rfl, (blk_cell BYY.out 3).trans rfl, (blk_cell BX.out 0).trans rfl, (blk_cell BX.out 1).trans rfl, (blk_cell BX.out 2).trans rfl, (blk_cell BX.out 3).trans rfl⟩ (fun hHeld => ?_)
  clear hK K
  refine norm_ (a' := ?_) ?_ ?_
  rotate_left
  · show Act.put _ (some 46) _ = _
    simp only [Act.put, sT_, s0_, sS_, i64_w, i32_w]
    rfl
  refine pure_ (i := 2) (N := some 47) (v := ?_) (a' := ?_) #[true, true, true, false, false, false, false, false, false, false, false, false, false, false, false, false, false, false] rfl rfl (by kernel_rfl) (fun _ _ _ h => h) (Or.inl ⟨by rfl, ?_⟩) ?_ ?_
  rotate_left
  · intro w'
    go_simp
    with_reducible rfl
  rotate_left
  · simp only [Act.put, sT_, s0_, sS_, i64_w, i32_w]
    rfl
  refine pure_ (i := 3) (N := some 48) (v := ?_) (a' := ?_) #[true, true, true, true, false, false, false, false, false, false, false, false, false, false, false, false, false, false] rfl rfl (by kernel_rfl) (fun _ _ _ h => h) (Or.inl ⟨by rfl, ?_⟩) ?_ ?_
  rotate_left
  · intro w'
    go_simp
    with_reducible rfl
  rotate_left
  · simp only [Act.put, sT_, s0_, sS_, i64_w, i32_w]
    rfl
  refine pure_ (i := 4) (N := some 49) (v := ?_) (a' := ?_) #[true, true, true, true, true, false, false, false, false, false, false, false, false, false, false, false, false, false] rfl rfl (by kernel_rfl) (fun _ _ _ h => h) (Or.inl ⟨by rfl, ?_⟩) ?_ ?_
  rotate_left
  · intro w'
    go_simp
    with_reducible rfl
  rotate_left
  · simp only [Act.put, sT_, s0_, sS_, i64_w, i32_w]
    rfl
  refine take_ (i := 5) (N := some 50) (v := ?_) (a' := ?_) #[true, true, true, true, true, true, false, false, false, false, false, false, false, false, false, false, false, false] rfl rfl (by kernel_rfl) (fun _ _ _ h => h) (Or.inl ⟨by rfl, ?_⟩) hHeld ?_ ?_
  rotate_left
  · rintro w' ⟨s0, s1, s2, s3, s4, s5, s6, s7⟩
    go_simp
    with_reducible rfl
  rotate_left
  · simp only [Act.put, sT_, s0_, sS_, i64_w, i32_w]
    rfl
  refine pure_ (i := 6) (N := some 51) (v := ?_) (a' := ?_) #[true, true, true, true, true, true, true, false, false, false, false, false, false, false, false, false, false, false] rfl rfl (by kernel_rfl) (fun _ _ _ h => h) (Or.inl ⟨by rfl, ?_⟩) ?_ ?_
  rotate_left
  · intro w'
    go_simp
    with_reducible rfl
  rotate_left
  · simp only [Act.put, sT_, s0_, sS_, i64_w, i32_w]
    rfl
  refine pure_ (i := 7) (N := some 52) (v := ?_) (a' := ?_) #[true, true, true, true, true, true, true, true, false, false, false, false, false, false, false, false, false, false] rfl rfl (by kernel_rfl) (fun _ _ _ h => h) (Or.inl ⟨by rfl, ?_⟩) ?_ ?_
  rotate_left
  · intro w'
    go_simp
    with_reducible rfl
  rotate_left
  · simp only [Act.put, sT_, s0_, sS_, i64_w, i32_w]
    rfl
  refine pure_ (i := 8) (N := some 53) (v := ?_) (a' := ?_) #[true, true, true, true, true, true, true, true, true, false, false, false, false, false, false, false, false, false] rfl rfl (by kernel_rfl) (fun _ _ _ h => h) (Or.inl ⟨by rfl, ?_⟩) ?_ ?_
  rotate_left
  · intro w'
    go_simp
    with_reducible rfl
  rotate_left
  · simp only [Act.put, sT_, s0_, sS_, i64_w, i32_w]
    rfl
  refine pure_ (i := 9) (N := some 54) (v := ?_) (a' := ?_) #[true, true, true, true, true, true, true, true, true, true, false, false, false, false, false, false, false, false] rfl rfl (by kernel_rfl) (fun _ _ _ h => h) (Or.inl ⟨by rfl, ?_⟩) ?_ ?_
  rotate_left
  · intro w'
    go_simp
    with_reducible rfl
  rotate_left
  · simp only [Act.put, sT_, s0_, sS_, i64_w, i32_w]
    rfl
  refine take_ (i := 10) (N := some 55) (v := ?_) (a' := ?_) #[true, true, true, true, true, true, true, true, true, true, true, false, false, false, false, false, false, false] rfl rfl (by kernel_rfl) (fun _ _ _ h => h) (Or.inl ⟨by rfl, ?_⟩) hHeld ?_ ?_
  rotate_left
  · rintro w' ⟨s0, s1, s2, s3, s4, s5, s6, s7⟩
    go_simp
    with_reducible rfl
  rotate_left
  · simp only [Act.put, sT_, s0_, sS_, i64_w, i32_w]
    rfl
  refine take_ (i := 13) (N := some 58) (v := ?_) (a' := ?_) #[true, true, true, true, true, true, true, true, true, true, true, false, false, true, false, false, false, false] rfl rfl (by kernel_rfl) (fun _ _ _ h => h) (Or.inl ⟨by rfl, ?_⟩) hHeld ?_ ?_
  rotate_left
  · rintro w' ⟨s0, s1, s2, s3, s4, s5, s6, s7⟩
    go_simp
    with_reducible rfl
  rotate_left
  · simp only [Act.put, sT_, s0_, sS_, i64_w, i32_w]
    rfl
  refine one_ (i := 11) (N := some 56) #[true, true, true, true, true, true, true, true, true, true, true, true, false, true, false, false, false, false] rfl rfl (by kernel_rfl) (by decide) (fun K hK => ?_)
  refine goes_ Try.func29 (by kernel_rfl) rfl #[.agg #[.slice A8 y.f0.length c8, .slice B8 y.f1.length d8, .int .i64 y.f2, .int .i64 y.f3], .int .i64 0] (by rfl) rfl rfl (by (try simp only [List.map_toArray, List.map_cons, List.map_nil]); first | done | rfl) ?_
  refine (CG1.out _ HY.out).mono ?_
  rintro e V2 ⟨v1, rfl, hR, hb⟩
  refine ⟨_, rfl, ?_⟩
  replace BX := zA (blk_below BX.out hb); replace BYY := zA (blk_below BYY.out hb); replace HX := zA (HX.out.below hb); replace HY := zA (HY.out.below hb); replace HB := zA (bel HB.out hb); replace HCL := zA (And.intro (Kd.C_below HCL.out.1 hb) HCL.out.2); clear hb
  obtain ⟨AY, cY, rfl⟩ := Kd.R_slice hR
  clear hR
  refine hK.out _ _ ⟨(blk_cell BYY.out 0).trans rfl, (blk_cell BYY.out 1).trans rfl, (blk_cell BYY.out 2).trans rfl, (blk_cell BYY.out 3).trans rfl, (blk_cell BX.out 0).trans rfl, (blk_cell BX.out 1).trans rfl, (blk_cell BX.out 2).trans rfl, (blk_cell BX.out 3).trans rfl⟩ (fun hHeld => ?_)
  clear hK K
  refine norm_ (a' := ?_) ?_ ?_
  rotate_left
  · show Act.put _ (some 56) _ = _
    simp only [Act.put, sT_, s0_, sS_, i64_w, i32_w]
    rfl
  refine pure_ (i := 12) (N := some 57) (v := ?_) (a' := ?_) #[true, true, true, true, true, true, true, true, true, true, true, true, true, true, false, false, false, false] rfl rfl (by kernel_rfl) (fun _ _ _ h => h) (Or.inl ⟨by rfl, ?_⟩) ?_ ?_
  rotate_left
  · intro w'
    go_simp
    with_reducible rfl
  rotate_left
  · simp only [Act.put, sT_, s0_, sS_, i64_w, i32_w]
    rfl
  refine one_ (i := 14) (N := some 59) #[true, true, true, true, true, true, true, true, true, true, true, true, true, true, true, false, false, false] rfl rfl (by kernel_rfl) (by decide) (fun K hK => ?_)
  refine goes_ Try.func29 (by kernel_rfl) rfl #[.agg #[.slice A7 x.f0.length c7, .slice B7 x.f1.length d7, .int .i64 x.f2, .int .i64 x.f3], .int .i64 0] (by rfl) rfl rfl (by (try simp only [List.map_toArray, List.map_cons, List.map_nil]); first | done | rfl) ?_
  refine (CG2.out _ HX.out).mono ?_
  rintro e V3 ⟨v2, rfl, hR, hb⟩
  refine ⟨_, rfl, ?_⟩
  replace BX := zA (blk_below BX.out hb); replace BYY := zA (blk_below BYY.out hb); replace HX := zA (HX.out.below hb); replace HY := zA (HY.out.below hb); replace HB := zA (bel HB.out hb); replace HCL := zA (And.intro (Kd.C_below HCL.out.1 hb) HCL.out.2); clear hb
  obtain ⟨AX, cX, rfl⟩ := Kd.R_slice hR
  clear hR
  refine hK.out _ _ ⟨(blk_cell BYY.out 0).trans rfl, (blk_cell BYY.out 1).trans rfl, (blk_cell BYY.out 2).trans rfl, (blk_cell BYY.out 3).trans rfl, (blk_cell BX.out 0).trans rfl, (blk_cell BX.out 1).trans rfl, (blk_cell BX.out 2).trans rfl, (blk_cell BX.out 3).trans rfl⟩ (fun hHeld => ?_)
  clear hK K
  refine norm_ (a' := ?_) ?_ ?_
  rotate_left
  · show Act.put _ (some 59) _ = _
    simp only [Act.put, sT_, s0_, sS_, i64_w, i32_w]
    rfl
  refine pure_ (i := 15) (N := some 60) (v := ?_) (a' := ?_) #[true, true, true, true, true, true, true, true, true, true, true, true, true, true, true, true, false, false] rfl rfl (by kernel_rfl) (fun _ _ _ h => h) (Or.inl ⟨by rfl, ?_⟩) ?_ ?_
  rotate_left
  · intro w'
    go_simp
    with_reducible rfl
  rotate_left
  · simp only [Act.put, sT_, s0_, sS_, i64_w, i32_w]
    rfl
  refine pure_ (i := 16) (N := some 61) (v := ?_) (a' := ?_) #[true, true, true, true, true, true, true, true, true, true, true, true, true, true, true, true, true, false] rfl rfl (by kernel_rfl) (fun _ _ _ h => h) (Or.inl ⟨by rfl, ?_⟩) ?_ ?_
  rotate_left
  · intro w'
    go_simp
    with_reducible rfl
  rotate_left
  · simp only [Act.put, sT_, s0_, sS_, i64_w, i32_w]
    rfl
  refine pure_ (i := 17) (N := some 62) (v := ?_) (a' := ?_) #[true, true, true, true, true, true, true, true, true, true, true, true, true, true, true, true, true, true] rfl rfl (by kernel_rfl) (fun _ _ _ h => h) (Or.inl ⟨by rfl, ?_⟩) ?_ ?_
  rotate_left
  · intro w'
    go_simp
    with_reducible rfl
  rotate_left
  · simp only [Act.put, sT_, s0_, sS_, i64_w, i32_w]
    rfl
  refine done_ (by kernel_rfl) ?_
  clear hHeld CT CG1 CG2
  obtain ⟨dv, hdv⟩ : ∃ d : Nat, (l.length : Int) / 8 = (d : Int) ∧ d ≤ 10 := ⟨l.length / 8, by have := HL75.out; omega⟩
  have hdv2 : Int.tdiv (l.length : Int) 8 = (dv : Int) := by rw [Int.tdiv_eq_ediv_of_nonneg (by omega)]; exact hdv.1
  have HDV := zA hdv
  have HDW := zA hdv2
  clear hdv hdv2
  generalize hW8 : V3 = W9 at BX BYY HX HY HB HCL ⊢
  clear hW8
  go_wp2
  clear hg1 hg2 hg3 hg4 hg5 hg6
  go_loopg [11] (l.length + 1) (fun kq v10 wr => ∃ (j : Nat), (j + kq = l.length + 1 ∧ j ≤ l.length) ∧ v10 = .int .i64 (j : Int) ∧ Aside0 (Below W9.heap.size W9 wr))
  case atStart => exact ⟨0, ⟨by omega, Nat.zero_le _⟩, rfl, ⟨by first | exact Below.refl _ _ | exact pw_below_drewN (Below.refl _ _) _⟩⟩
  case round =>
    obtain ⟨j, hj, rfl, HW⟩ := hrel
    by_cases hlt : j < l.length
    case neg =>
      obtain rfl : j = l.length := by omega
      go_wp2
      go_ret
      exact ⟨rfl, by first | exact bel HB.out HW.out | exact pw_below_drewN (bel HB.out HW.out) _⟩
    have hwj : wrap64 ((j : Int) + 1) = (j : Int) + 1 := w64 (by omega) (by have := HL75.out; omega)
    obtain ⟨⟨k0, k1, k2, k3⟩, hye⟩ : ∃ c : Cel, l[j] = c := ⟨_, rfl⟩
    have HK0 : Aside0 (k0.size ≤ 2) := ⟨by have := HKEY.out j hlt; rw [hye] at this; exact this⟩
    have HYE := zA hye
    clear hye
    go_wp2
    go_loopg [12] (l.length + 2) (fun kq v12 wq => ∃ (s : Nat), (l.length + 2 ≤ s + kq ∧ kp ≤ s ∧ s ≤ 100) ∧ v12 = .int .i64 (s : Int) ∧ Aside0 (Below W9.heap.size W9 wq))
    case atStart => exact ⟨kp, ⟨by omega, Nat.le_refl _, by have := HSL.out; have := HL75.out; omega⟩, rfl, ⟨by first | exact HW.out | exact pw_below_drewN HW.out _⟩⟩
    case round =>
      clear HW
      obtain ⟨s, hn, rfl, HW⟩ := hrel
      by_cases hn4 : s ≤ l.length
      case neg =>
        have hn4' : ¬ (s : Int) ≤ (l.length : Int) := by omega
        go_wp2
        go_roundg (l.length - j)
        case measure => omega
        case rel => exact ⟨j + 1, ⟨by omega, by omega⟩, by go_num, ⟨by first | exact HW.out | exact pw_below_drewN HW.out _⟩⟩
      have hn4' : (s : Int) ≤ (l.length : Int) := by omega
      have hw1 : wrap64 ((s : Int) + 1) = (s : Int) + 1 := w64 (by omega) (by omega)
      have hw2 : wrap64 ((s : Int) + 1 + (dv : Int)) = ((s + 1 + dv : Nat) : Int) := by rw [w64 (by omega) (by have := HDV.out.2; omega)]; omega
      have hw3 : wrap64 (dv : Int) = (dv : Int) := w64 (by omega) (by have := HDV.out.2; omega)
      have HS2 := zA hn4
      obtain ⟨lv, lh, hlast⟩ : ∃ lv lh, lastN l k0 s = (lv, lh) := ⟨_, _, rfl⟩
      have CLST : Aside0 (∀ V : World, Below W9.heap.size W9 V → _) := ⟨fun V hb => call_last AL cL l k0 s V (Kd.C_below HCL.out.1 hb) HCL.out.2 (Nat.le_trans HL75.out (by decide)) (Nat.le_trans HS2.out (Nat.le_trans HL75.out (by decide)))⟩
      have CLY : Aside0 (∀ V : World, Below W9.heap.size W9 V → _) := ⟨fun V hb => call_look_impl A8 B8 c8 d8 y k0 (s : Int) V (HY.out.below hb) SY.out (small_max HK0.out)⟩
      rw [HLK.out k0 s HS2.out hn.2.1, hlast] at CLY
      rw [hlast] at CLST
      have hv : (lv.toList != lv.toList) = false := by simp
      have hh : (lh != lh) = false := by simp
      clear hlast
      obtain ⟨ad2, ee, e0, e1, e2, e3⟩ := elemC HCL.out.1 HW.out hlt HYE.out
      cases ee
      clear e1 e2 e3
      go_upto_region 18 with (go_at_call 27; refine (CLST.out _ HW.out).mono ?_; rintro e w6 ⟨rfl, hb⟩; replace HW := zA (bel HW.out hb); replace e0 := cellU e0 hb; clear hb)
      have E0 := zA e0
      clear e0
      refine start_ (n := 13) (S := fun w' => w'.cell? ⟨g9, 0, none⟩ = some (.slice A8 y.f0.length c8) ∧ w'.cell? ⟨g9, 1, none⟩ = some (.slice B8 y.f1.length d8) ∧ w'.cell? ⟨g9, 2, none⟩ = some (.int .i64 y.f2) ∧ w'.cell? ⟨g9, 3, none⟩ = some (.int .i64 y.f3) ∧ w'.cell? (ad2.add (j * 4)) = some (.string k0)) (ds := [12]) #[false, false, false, false, false, false, false, false, false, false, false, false, false] (by kernel_rfl) rfl rfl ⟨cellU ((blk_cell BYY.out 0).trans rfl) (below_drew HW.out), cellU ((blk_cell BYY.out 1).trans rfl) (below_drew HW.out), cellU ((blk_cell BYY.out 2).trans rfl) (below_drew HW.out), cellU ((blk_cell BYY.out 3).trans rfl) (below_drew HW.out), cellU E0.out (below_drew (Below.refl _ _))⟩ (fun hHeld => ?_)
      have hb : Below w6.heap.size w6 w6.drew := below_drew (Below.refl _ _)
      replace HW := zA (bel HW.out hb)
      replace E0 := zA (cellU E0.out hb)
      clear hb
      generalize w6.drew = wC at HW E0 hHeld ⊢
      refine take_ (i := 0) (N := some 92) (v := ?_) (a' := ?_) #[true, false, false, false, false, false, false, false, false, false, false, false, false] rfl rfl (by kernel_rfl) (fun _ _ _ h => h) (Or.inl ⟨by rfl, ?_⟩) hHeld ?_ ?_
      rotate_left
      · rintro w' ⟨s0, s1, s2, s3, s4⟩
        go_simp
        with_reducible rfl
      rotate_left
      · simp only [Act.put, sT_, s0_, sS_, i64_w, i32_w]
        rfl
      refine pure_ (i := 1) (N := some 93) (v := ?_) (a' := ?_) #[true, true, false, false, false, false, false, false, false, false, false, false, false] rfl rfl (by kernel_rfl) (fun _ _ _ h => h) (Or.inl ⟨by rfl, ?_⟩) ?_ ?_
      rotate_left
      · intro w'
        go_simp
        with_reducible rfl
      rotate_left
      · simp only [Act.put, sT_, s0_, sS_, i64_w, i32_w]
        rfl
      refine pure_ (i := 2) (N := some 94) (v := ?_) (a' := ?_) #[true, true, true, false, false, false, false, false, false, false, false, false, false] rfl rfl (by kernel_rfl) (fun _ _ _ h => h) (Or.inl ⟨by rfl, ?_⟩) ?_ ?_
      rotate_left
      · intro w'
        go_simp
        with_reducible rfl
      rotate_left
      · simp only [Act.put, sT_, s0_, sS_, i64_w, i32_w]
        rfl
      refine pure_ (i := 3) (N := some 95) (v := ?_) (a' := ?_) #[true, true, true, true, false, false, false, false, false, false, false, false, false] rfl rfl (by kernel_rfl) (fun _ _ _ h => h) (Or.inl ⟨by rfl, ?_⟩) ?_ ?_
      rotate_left
      · intro w'
        go_simp
        with_reducible rfl
      rotate_left
      · simp only [Act.put, sT_, s0_, sS_, i64_w, i32_w]
        rfl
      refine pure_ (i := 4) (N := some 96) (v := ?_) (a' := ?_) #[true, true, true, true, true, false, false, false, false, false, false, false, false] rfl rfl (by kernel_rfl) (fun _ _ _ h => h) (Or.inl ⟨by rfl, ?_⟩) ?_ ?_
      rotate_left
      · intro w'
        go_simp
        with_reducible rfl
      rotate_left
      · simp only [Act.put, sT_, s0_, sS_, i64_w, i32_w]
        rfl
      refine take_ (i := 5) (N := some 97) (v := ?_) (a' := ?_) #[true, true, true, true, true, true, false, false, false, false, false, false, false] rfl rfl (by kernel_rfl) (fun _ _ _ h => h) (Or.inl ⟨by rfl, ?_⟩) hHeld ?_ ?_
      rotate_left
      · rintro w' ⟨s0, s1, s2, s3, s4⟩
        go_simp
        with_reducible rfl
      rotate_left
      · simp only [Act.put, sT_, s0_, sS_, i64_w, i32_w]
        rfl
      refine pure_ (i := 6) (N := some 98) (v := ?_) (a' := ?_) #[true, true, true, true, true, true, true, false, false, false, false, false, false] rfl rfl (by kernel_rfl) (fun _ _ _ h => h) (Or.inl ⟨by rfl, ?_⟩) ?_ ?_
      rotate_left
      · intro w'
        go_simp
        with_reducible rfl
      rotate_left
      · simp only [Act.put, sT_, s0_, sS_, i64_w, i32_w]
        rfl
      refine one_ (i := 7) (N := some 99) #[true, true, true, true, true, true, true, true, false, false, false, false, false] rfl rfl (by kernel_rfl) (by decide) (fun K hK => ?_)
      refine goes_ Try.func21 (by kernel_rfl) rfl #[.agg #[.slice A8 y.f0.length c8, .slice B8 y.f1.length d8, .int .i64 y.f2, .int .i64 y.f3], .string k0, .int .i64 (s : Int)] (by rfl) rfl rfl (by (try simp only [List.map_toArray, List.map_cons, List.map_nil]); first | done | rfl) ?_
      refine (CLY.out _ HW.out).mono ?_
      rintro e wA ⟨rfl, hb⟩
      refine ⟨_, rfl, ?_⟩
      replace HW := zA (bel HW.out hb)
      replace E0 := zA (cellU E0.out hb)
      clear hb
      refine hK.out _ _ ⟨cellU ((blk_cell BYY.out 0).trans rfl) HW.out, cellU ((blk_cell BYY.out 1).trans rfl) HW.out, cellU ((blk_cell BYY.out 2).trans rfl) HW.out, cellU ((blk_cell BYY.out 3).trans rfl) HW.out, E0.out⟩ (fun hHeld => ?_)
      clear hK K
      refine norm_ (a' := ?_) ?_ ?_
      rotate_left
      · show Act.put _ (some 99) _ = _
        simp only [Act.put, sT_, s0_, sS_, i64_w, i32_w]
        rfl
      refine pure_ (i := 8) (N := some 91) (v := ?_) (a' := ?_) #[true, true, true, true, true, true, true, true, true, false, false, false, false] rfl rfl (by kernel_rfl) (fun _ _ _ h => h) (Or.inl ⟨by rfl, ?_⟩) ?_ ?_
      rotate_left
      · intro w'
        go_simp
        with_reducible rfl
      rotate_left
      · simp only [Act.put, sT_, s0_, sS_, i64_w, i32_w]
        rfl
      refine pure_ (i := 9) (N := some 100) (v := ?_) (a' := ?_) #[true, true, true, true, true, true, true, true, true, true, false, false, false] rfl rfl (by kernel_rfl) (fun _ _ _ h => h) (Or.inl ⟨by rfl, ?_⟩) ?_ ?_
      rotate_left
      · intro w'
        go_simp
        with_reducible rfl
      rotate_left
      · simp only [Act.put, sT_, s0_, sS_, i64_w, i32_w]
        rfl
      refine pure_ (i := 10) (N := some 101) (v := ?_) (a' := ?_) #[true, true, true, true, true, true, true, true, true, true, true, false, false] rfl rfl (by kernel_rfl) (fun _ _ _ h => h) (Or.inl ⟨by rfl, ?_⟩) ?_ ?_
      rotate_left
      · intro w'
        go_simp
        with_reducible rfl
      rotate_left
      · simp only [Act.put, sT_, s0_, sS_, i64_w, i32_w]
        rfl
      refine pure_ (i := 11) (N := some 15) (v := ?_) (a' := ?_) #[true, true, true, true, true, true, true, true, true, true, true, true, false] rfl rfl (by kernel_rfl) (fun _ _ _ h => h) (Or.inl ⟨by rfl, ?_⟩) ?_ ?_
      rotate_left
      · intro w'
        go_simp
        with_reducible rfl
      rotate_left
      · simp only [Act.put, sT_, s0_, sS_, i64_w, i32_w]
        rfl
      refine pure_ (i := 12) (N := some 16) (v := ?_) (a' := ?_) #[true, true, true, true, true, true, true, true, true, true, true, true, true] rfl rfl (by kernel_rfl) (fun _ _ _ h => h) (Or.inl ⟨by rfl, ?_⟩) ?_ ?_
      rotate_left
      · intro w'
        go_simp
        with_reducible rfl
      rotate_left
      · simp only [Act.put, sT_, s0_, sS_, i64_w, i32_w]
        rfl
      refine done_ (by kernel_rfl) ?_
      have HV : Aside0 (wrap64 ((s : Int) + 1 + wrap64 ((l.length : Int) / 8)) = ((s + 1 + dv : Nat) : Int)) := ⟨by rw [HDV.out.1, hw3, hw2]⟩
      have HN := zA hn
      have HDD := zA HDV.out.2
      clear hHeld hr0 hw2 hw3 hwj hn4' hn4 hw1
      go_upto_region 16 with (fail)
      go_wp2
      go_roundg (l.length + 1 - s)
      case measure => have h1 := HN.out; have h2 := HS2.out; omega
      case rel => exact ⟨s + 1 + dv, ⟨by omega, by have := HN.out; omega, by have := HN.out; have := HDD.out; have := HL75.out; have := HS2.out; omega⟩, by rw [HV.out], ⟨by first | exact HW.out | exact pw_below_drewN HW.out _⟩⟩
theorem mrd_row (w : World) (A : Option Addr) (len cap : Nat) (x : List Int) (hK : (Kd.slice 5 BY).K w x [.slice A len cap]) (ok : okB x) (A2 : Option Addr) (len2 cap2 : Nat) (y : List Int) (hK2 : (Kd.slice 5 BY).K w y [.slice A2 len2 cap2]) (ok2 : okB y) :
    Calls Try.prog 6 #[.slice A len cap, .slice A2 len2 cap2] w fun e w' => e = .returned (.bool true) ∧ Below w.heap.size w w' := by
  obtain ⟨B, c, e, hlc, h0⟩ := hK
  obtain ⟨rfl, rfl, rfl⟩ : A = B ∧ len = x.length ∧ cap = c := by simpa using e
  obtain ⟨B2, c2, e2, hlc2, h2⟩ := hK2
  obtain ⟨rfl, rfl, rfl⟩ : A2 = B2 ∧ len2 = y.length ∧ cap2 = c2 := by simpa using e2
  exact mrd_walk w A cap x A2 cap2 y h0 hlc h2 hlc2 ok2.2
end Go.Proofs.Ythffllegmkolgaa.TreeK
