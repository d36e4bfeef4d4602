/- The law FnRestored, called with whatever can be read: it returns true and nothing that was there has changed. -/
import Derived.Test.YthffllegmkolgaaT11RemWalk
import Derived.Test.YthffllegmkolgaaT11RsdPure
import Derived.Test.YthffllegmkolgaaT11ScanI
import Derived.Test.YthffllegmkolgaaT11ChgI
import Derived.Test.YthffllegmkolgaaT11RestS
import Derived.Test.YthffllegmkolgaaT11Chgd
import Derived.Test.YthffllegmkolgaaT11FlOwn
import Derived.Test.YthffllegmkolgaaT11LookCalls
import Derived.Test.YthffllegmkolgaaT11QTreex18
namespace Go.Proofs.Ythffllegmkolgaa.TreeK
open Go.RowKit Go.Proofs.YthffllegmkolgaaW.PrintWords Go.Proofs.YthffllegmkolgaaW.PrintLast Go.Proofs.YthffllegmkolgaaW.PrintMore Go.Proofs.Ythffllegmkolgaa.QTree Go.Proofs.Ythffllegmkolgaa.EvKit Go.Proofs.Ythffllegmkolgaa.GTree Go.Proofs.Ythffllegmkolgaa.Open
set_option linter.unusedSimpArgs false
set_option linter.unusedVariables false
set_option linter.unnecessarySimpa false
set_option maxHeartbeats 3200000 in
set_option maxRecDepth 100000 in
theorem rsd_walk (w : World) (A : Option Addr) (c : Nat) (bs : List Int) (A2 : Option Addr) (c2 : Nat) (ms : List Int) (hC : BY.C w A bs.length bs) (hc : bs.length ≤ c) (hC2 : BY.C w A2 ms.length ms) (hc2 : ms.length ≤ c2) (okm : ∀ a ∈ ms, 0 ≤ a ∧ a ≤ 255) :
    Calls Try.prog 14 #[.slice A bs.length c, .slice A2 ms.length c2] w fun e w' => e = .returned (.bool true) ∧ Below w.heap.size w w' := by
  have HC := zA (And.intro hC hc)
  have HC2 := zA (And.intro hC2 hc2)
  have OKM := zA okm
  clear hC hC2 hc hc2 okm
  have HB := zA (Below.refl w.heap.size w)
  go_enter Try.func14, Try.ntmps14
  obtain ⟨r1, hr1⟩ : ∃ b, decide ((bs.length : Int) > 1048576) = b := ⟨_, rfl⟩
  obtain ⟨r2, hr2⟩ : ∃ b, decide ((ms.length : Int) > 1048576) = b := ⟨_, rfl⟩
  have CB1 : Aside0 (∀ V : World, Below w.heap.size w V → _) := ⟨fun V hb => call_big A c bs r1 V (Kd.C_below HC.out.1 hb) HC.out.2 hr1⟩
  have CB2 : Aside0 (∀ V : World, Below w.heap.size w V → _) := ⟨fun V hb => call_big A2 c2 ms r2 V (Kd.C_below HC2.out.1 hb) HC2.out.2 hr2⟩
  have HR1 := zA hr1
  have HR2 := zA hr2
  clear hr1 hr2
  cases r1
  case true =>
    go_wp2_with (go_at_call 22; refine (CB1.out _ HB.out).mono ?_; rintro e w1 ⟨rfl, hb⟩; replace HB := zA (bel HB.out hb); clear hb)
    go_ret
    exact ⟨rfl, HB.out⟩
  cases r2
  case true =>
    go_wp2_with (first
      | (go_at_call 22; refine (CB1.out _ HB.out).mono ?_; rintro e w1 ⟨rfl, hb⟩; replace HB := zA (bel HB.out hb); clear hb CB1)
      | (go_at_call 22; refine (CB2.out _ HB.out).mono ?_; rintro e w2 ⟨rfl, hb⟩; replace HB := zA (bel HB.out hb); clear hb CB2))
    go_ret
    exact ⟨rfl, HB.out⟩
  have HL1 : Aside0 (bs.length ≤ 1048576) := ⟨by have := of_decide_eq_false HR1.out; omega⟩
  have HL2 : Aside0 (ms.length ≤ 1048576) := ⟨by have := of_decide_eq_false HR2.out; omega⟩
  clear HR1 HR2
  go_upto_region 4 with (first
    | (go_at_call 22; refine (CB1.out _ HB.out).mono ?_; rintro e w1 ⟨rfl, hb⟩; replace HB := zA (bel HB.out hb); clear hb CB1)
    | (go_at_call 22; refine (CB2.out _ HB.out).mono ?_; rintro e w2 ⟨rfl, hb⟩; replace HB := zA (bel HB.out hb); clear hb CB2)
    | (go_at_call 23; refine (draw_changed A c bs _ (Kd.C_below HC.out.1 HB.out) HC.out.2 HL1.out).mono ?_; rintro e w3 ⟨most, l, v, rfl, hl, hR, hb⟩; have HL := zA hl; have RL := zA (Kd.R_reads hR); replace HB := zA (bel HB.out hb); clear hl hR hb))
  obtain ⟨AL, cL, rfl, hlc, hlC⟩ := RL.out
  have HCL := zA (And.intro hlC hlc)
  clear RL hlC hlc
  have hm := most_in most HL.out.1
  have hok : ∀ x ∈ l, okC x := fun x hx => drawn_ok (HL.out.2.2 x hx)
  have HBF := zA (bld_facts hm (by have := HL.out.2.1; omega) hok l.length (Nat.le_refl _))
  have CCH := zA (changed_call AL cL most l w3 HCL.out.2 HCL.out.1 hm HL.out.2.1 HL.out.2.2)
  have HLG := zA (log_is hm (by have := HL.out.2.1; omega) hok)
  obtain ⟨r0, er0, hr0⟩ := at_ex ms 0 (by omega) HL2.out OKM.out
  have ER0 := zA er0
  obtain ⟨q, hq⟩ : ∃ q, q = 1 + Int.tmod r0 50 := ⟨_, rfl⟩
  have HQ : Aside0 (1 ≤ q ∧ q ≤ 50) := ⟨by have h1 := Int.tmod_nonneg 50 hr0; have h2 := Int.tmod_lt_of_pos r0 (show (0 : Int) < 50 by omega); omega⟩
  have HQW : Aside0 (wrap64 (1 + Int.tmod r0 50) = q) := ⟨by rw [← hq]; exact w64 (by have := HQ.out; omega) (by have := HQ.out; omega)⟩
  clear hq er0 hr0
  have HBG := zA (bld_facts HQ.out (by have := HL.out.2.1; omega) hok l.length (Nat.le_refl _))
  have HRS := zA (res_log HQ.out (by have := HL.out.2.1; omega) hok)
  have HTW := zA (fun fr til s hs => scan_two hm HQ.out (by have := HL.out.2.1; omega) hok fr til s hs)
  obtain ⟨x, hx⟩ : ∃ x, x = bld most l l.length := ⟨_, rfl⟩
  obtain ⟨y, hy⟩ : ∃ y, y = bld q l l.length := ⟨_, rfl⟩
  rw [← hx] at HBF CCH HLG
  rw [← hy] at HBG HRS
  simp only [← hx, ← hy] at HTW
  obtain ⟨lg, hlg⟩ : ∃ z, z = logL l := ⟨_, rfl⟩
  rw [← hlg] at HLG HRS
  have HGL : Aside0 (lg.length = l.length) := ⟨by rw [hlg]; exact log_len l⟩
  have SX := zA (sm_right HBF.out.1)
  have SY := zA (sm_right HBG.out.1)
  have HL75 := zA HL.out.2.1
  clear hm hok hx hy hlg HL
  go_upto_region 5 with (go_at_call 24; refine CCH.out.mono ?_; rintro e w4 ⟨v0, v1, rfl, hR, hS, hb⟩; have R0 := zA hR; have S0 := zA hS; replace HB := zA (bel HB.out hb); replace HCL := zA (And.intro (Kd.C_below HCL.out.1 hb) HCL.out.2); clear hR hS hb CCH; obtain ⟨A7, c7, rfl⟩ := Kd.R_slice R0.out; obtain ⟨B7, d7, rfl⟩ := Kd.S_slice S0.out)
  have HX : Aside0 (TreeC w4 x A7 c7 B7 d7) := ⟨⟨⟨(Kd.R_reads' R0.out).2.1, (Kd.R_reads' R0.out).2.2⟩, (Kd.S_reads' S0.out).2.1, (Kd.S_reads' S0.out).2.2⟩⟩
  clear R0 S0
  have BX := zA (blk_new w4 (.cells #[.slice A7 x.f0.length c7, .slice B7 x.f1.length d7, .int .i64 x.f2, .int .i64 x.f3] 31))
  have hb := bel_alloc w4 (.cells #[.slice A7 x.f0.length c7, .slice B7 x.f1.length d7, .int .i64 x.f2, .int .i64 x.f3] 31)
  replace HX := zA (HX.out.below hb)
  replace HB := zA (bel HB.out hb)
  replace HCL := zA (And.intro (Kd.C_below HCL.out.1 hb) HCL.out.2)
  obtain ⟨g, hg⟩ : ∃ g, g = w4.heap.size := ⟨_, rfl⟩
  rw [← hg] at BX ⊢
  clear hb hg
  generalize w4.alloc (.cells #[.slice A7 x.f0.length c7, .slice B7 x.f1.length d7, .int .i64 x.f2, .int .i64 x.f3] 31) = W5 at BX HX HB HCL ⊢
  obtain ⟨b0, b1, b2, b3⟩ := keep4 BX.out
  have CG : Aside0 (∀ (V : World), TreeC V x A7 c7 B7 d7 → _) := ⟨fun V h => changes_impl A7 B7 c7 d7 x 0 V h SX.out⟩
  rw [HLG.out] at CG
  go_upto_region 8 with (go_at_call 29; refine (CG.out _ HX.out).mono ?_; rintro e w6 ⟨v6, rfl, hR, hb⟩; have RG := zA (Kd.R_reads hR); clear hR; replace BX := zA (blk_below BX.out hb); replace HX := zA (HX.out.below hb); replace HB := zA (bel HB.out hb); replace HCL := zA (And.intro (Kd.C_below HCL.out.1 hb) HCL.out.2); clear hb b0 b1 b2 b3; obtain ⟨b0, b1, b2, b3⟩ := keep4 BX.out)
  obtain ⟨AG, cG, rfl, hgc, hgC⟩ := RG.out
  have HCG := zA (And.intro hgC hgc)
  clear RG hgc hgC CG
  have hq2 := HQW.out
  go_upto_region 9 with (first
    | (go_at_call 26; refine (call_at A2 c2 ms 0 r0 _ (Kd.C_below HC2.out.1 HB.out) HC2.out.2 ER0.out).mono ?_; rintro e w6 ⟨rfl, hb⟩; replace BX := zA (blk_below BX.out hb); replace HX := zA (HX.out.below hb); replace HB := zA (bel HB.out hb); replace HCL := zA (And.intro (Kd.C_below HCL.out.1 hb) HCL.out.2); replace HCG := zA (And.intro (Kd.C_below HCG.out.1 hb) HCG.out.2); clear hb b0 b1 b2 b3; obtain ⟨b0, b1, b2, b3⟩ := keep4 BX.out)
    | (go_at_call 38; refine (rest_impl AG cG q lg _ HCG.out.2 HCG.out.1 (by have h1 := HGL.out; have h2 := HL75.out; omega)).mono ?_; rw [HRS.out]; rintro e w7 ⟨v0, v1, rfl, hR, hS, hb⟩; have R0 := zA hR; have S0 := zA hS; replace BX := zA (blk_below BX.out hb); replace HX := zA (HX.out.below hb); replace HB := zA (bel HB.out hb); replace HCL := zA (And.intro (Kd.C_below HCL.out.1 hb) HCL.out.2); replace HCG := zA (And.intro (Kd.C_below HCG.out.1 hb) HCG.out.2); clear hR hS hb b0 b1 b2 b3; obtain ⟨A8, c8, rfl⟩ := Kd.R_slice R0.out; obtain ⟨B8, d8, rfl⟩ := Kd.S_slice S0.out)
    | (simp only [hq2]; done))
  clear hq2
  have HY : Aside0 (TreeC w7 y A8 c8 B8 d8) := ⟨⟨⟨(Kd.R_reads' R0.out).2.1, (Kd.R_reads' R0.out).2.2⟩, (Kd.S_reads' S0.out).2.1, (Kd.S_reads' S0.out).2.2⟩⟩
  clear R0 S0
  have BYY := zA (blk_new w7 (.cells #[.slice A8 y.f0.length c8, .slice B8 y.f1.length d8, .int .i64 y.f2, .int .i64 y.f3] 31))
  have hb := bel_alloc w7 (.cells #[.slice A8 y.f0.length c8, .slice B8 y.f1.length d8, .int .i64 y.f2, .int .i64 y.f3] 31)
  replace BX := zA (blk_below BX.out hb)
  replace HX := zA (HX.out.below hb)
  replace HY := zA (HY.out.below hb)
  replace HB := zA (bel HB.out hb)
  replace HCL := zA (And.intro (Kd.C_below HCL.out.1 hb) HCL.out.2)
  obtain ⟨g9, hg⟩ : ∃ g, g = w7.heap.size := ⟨_, rfl⟩
  rw [← hg] at BYY ⊢
  clear hb hg
  generalize w7.alloc (.cells #[.slice A8 y.f0.length c8, .slice B8 y.f1.length d8, .int .i64 y.f2, .int .i64 y.f3] 31) = W8 at BX HX HY HB HCL BYY ⊢
  have hgl : ((lg.length : Int) != (l.length : Int)) = false := by rw [HGL.out]; simp
  have CT : Aside0 (∀ (V : World), TreeC V y A8 c8 B8 d8 → _) := ⟨fun V h => call_tree_impl A8 B8 c8 d8 y V h SY.out⟩
  rw [HBG.out.1] at CT
  obtain ⟨b90, b91, b92, b93⟩ := keep4 BYY.out
  go_upto_region 11 with (go_at_call 18; refine (CT.out _ HY.out).mono ?_; rintro e w8 ⟨rfl, hb⟩; replace BX := zA (blk_below BX.out hb); replace BYY := zA (blk_below BYY.out hb); replace HX := zA (HX.out.below hb); replace HY := zA (HY.out.below hb); replace HB := zA (bel HB.out hb); clear hb b90 b91 b92 b93)
  clear hgl CT HCG HCL
  generalize hWE : w8 = W9 at BX BYY HX HY HB ⊢
  clear hWE
  go_wp2
  go_loopg [12] 4 (fun kq v12 wr => ∃ (n : Nat), (n + kq = 4 ∧ n ≤ 3) ∧ v12 = .int .i64 (n : Int) ∧ Aside0 (Below W9.heap.size W9 wr))
  case atStart => exact ⟨0, ⟨by omega, Nat.zero_le _⟩, rfl, ⟨by first | exact Below.refl _ _ | exact pw_below_drewN (Below.refl _ _) _⟩⟩
  case round =>
    obtain ⟨n, hn, rfl, HW⟩ := hrel
    by_cases hn3 : n < 3
    case neg =>
      obtain rfl : n = 3 := by omega
      go_wp2
      go_ret
      exact ⟨rfl, by first | exact bel HB.out HW.out | exact pw_below_drewN (bel HB.out HW.out) _⟩
    have hn3' : (n : Int) < 3 := by omega
    have hwn : wrap64 ((n : Int) + 1) = (n : Int) + 1 := w64 (by omega) (by omega)
    have hll : wrap64 ((l.length : Int) + 1) = (l.length : Int) + 1 := w64 (by omega) (by have := HL75.out; omega)
    obtain ⟨r, er, hr0⟩ := at_ex ms ((n : Int) + 1) (by omega) HL2.out OKM.out
    have ER := zA er
    obtain ⟨s, hs⟩ : ∃ s : Nat, Int.tmod r ((l.length : Int) + 1) = (s : Int) := ⟨(Int.tmod r ((l.length : Int) + 1)).toNat, by have := Int.tmod_nonneg ((l.length : Int) + 1) hr0; omega⟩
    have hsl : s ≤ l.length := by have := Int.tmod_lt_of_pos r (show (0 : Int) < (l.length : Int) + 1 by omega); omega
    have hne : ¬ ((l.length : Int) + 1 = 0) := by omega
    have hne2 : (((l.length : Int) + 1) == 0) = false := beq_eq_false_iff_ne.2 hne
    have hsw : wrap64 (s : Int) = (s : Int) := w64 (by omega) (by have := HL75.out; omega)
    obtain ⟨z, hz⟩ : ∃ z, z = scanX x ⟨#[]⟩ ⟨#[126]⟩ (s : Int) := ⟨_, rfl⟩
    have HZL : Aside0 (z.length ≤ 9223372036854775807) := ⟨by rw [hz]; exact Nat.le_trans (scanX_len _ _ _ _) (by decide)⟩
    have CS1 : Aside0 (∀ V : World, Below W9.heap.size W9 V → _) := ⟨fun V hb => scan_impl A7 B7 c7 d7 x ⟨#[]⟩ ⟨#[126]⟩ (s : Int) V (HX.out.below hb) SX.out⟩
    have CS2 : Aside0 (∀ V : World, Below W9.heap.size W9 V → _) := ⟨fun V hb => scan_impl A8 B8 c8 d8 y ⟨#[]⟩ ⟨#[126]⟩ (s : Int) V (HY.out.below hb) SY.out⟩
    rw [HTW.out _ _ s hsl, ← hz] at CS2
    rw [← hz] at CS1
    clear er hsl hz hr0
    go_upto_region 15 with (first
      | (go_at_call 26; refine (call_at A2 c2 ms _ r _ (Kd.C_below HC2.out.1 (bel HB.out HW.out)) HC2.out.2 ER.out).mono ?_; rintro e wE ⟨rfl, hb⟩; replace HW := zA (bel HW.out hb); clear hb)
      | (simp only [hs, hsw]; done))
    clear hs hne hne2 hsw hll
    refine start_ (n := 8) (S := fun w' => w'.cell? ⟨g, 0, none⟩ = some (.slice A7 x.f0.length c7) ∧ w'.cell? ⟨g, 1, none⟩ = some (.slice B7 x.f1.length d7) ∧ w'.cell? ⟨g, 2, none⟩ = some (.int .i64 x.f2) ∧ w'.cell? ⟨g, 3, none⟩ = some (.int .i64 x.f3) ∧ w'.cell? ⟨g9, 0, none⟩ = some (.slice A8 y.f0.length c8) ∧ w'.cell? ⟨g9, 1, none⟩ = some (.slice B8 y.f1.length d8) ∧ w'.cell? ⟨g9, 2, none⟩ = some (.int .i64 y.f2) ∧ w'.cell? ⟨g9, 3, none⟩ = some (.int .i64 y.f3)) (ds := [7]) #[false, false, false, false, false, false, false, false] (by kernel_rfl) rfl rfl ⟨cellU ((blk_cell BX.out 0).trans rfl) (below_drew HW.out), cellU ((blk_cell BX.out 1).trans rfl) (below_drew HW.out), cellU ((blk_cell BX.out 2).trans rfl) (below_drew HW.out), cellU ((blk_cell BX.out 3).trans rfl) (below_drew HW.out), cellU ((blk_cell BYY.out 0).trans rfl) (below_drew HW.out), cellU ((blk_cell BYY.out 1).trans rfl) (below_drew HW.out), cellU ((blk_cell BYY.out 2).trans rfl) (below_drew HW.out), cellU ((blk_cell BYY.out 3).trans rfl) (below_drew HW.out)⟩ (fun hHeld => ?_)
    replace HW := zA (below_drew HW.out)
    generalize wE.drew = w9 at HW hHeld ⊢
    refine take_ (i := 0) (N := some 70) (v := ?_) (a' := ?_) #[true, false, false, false, false, false, false, false] rfl rfl (by kernel_rfl) (fun _ _ _ h => h) (Or.inl ⟨by rfl, ?_⟩) hHeld ?_ ?_
    rotate_left
    · rintro w' ⟨s0, s1, s2, s3, s4, s5, s6, s7⟩
      go_simp
      with_reducible rfl
    rotate_left
    · simp only [Act.put, sT_, s0_, sS_, i64_w, i32_w]
      rfl
    refine pure_ (i := 1) (N := some 71) (v := ?_) (a' := ?_) #[true, true, false, false, false, false, false, false] rfl rfl (by kernel_rfl) (fun _ _ _ h => h) (Or.inl ⟨by rfl, ?_⟩) ?_ ?_
    rotate_left
    · intro w'
      go_simp
      with_reducible rfl
    rotate_left
    · simp only [Act.put, sT_, s0_, sS_, i64_w, i32_w]
      rfl
    refine take_ (i := 3) (N := some 73) (v := ?_) (a' := ?_) #[true, true, false, true, false, false, false, false] rfl rfl (by kernel_rfl) (fun _ _ _ h => h) (Or.inl ⟨by rfl, ?_⟩) hHeld ?_ ?_
    rotate_left
    · rintro w' ⟨s0, s1, s2, s3, s4, s5, s6, s7⟩
      go_simp
      with_reducible rfl
    rotate_left
    · simp only [Act.put, sT_, s0_, sS_, i64_w, i32_w]
      rfl
    refine pure_ (i := 4) (N := some 74) (v := ?_) (a' := ?_) #[true, true, false, true, true, false, false, false] rfl rfl (by kernel_rfl) (fun _ _ _ h => h) (Or.inl ⟨by rfl, ?_⟩) ?_ ?_
    rotate_left
    · intro w'
      go_simp
      with_reducible rfl
    rotate_left
    · simp only [Act.put, sT_, s0_, sS_, i64_w, i32_w]
      rfl
    refine one_ (i := 2) (N := some 72) #[true, true, true, true, true, false, false, false] rfl rfl (by kernel_rfl) (by decide) (fun K hK => ?_)
    refine goes_ Try.func47 (by kernel_rfl) rfl #[.agg #[.slice A7 x.f0.length c7, .slice B7 x.f1.length d7, .int .i64 x.f2, .int .i64 x.f3], .string ⟨#[]⟩, .string ⟨#[126]⟩, .int .i64 (s : Int)] (by rfl) rfl rfl (by (try simp only [List.map_toArray, List.map_cons, List.map_nil]); first | done | rfl) ?_
    refine (CS1.out _ HW.out).mono ?_
    rintro e w10 ⟨v1, rfl, hR, hb⟩
    refine ⟨_, rfl, ?_⟩
    obtain ⟨AP, cP, rfl, hpc, hpC⟩ := Kd.R_reads hR
    have P1 := zA (And.intro hpC hpc)
    replace HW := zA (bel HW.out hb)
    clear hR hpc hpC hb
    refine hK.out _ _ ⟨cellU ((blk_cell BX.out 0).trans rfl) HW.out, cellU ((blk_cell BX.out 1).trans rfl) HW.out, cellU ((blk_cell BX.out 2).trans rfl) HW.out, cellU ((blk_cell BX.out 3).trans rfl) HW.out, cellU ((blk_cell BYY.out 0).trans rfl) HW.out, cellU ((blk_cell BYY.out 1).trans rfl) HW.out, cellU ((blk_cell BYY.out 2).trans rfl) HW.out, cellU ((blk_cell BYY.out 3).trans rfl) HW.out⟩ (fun hHeld => ?_)
    clear hK K
    refine norm_ (a' := ?_) ?_ ?_
    rotate_left
    · show Act.put _ (some 72) _ = _
      simp only [Act.put, sT_, s0_, sS_, i64_w, i32_w]
      rfl
    refine one_ (i := 5) (N := some 75) #[true, true, true, true, true, true, false, false] rfl rfl (by kernel_rfl) (by decide) (fun K hK => ?_)
    refine goes_ Try.func47 (by kernel_rfl) rfl #[.agg #[.slice A8 y.f0.length c8, .slice B8 y.f1.length d8, .int .i64 y.f2, .int .i64 y.f3], .string ⟨#[]⟩, .string ⟨#[126]⟩, .int .i64 (s : Int)] (by rfl) rfl rfl (by (try simp only [List.map_toArray, List.map_cons, List.map_nil]); first | done | rfl) ?_
    refine (CS2.out _ HW.out).mono ?_
    rintro e w11 ⟨v2, rfl, hR, hb⟩
    refine ⟨_, rfl, ?_⟩
    obtain ⟨AQ, cQ, rfl, hpc, hpC⟩ := Kd.R_reads hR
    have P2 := zA (And.intro hpC hpc)
    replace HW := zA (bel HW.out hb)
    replace P1 := zA (And.intro (Kd.C_below P1.out.1 hb) P1.out.2)
    clear hR hpc hpC hb
    refine hK.out _ _ ⟨cellU ((blk_cell BX.out 0).trans rfl) HW.out, cellU ((blk_cell BX.out 1).trans rfl) HW.out, cellU ((blk_cell BX.out 2).trans rfl) HW.out, cellU ((blk_cell BX.out 3).trans rfl) HW.out, cellU ((blk_cell BYY.out 0).trans rfl) HW.out, cellU ((blk_cell BYY.out 1).trans rfl) HW.out, cellU ((blk_cell BYY.out 2).trans rfl) HW.out, cellU ((blk_cell BYY.out 3).trans rfl) HW.out⟩ (fun hHeld => ?_)
    clear hK K
    refine norm_ (a' := ?_) ?_ ?_
    rotate_left
    · show Act.put _ (some 75) _ = _
      simp only [Act.put, sT_, s0_, sS_, i64_w, i32_w]
      rfl
    refine one_ (i := 6) (N := some 76) #[true, true, true, true, true, true, true, false] rfl rfl (by kernel_rfl) (by decide) (fun K hK => ?_)
    refine goes_ Try.func51 (by kernel_rfl) rfl #[.slice AP z.length cP, .slice AQ z.length cQ] (by rfl) rfl rfl (by (try simp only [List.map_toArray, List.map_cons, List.map_nil]); first | done | rfl) ?_
    refine (same_rowP AP AQ cP cQ z _ P1.out.2 P1.out.1 P2.out.2 P2.out.1 HZL.out).mono ?_
    rintro e w12 ⟨rfl, hb⟩
    refine ⟨_, rfl, ?_⟩
    replace HW := zA (bel HW.out hb)
    clear hb P1 P2
    refine hK.out _ _ ⟨cellU ((blk_cell BX.out 0).trans rfl) HW.out, cellU ((blk_cell BX.out 1).trans rfl) HW.out, cellU ((blk_cell BX.out 2).trans rfl) HW.out, cellU ((blk_cell BX.out 3).trans rfl) HW.out, cellU ((blk_cell BYY.out 0).trans rfl) HW.out, cellU ((blk_cell BYY.out 1).trans rfl) HW.out, cellU ((blk_cell BYY.out 2).trans rfl) HW.out, cellU ((blk_cell BYY.out 3).trans rfl) HW.out⟩ (fun hHeld => ?_)
    clear hK K
    refine norm_ (a' := ?_) ?_ ?_
    rotate_left
    · show Act.put _ (some 76) _ = _
      simp only [Act.put, sT_, s0_, sS_, i64_w, i32_w]
      rfl
    refine pure_ (i := 7) (N := some 77) (v := ?_) (a' := ?_) #[true, true, true, true, true, true, true, true] rfl rfl (by kernel_rfl) (fun _ _ _ h => h) (Or.inl ⟨by rfl, ?_⟩) ?_ ?_
    rotate_left
    · intro w'
      go_simp
      with_reducible rfl
    rotate_left
    · simp only [Act.put, sT_, s0_, sS_, i64_w, i32_w]
      rfl
    refine done_ (by kernel_rfl) ?_
    clear hHeld CS1 CS2
    go_wp2
    go_roundg (3 - n)
    case measure => omega
    case rel => exact ⟨n + 1, ⟨by omega, by omega⟩, by go_num, ⟨by first | exact HW.out | exact pw_below_drewN HW.out _⟩⟩
theorem rsd_row (w : World) (A : Option Addr) (len cap : Nat) (x : List Int) (hK : (Kd.slice 5 BY).K w x [.slice A len cap]) (ok : okB x) (A2 : Option Addr) (len2 cap2 : Nat) (y : List Int) (hK2 : (Kd.slice 5 BY).K w y [.slice A2 len2 cap2]) (ok2 : okB y) :
    Calls Try.prog 14 #[.slice A len cap, .slice A2 len2 cap2] w fun e w' => e = .returned (.bool true) ∧ Below w.heap.size w w' := by
  obtain ⟨B, c, e, hlc, h0⟩ := hK
  obtain ⟨rfl, rfl, rfl⟩ : A = B ∧ len = x.length ∧ cap = c := by simpa using e
  obtain ⟨B2, c2, e2, hlc2, h2⟩ := hK2
  obtain ⟨rfl, rfl, rfl⟩ : A2 = B2 ∧ len2 = y.length ∧ cap2 = c2 := by simpa using e2
  exact rsd_walk w A cap x A2 cap2 y h0 hlc h2 hlc2 ok2.2
end Go.Proofs.Ythffllegmkolgaa.TreeK
