/- The law FnRemembered, called with whatever can be read: it returns true and nothing that was there has changed. -/
import Derived.Test.YthffllegmkolgaaT8Draw
import Derived.Test.YthffllegmkolgaaT8Chgd
import Derived.Test.YthffllegmkolgaaT8FlushP
import Derived.Test.YthffllegmkolgaaT8LookCalls
import Derived.Test.YthffllegmkolgaaT8FlOwn
import Derived.Test.YthffllegmkolgaaT8QTreex18
namespace Go.Proofs.Ythffllegmkolgaa.TreeK
open Go.RowKit Go.Proofs.YthffllegmkolgaaW.PrintWords Go.Proofs.YthffllegmkolgaaW.PrintLast Go.Proofs.YthffllegmkolgaaW.PrintMore Go.Proofs.Ythffllegmkolgaa.QTree Go.Proofs.Ythffllegmkolgaa.EvKit Go.Proofs.Ythffllegmkolgaa.GTree Go.Proofs.Ythffllegmkolgaa.Open
set_option linter.unusedSimpArgs false
set_option linter.unusedVariables false
set_option linter.unnecessarySimpa false
theorem small_max {k : ByteArray} (h : k.size ≤ 2) : k.size ≤ maxLen := Nat.le_trans h (by unfold maxLen; decide)
abbrev BY := Kd.int .u8
def okB (x : List Int) : Prop := x.length ≤ 9223372036854775807 ∧ ∀ a ∈ x, 0 ≤ a ∧ a ≤ 255
theorem opens_bytes : Opens Try.prog 38 (Kd.slice 5 BY) okB := Opens.imp (opens_slice Try.underlying38 (by kernel_rfl) (opensU8 Try.underlying5)) (fun _ h => ⟨h.1, h.2⟩)
theorem call_big (A : Option Addr) (c : Nat) (bs : List Int) (r : Bool) (w : World) (hC : BY.C w A bs.length bs) (hc : bs.length ≤ c) (hr : decide ((bs.length : Int) > 1048576) = r) :
    Calls Try.prog 22 #[.slice A bs.length c] w fun e w' => e = .returned (.bool r) ∧ Below w.heap.size w w' := by
  refine (laws_big.calls A c bs r w hC hc (by unfold laws_big.f; rw [hr])).mono ?_
  rintro e w' ⟨rfl, nd, rfl⟩
  exact ⟨rfl, pw_below_drewN (Below.refl _ _) _⟩
theorem at_ex (bs : List Int) (i : Int) (hi : 0 ≤ i ∧ i ≤ 1000) (hb : bs.length ≤ 1048576) (ok : ∀ a ∈ bs, 0 ≤ a ∧ a ≤ 255) : ∃ r, laws_at.f bs i = some r ∧ 0 ≤ r := by
  unfold laws_at.f
  by_cases hl : i < (bs.length : Int)
  · rw [if_pos hl, if_pos hi.1]
    refine ⟨_, rfl, ?_⟩
    have hlt : i.toNat < bs.length := by omega
    have hr : rd bs i = bs[i.toNat] := by simp [rd, hlt]
    have h1 := ok _ (List.getElem_mem hlt)
    rw [hr, w64 (by omega) (by omega)]
    exact h1.1
  · rw [if_neg hl]
    refine ⟨_, rfl, ?_⟩
    have h7 : wrap64 (i * 7) = i * 7 := w64 (by omega) (by omega)
    rw [h7, w64 (by omega) (by omega)]
    exact Int.tmod_nonneg _ (by omega)
theorem call_at (A : Option Addr) (c : Nat) (bs : List Int) (i r : Int) (w : World) (hC : BY.C w A bs.length bs) (hc : bs.length ≤ c) (hr : laws_at.f bs i = some r) :
    Calls Try.prog 26 #[.slice A bs.length c, .int .i64 i] w fun e w' => e = .returned (.int .i64 r) ∧ Below w.heap.size w w' := by
  refine (laws_at.calls A c bs i r w hC hc hr).mono ?_
  rintro e w' ⟨rfl, nd, rfl⟩
  exact ⟨rfl, pw_below_drewN (Below.refl _ _) _⟩
theorem bld_look {most : Int} {l : List Cel} (hm : 1 ≤ most ∧ most ≤ 50) (hl : l.length ≤ 400) (hc : ∀ c ∈ l, okC c) (key : ByteArray) (s : Nat) (hs : s ≤ l.length) : lookX (bld most l l.length) key (s : Int) = lastN l key s ∧ lookX (flT (bld most l l.length)) key (s : Int) = lastN l key s := by
  have hf := bld_facts hm hl hc l.length (Nat.le_refl _)
  refine ⟨?_, ?_⟩
  · rw [lookX, if_pos hf.1]
    exact look_last hf.2.2.1 key s hs
  · rw [lookX, if_pos (fl_right hf.1)]
    exact look_last (fun y => (fl_mem hf.1 y).trans (hf.2.2.1 y)) key s hs
set_option maxHeartbeats 3200000 in
set_option maxRecDepth 100000 in
theorem rem_walk (w : World) (A : Option Addr) (c : Nat) (bs : List Int) (A2 : Option Addr) (c2 : Nat) (ms : List Int) (hC : BY.C w A bs.length bs) (hc : bs.length ≤ c) (hC2 : BY.C w A2 ms.length ms) (hc2 : ms.length ≤ c2) (okm : ∀ a ∈ ms, 0 ≤ a ∧ a ≤ 255) :
    Calls Try.prog 5 #[.slice A bs.length c, .slice A2 ms.length c2] w fun e w' => e = .returned (.bool true) ∧ Below w.heap.size w w' := by
  have HC := zA (And.intro hC hc)
  have HC2 := zA (And.intro hC2 hc2)
  have OKM := zA okm
  clear hC hC2 hc hc2 okm
  have HB := zA (Below.refl w.heap.size w)
  go_enter Try.func5, Try.ntmps5
  obtain ⟨r1, hr1⟩ : ∃ b, decide ((bs.length : Int) > 1048576) = b := ⟨_, rfl⟩
  obtain ⟨r2, hr2⟩ : ∃ b, decide ((ms.length : Int) > 1048576) = b := ⟨_, rfl⟩
  have CB1 : Aside0 (∀ V : World, Below w.heap.size w V → _) := ⟨fun V hb => call_big A c bs r1 V (Kd.C_below HC.out.1 hb) HC.out.2 hr1⟩
  have CB2 : Aside0 (∀ V : World, Below w.heap.size w V → _) := ⟨fun V hb => call_big A2 c2 ms r2 V (Kd.C_below HC2.out.1 hb) HC2.out.2 hr2⟩
  have HR1 := zA hr1
  have HR2 := zA hr2
  clear hr1 hr2
  cases r1
  case true =>
    go_wp2_with (go_at_call 22; refine (CB1.out _ HB.out).mono ?_; rintro e w1 ⟨rfl, hb⟩; replace HB := zA (bel HB.out hb); clear hb)
    go_ret
    exact ⟨rfl, HB.out⟩
  cases r2
  case true =>
    go_wp2_with (first
      | (go_at_call 22; refine (CB1.out _ HB.out).mono ?_; rintro e w1 ⟨rfl, hb⟩; replace HB := zA (bel HB.out hb); clear hb CB1)
      | (go_at_call 22; refine (CB2.out _ HB.out).mono ?_; rintro e w2 ⟨rfl, hb⟩; replace HB := zA (bel HB.out hb); clear hb CB2))
    go_ret
    exact ⟨rfl, HB.out⟩
  have HL1 : Aside0 (bs.length ≤ 1048576) := ⟨by have := of_decide_eq_false HR1.out; omega⟩
  have HL2 : Aside0 (ms.length ≤ 1048576) := ⟨by have := of_decide_eq_false HR2.out; omega⟩
  clear HR1 HR2
  go_upto_region 4 with (first
    | (go_at_call 22; refine (CB1.out _ HB.out).mono ?_; rintro e w1 ⟨rfl, hb⟩; replace HB := zA (bel HB.out hb); clear hb CB1)
    | (go_at_call 22; refine (CB2.out _ HB.out).mono ?_; rintro e w2 ⟨rfl, hb⟩; replace HB := zA (bel HB.out hb); clear hb CB2)
    | (go_at_call 23; refine (draw_changed A c bs _ (Kd.C_below HC.out.1 HB.out) HC.out.2 HL1.out).mono ?_; rintro e w3 ⟨most, l, v, rfl, hl, hR, hb⟩; have HL := zA hl; have RL := zA (Kd.R_reads hR); replace HB := zA (bel HB.out hb); clear hl hR hb))
  obtain ⟨AL, cL, rfl, hlc, hlC⟩ := RL.out
  have HCL := zA (And.intro hlC hlc)
  clear RL hlC hlc
  have hm := most_in most HL.out.1
  have hok : ∀ x ∈ l, okC x := fun x hx => drawn_ok (HL.out.2.2 x hx)
  have HBF := zA (bld_facts hm (by have := HL.out.2.1; omega) hok l.length (Nat.le_refl _))
  have HLK := zA (fun key s hs => bld_look hm (by have := HL.out.2.1; omega) hok key s hs)
  have CCH := zA (changed_call AL cL most l w3 HCL.out.2 HCL.out.1 hm HL.out.2.1 HL.out.2.2)
  obtain ⟨x, hx⟩ : ∃ x, x = bld most l l.length := ⟨_, rfl⟩
  rw [← hx] at HBF HLK CCH
  have SX := zA (sm_right HBF.out.1)
  obtain ⟨y, hy⟩ : ∃ y, y = flT x := ⟨_, rfl⟩
  have HTY : Aside0 (trB y = true) := ⟨by rw [hy]; exact fl_right HBF.out.1⟩
  have SY := zA (sm_right HTY.out)
  have CFL : Aside0 (∀ (V : World) (A' B' : Option Addr) (c' d' : Nat), TreeC V x A' c' B' d' → _) := ⟨fun V A' B' c' d' h => flush_impl A' B' c' d' x V h SX.out⟩
  rw [← hy] at HLK CFL
  have HL75 := zA HL.out.2.1
  have HKEY : Aside0 (∀ (j : Nat) (h : j < l.length), l[j].f0.size ≤ 2) := ⟨fun j h => (HL.out.2.2 _ (List.getElem_mem h)).1⟩
  clear hm hok hx hy HL
  go_upto_region 5 with (go_at_call 24; refine CCH.out.mono ?_; rintro e w4 ⟨v0, v1, rfl, hR, hS, hb⟩; have R0 := zA hR; have S0 := zA hS; replace HB := zA (bel HB.out hb); replace HCL := zA (And.intro (Kd.C_below HCL.out.1 hb) HCL.out.2); clear hR hS hb CCH; obtain ⟨A7, c7, rfl⟩ := Kd.R_slice R0.out; obtain ⟨B7, d7, rfl⟩ := Kd.S_slice S0.out)
  have HX : Aside0 (TreeC w4 x A7 c7 B7 d7) := ⟨⟨⟨(Kd.R_reads' R0.out).2.1, (Kd.R_reads' R0.out).2.2⟩, (Kd.S_reads' S0.out).2.1, (Kd.S_reads' S0.out).2.2⟩⟩
  clear R0 S0
  have BX := zA (blk_new w4 (.cells #[.slice A7 x.f0.length c7, .slice B7 x.f1.length d7, .int .i64 x.f2, .int .i64 x.f3] 31))
  have hb := bel_alloc w4 (.cells #[.slice A7 x.f0.length c7, .slice B7 x.f1.length d7, .int .i64 x.f2, .int .i64 x.f3] 31)
  replace HX := zA (HX.out.below hb)
  replace HB := zA (bel HB.out hb)
  replace HCL := zA (And.intro (Kd.C_below HCL.out.1 hb) HCL.out.2)
  obtain ⟨g, hg⟩ : ∃ g, g = w4.heap.size := ⟨_, rfl⟩
  rw [← hg] at BX ⊢
  clear hb hg
  generalize w4.alloc (.cells #[.slice A7 x.f0.length c7, .slice B7 x.f1.length d7, .int .i64 x.f2, .int .i64 x.f3] 31) = W5 at BX HX HB HCL ⊢
  obtain ⟨b0, b1, b2, b3⟩ := keep4 BX.out
  have hseq : (x.f2 != (l.length : Int)) = false := by rw [HBF.out.2.1]; simp
  have CT : Aside0 (∀ (V : World), TreeC V x A7 c7 B7 d7 → _) := ⟨fun V h => call_tree_impl A7 B7 c7 d7 x V h SX.out⟩
  rw [HBF.out.1] at CT
  go_upto_region 8 with (first
    | (go_at_call 18; refine (CT.out _ HX.out).mono ?_; rintro e w6 ⟨rfl, hb⟩; replace BX := zA (blk_below BX.out hb); replace HX := zA (HX.out.below hb); replace HB := zA (bel HB.out hb); replace HCL := zA (And.intro (Kd.C_below HCL.out.1 hb) HCL.out.2); clear hb b0 b1 b2 b3; obtain ⟨b0, b1, b2, b3⟩ := keep4 BX.out)
    | (go_at_call 25; refine (CFL.out _ A7 B7 c7 d7 HX.out).mono ?_; rintro e w7 ⟨v0, v1, rfl, hR, hS, hb⟩; have R0 := zA hR; have S0 := zA hS; replace BX := zA (blk_below BX.out hb); replace HX := zA (HX.out.below hb); replace HB := zA (bel HB.out hb); replace HCL := zA (And.intro (Kd.C_below HCL.out.1 hb) HCL.out.2); clear hR hS hb b0 b1 b2 b3; obtain ⟨A8, c8, rfl⟩ := Kd.R_slice R0.out; obtain ⟨B8, d8, rfl⟩ := Kd.S_slice S0.out))
  have HY : Aside0 (TreeC w7 y A8 c8 B8 d8) := ⟨⟨⟨(Kd.R_reads' R0.out).2.1, (Kd.R_reads' R0.out).2.2⟩, (Kd.S_reads' S0.out).2.1, (Kd.S_reads' S0.out).2.2⟩⟩
  clear R0 S0 CFL CT hseq
  have BYY := zA (blk_new w7 (.cells #[.slice A8 y.f0.length c8, .slice B8 y.f1.length d8, .int .i64 y.f2, .int .i64 y.f3] 31))
  have hb := bel_alloc w7 (.cells #[.slice A8 y.f0.length c8, .slice B8 y.f1.length d8, .int .i64 y.f2, .int .i64 y.f3] 31)
  replace BX := zA (blk_below BX.out hb)
  replace HX := zA (HX.out.below hb)
  replace HY := zA (HY.out.below hb)
  replace HB := zA (bel HB.out hb)
  replace HCL := zA (And.intro (Kd.C_below HCL.out.1 hb) HCL.out.2)
  obtain ⟨g9, hg⟩ : ∃ g, g = w7.heap.size := ⟨_, rfl⟩
  rw [← hg] at BYY ⊢
  clear hb hg
  generalize w7.alloc (.cells #[.slice A8 y.f0.length c8, .slice B8 y.f1.length d8, .int .i64 y.f2, .int .i64 y.f3] 31) = W8 at BX HX HY HB HCL BYY ⊢
  have CT : Aside0 (∀ (V : World), TreeC V y A8 c8 B8 d8 → _) := ⟨fun V h => call_tree_impl A8 B8 c8 d8 y V h SY.out⟩
  rw [HTY.out] at CT
  go_wp2
  go_loopg [10] (l.length + 1) (fun kq v10 wr => ∃ (j : Nat), (j + kq = l.length + 1 ∧ j ≤ l.length) ∧ v10 = .int .i64 (j : Int) ∧ Aside0 (Below W8.heap.size W8 wr))
  case atStart => exact ⟨0, ⟨by omega, Nat.zero_le _⟩, rfl, ⟨by first | exact Below.refl _ _ | exact pw_below_drewN (Below.refl _ _) _⟩⟩
  case round =>
    obtain ⟨j, hj, rfl, HW⟩ := hrel
    by_cases hlt : j < l.length
    case neg =>
      obtain rfl : j = l.length := by omega
      obtain ⟨q0, q1, q2, q3⟩ := keep4 (blk_below BYY.out HW.out)
      go_wp2_with (go_at_call 18; refine (CT.out _ (HY.out.below HW.out)).mono ?_; rintro e w9 ⟨rfl, hb⟩; have HBE := zA (bel (bel HB.out HW.out) hb); clear hb)
      go_ret
      exact ⟨rfl, HBE.out⟩
    have hwj : wrap64 ((j : Int) + 1) = (j : Int) + 1 := w64 (by omega) (by have := HL75.out; omega)
    obtain ⟨⟨k0, k1, k2, k3⟩, hye⟩ : ∃ c : Cel, l[j] = c := ⟨_, rfl⟩
    have HK0 : Aside0 (k0.size ≤ 2) := ⟨by have := HKEY.out j hlt; rw [hye] at this; exact this⟩
    have hll : wrap64 ((l.length : Int) + 1) = (l.length : Int) + 1 := w64 (by omega) (by have := HL75.out; omega)
    have HYE := zA hye
    clear hye
    go_wp2
    go_loopg [11] 5 (fun kq v11 wq => ∃ (n : Nat), (n + kq = 5 ∧ n ≤ 4) ∧ v11 = .int .i64 (n : Int) ∧ Aside0 (Below W8.heap.size W8 wq))
    case atStart => exact ⟨0, ⟨by omega, Nat.zero_le _⟩, rfl, ⟨by first | exact HW.out | exact pw_below_drewN HW.out _⟩⟩
    case round =>
      clear HW
      obtain ⟨n, hn, rfl, HW⟩ := hrel
      by_cases hn4 : n < 4
      case neg =>
        obtain rfl : n = 4 := by omega
        go_wp2
        go_roundg (l.length - j)
        case measure => omega
        case rel => exact ⟨j + 1, ⟨by omega, by omega⟩, by go_num, ⟨by first | exact HW.out | exact pw_below_drewN HW.out _⟩⟩
      have hn4' : (n : Int) < 4 := by omega
      have hwn : wrap64 ((n : Int) + 1) = (n : Int) + 1 := w64 (by omega) (by omega)
      have hjn : wrap64 ((j : Int) + (n : Int)) = (j : Int) + (n : Int) := w64 (by omega) (by have := HL75.out; omega)
      obtain ⟨r, er, hr0⟩ := at_ex ms ((j : Int) + (n : Int)) (by have := HL75.out; omega) HL2.out OKM.out
      have ER := zA er
      obtain ⟨s, hs⟩ : ∃ s : Nat, Int.tmod r ((l.length : Int) + 1) = (s : Int) := ⟨(Int.tmod r ((l.length : Int) + 1)).toNat, by have := Int.tmod_nonneg ((l.length : Int) + 1) hr0; omega⟩
      have hsl : s ≤ l.length := by have := Int.tmod_lt_of_pos r (show (0 : Int) < (l.length : Int) + 1 by omega); omega
      have hne : ¬ ((l.length : Int) + 1 = 0) := by omega
      have hne2 : (((l.length : Int) + 1) == 0) = false := beq_eq_false_iff_ne.2 hne
      have hsw : wrap64 (s : Int) = (s : Int) := w64 (by omega) (by have := HL75.out; omega)
      have HS := zA hsl
      clear er
      obtain ⟨lv, lh, hlast⟩ : ∃ lv lh, lastN l k0 s = (lv, lh) := ⟨_, _, rfl⟩
      have CLST : Aside0 (∀ V : World, Below W8.heap.size W8 V → _) := ⟨fun V hb => call_last AL cL l k0 s V (Kd.C_below HCL.out.1 hb) HCL.out.2 (Nat.le_trans HL75.out (by decide)) (Nat.le_trans HS.out (Nat.le_trans HL75.out (by decide)))⟩
      have CLX : Aside0 (∀ V : World, Below W8.heap.size W8 V → _) := ⟨fun V hb => call_look_impl A7 B7 c7 d7 x k0 (s : Int) V (HX.out.below hb) SX.out (small_max HK0.out)⟩
      have CLY : Aside0 (∀ V : World, Below W8.heap.size W8 V → _) := ⟨fun V hb => call_look_impl A8 B8 c8 d8 y k0 (s : Int) V (HY.out.below hb) SY.out (small_max HK0.out)⟩
      rw [(HLK.out k0 s HS.out).1, hlast] at CLX
      rw [(HLK.out k0 s HS.out).2, hlast] at CLY
      rw [hlast] at CLST
      have hv : (lv.toList != lv.toList) = false := by simp
      have hh : (lh != lh) = false := by simp
      clear hlast
      obtain ⟨ad2, ee, e0, e1, e2, e3⟩ := elemC HCL.out.1 HW.out hlt HYE.out
      cases ee
      clear e1 e2 e3
      go_upto_region 16 with (first
        | (go_at_call 26; refine (call_at A2 c2 ms _ r _ (Kd.C_below HC2.out.1 (bel HB.out HW.out)) HC2.out.2 ER.out).mono ?_; rintro e w5 ⟨rfl, hb⟩; replace HW := zA (bel HW.out hb); replace e0 := cellU e0 hb; clear hb)
        | (simp only [hs, hsw]; done)
        | (go_at_call 27; refine (CLST.out _ HW.out).mono ?_; rintro e w6 ⟨rfl, hb⟩; replace HW := zA (bel HW.out hb); replace e0 := cellU e0 hb; clear hb))
      have E0 := zA e0
      clear e0
      refine start_ (n := 13) (S := fun w' => w'.cell? ⟨g, 0, none⟩ = some (.slice A7 x.f0.length c7) ∧ w'.cell? ⟨g, 1, none⟩ = some (.slice B7 x.f1.length d7) ∧ w'.cell? ⟨g, 2, none⟩ = some (.int .i64 x.f2) ∧ w'.cell? ⟨g, 3, none⟩ = some (.int .i64 x.f3) ∧ w'.cell? (ad2.add (j * 4)) = some (.string k0)) (ds := [12]) #[false, false, false, false, false, false, false, false, false, false, false, false, false] (by kernel_rfl) rfl rfl ⟨cellU ((blk_cell BX.out 0).trans rfl) (below_drew HW.out), cellU ((blk_cell BX.out 1).trans rfl) (below_drew HW.out), cellU ((blk_cell BX.out 2).trans rfl) (below_drew HW.out), cellU ((blk_cell BX.out 3).trans rfl) (below_drew HW.out), cellU E0.out (below_drew (Below.refl _ _))⟩ (fun hHeld => ?_)
      have hb : Below w6.heap.size w6 w6.drew := below_drew (Below.refl _ _)
      replace HW := zA (bel HW.out hb)
      replace E0 := zA (cellU E0.out hb)
      clear hb
      generalize w6.drew = wC at HW E0 hHeld ⊢
      refine take_ (i := 0) (N := some 83) (v := ?_) (a' := ?_) #[true, false, false, false, false, false, false, false, false, false, false, false, false] rfl rfl (by kernel_rfl) (fun _ _ _ h => h) (Or.inl ⟨by rfl, ?_⟩) hHeld ?_ ?_
      rotate_left
      · rintro w' ⟨s0, s1, s2, s3, s4⟩
        go_simp
        with_reducible rfl
      rotate_left
      · simp only [Act.put, sT_, s0_, sS_, i64_w, i32_w]
        rfl
      refine pure_ (i := 1) (N := some 84) (v := ?_) (a' := ?_) #[true, true, false, false, false, false, false, false, false, false, false, false, false] rfl rfl (by kernel_rfl) (fun _ _ _ h => h) (Or.inl ⟨by rfl, ?_⟩) ?_ ?_
      rotate_left
      · intro w'
        go_simp
        with_reducible rfl
      rotate_left
      · simp only [Act.put, sT_, s0_, sS_, i64_w, i32_w]
        rfl
      refine pure_ (i := 2) (N := some 85) (v := ?_) (a' := ?_) #[true, true, true, false, false, false, false, false, false, false, false, false, false] rfl rfl (by kernel_rfl) (fun _ _ _ h => h) (Or.inl ⟨by rfl, ?_⟩) ?_ ?_
      rotate_left
      · intro w'
        go_simp
        with_reducible rfl
      rotate_left
      · simp only [Act.put, sT_, s0_, sS_, i64_w, i32_w]
        rfl
      refine pure_ (i := 3) (N := some 86) (v := ?_) (a' := ?_) #[true, true, true, true, false, false, false, false, false, false, false, false, false] rfl rfl (by kernel_rfl) (fun _ _ _ h => h) (Or.inl ⟨by rfl, ?_⟩) ?_ ?_
      rotate_left
      · intro w'
        go_simp
        with_reducible rfl
      rotate_left
      · simp only [Act.put, sT_, s0_, sS_, i64_w, i32_w]
        rfl
      refine pure_ (i := 4) (N := some 87) (v := ?_) (a' := ?_) #[true, true, true, true, true, false, false, false, false, false, false, false, false] rfl rfl (by kernel_rfl) (fun _ _ _ h => h) (Or.inl ⟨by rfl, ?_⟩) ?_ ?_
      rotate_left
      · intro w'
        go_simp
        with_reducible rfl
      rotate_left
      · simp only [Act.put, sT_, s0_, sS_, i64_w, i32_w]
        rfl
      refine take_ (i := 5) (N := some 88) (v := ?_) (a' := ?_) #[true, true, true, true, true, true, false, false, false, false, false, false, false] rfl rfl (by kernel_rfl) (fun _ _ _ h => h) (Or.inl ⟨by rfl, ?_⟩) hHeld ?_ ?_
      rotate_left
      · rintro w' ⟨s0, s1, s2, s3, s4⟩
        go_simp
        with_reducible rfl
      rotate_left
      · simp only [Act.put, sT_, s0_, sS_, i64_w, i32_w]
        rfl
      refine pure_ (i := 6) (N := some 89) (v := ?_) (a' := ?_) #[true, true, true, true, true, true, true, false, false, false, false, false, false] rfl rfl (by kernel_rfl) (fun _ _ _ h => h) (Or.inl ⟨by rfl, ?_⟩) ?_ ?_
      rotate_left
      · intro w'
        go_simp
        with_reducible rfl
      rotate_left
      · simp only [Act.put, sT_, s0_, sS_, i64_w, i32_w]
        rfl
      refine one_ (i := 7) (N := some 90) #[true, true, true, true, true, true, true, true, false, false, false, false, false] rfl rfl (by kernel_rfl) (by decide) (fun K hK => ?_)
      refine goes_ Try.func21 (by kernel_rfl) rfl #[.agg #[.slice A7 x.f0.length c7, .slice B7 x.f1.length d7, .int .i64 x.f2, .int .i64 x.f3], .string k0, .int .i64 (s : Int)] (by rfl) rfl rfl (by (try simp only [List.map_toArray, List.map_cons, List.map_nil]); first | done | rfl) ?_
      refine (CLX.out _ HW.out).mono ?_
      rintro e wA ⟨rfl, hb⟩
      refine ⟨_, rfl, ?_⟩
      replace HW := zA (bel HW.out hb)
      replace E0 := zA (cellU E0.out hb)
      clear hb
      refine hK.out _ _ ⟨cellU ((blk_cell BX.out 0).trans rfl) HW.out, cellU ((blk_cell BX.out 1).trans rfl) HW.out, cellU ((blk_cell BX.out 2).trans rfl) HW.out, cellU ((blk_cell BX.out 3).trans rfl) HW.out, E0.out⟩ (fun hHeld => ?_)
      clear hK K
      refine norm_ (a' := ?_) ?_ ?_
      rotate_left
      · show Act.put _ (some 90) _ = _
        simp only [Act.put, sT_, s0_, sS_, i64_w, i32_w]
        rfl
      refine pure_ (i := 8) (N := some 82) (v := ?_) (a' := ?_) #[true, true, true, true, true, true, true, true, true, false, false, false, false] rfl rfl (by kernel_rfl) (fun _ _ _ h => h) (Or.inl ⟨by rfl, ?_⟩) ?_ ?_
      rotate_left
      · intro w'
        go_simp
        with_reducible rfl
      rotate_left
      · simp only [Act.put, sT_, s0_, sS_, i64_w, i32_w]
        rfl
      refine pure_ (i := 9) (N := some 91) (v := ?_) (a' := ?_) #[true, true, true, true, true, true, true, true, true, true, false, false, false] rfl rfl (by kernel_rfl) (fun _ _ _ h => h) (Or.inl ⟨by rfl, ?_⟩) ?_ ?_
      rotate_left
      · intro w'
        go_simp
        with_reducible rfl
      rotate_left
      · simp only [Act.put, sT_, s0_, sS_, i64_w, i32_w]
        rfl
      refine pure_ (i := 10) (N := some 92) (v := ?_) (a' := ?_) #[true, true, true, true, true, true, true, true, true, true, true, false, false] rfl rfl (by kernel_rfl) (fun _ _ _ h => h) (Or.inl ⟨by rfl, ?_⟩) ?_ ?_
      rotate_left
      · intro w'
        go_simp
        with_reducible rfl
      rotate_left
      · simp only [Act.put, sT_, s0_, sS_, i64_w, i32_w]
        rfl
      refine pure_ (i := 11) (N := some 15) (v := ?_) (a' := ?_) #[true, true, true, true, true, true, true, true, true, true, true, true, false] rfl rfl (by kernel_rfl) (fun _ _ _ h => h) (Or.inl ⟨by rfl, ?_⟩) ?_ ?_
      rotate_left
      · intro w'
        go_simp
        with_reducible rfl
      rotate_left
      · simp only [Act.put, sT_, s0_, sS_, i64_w, i32_w]
        rfl
      refine pure_ (i := 12) (N := some 16) (v := ?_) (a' := ?_) #[true, true, true, true, true, true, true, true, true, true, true, true, true] rfl rfl (by kernel_rfl) (fun _ _ _ h => h) (Or.inl ⟨by rfl, ?_⟩) ?_ ?_
      rotate_left
      · intro w'
        go_simp
        with_reducible rfl
      rotate_left
      · simp only [Act.put, sT_, s0_, sS_, i64_w, i32_w]
        rfl
      refine done_ (by kernel_rfl) ?_
      clear hHeld
      go_upto_region 17 with (fail)
      refine start_ (n := 13) (S := fun w' => w'.cell? ⟨g9, 0, none⟩ = some (.slice A8 y.f0.length c8) ∧ w'.cell? ⟨g9, 1, none⟩ = some (.slice B8 y.f1.length d8) ∧ w'.cell? ⟨g9, 2, none⟩ = some (.int .i64 y.f2) ∧ w'.cell? ⟨g9, 3, none⟩ = some (.int .i64 y.f3) ∧ w'.cell? (ad2.add (j * 4)) = some (.string k0)) (ds := [12]) #[false, false, false, false, false, false, false, false, false, false, false, false, false] (by kernel_rfl) rfl rfl ⟨cellU ((blk_cell BYY.out 0).trans rfl) (below_drew HW.out), cellU ((blk_cell BYY.out 1).trans rfl) (below_drew HW.out), cellU ((blk_cell BYY.out 2).trans rfl) (below_drew HW.out), cellU ((blk_cell BYY.out 3).trans rfl) (below_drew HW.out), cellU E0.out (below_drew (Below.refl _ _))⟩ (fun hHeld => ?_)
      have hb : Below wA.heap.size wA wA.drew := below_drew (Below.refl _ _)
      replace HW := zA (bel HW.out hb)
      replace E0 := zA (cellU E0.out hb)
      clear hb
      generalize wA.drew = wD at HW E0 hHeld ⊢
      refine take_ (i := 0) (N := some 94) (v := ?_) (a' := ?_) #[true, false, false, false, false, false, false, false, false, false, false, false, false] rfl rfl (by kernel_rfl) (fun _ _ _ h => h) (Or.inl ⟨by rfl, ?_⟩) hHeld ?_ ?_
      rotate_left
      · rintro w' ⟨s0, s1, s2, s3, s4⟩
        go_simp
        with_reducible rfl
      rotate_left
      · simp only [Act.put, sT_, s0_, sS_, i64_w, i32_w]
        rfl
      refine pure_ (i := 1) (N := some 95) (v := ?_) (a' := ?_) #[true, true, false, false, false, false, false, false, false, false, false, false, false] rfl rfl (by kernel_rfl) (fun _ _ _ h => h) (Or.inl ⟨by rfl, ?_⟩) ?_ ?_
      rotate_left
      · intro w'
        go_simp
        with_reducible rfl
      rotate_left
      · simp only [Act.put, sT_, s0_, sS_, i64_w, i32_w]
        rfl
      refine pure_ (i := 2) (N := some 96) (v := ?_) (a' := ?_) #[true, true, true, false, false, false, false, false, false, false, false, false, false] rfl rfl (by kernel_rfl) (fun _ _ _ h => h) (Or.inl ⟨by rfl, ?_⟩) ?_ ?_
      rotate_left
      · intro w'
        go_simp
        with_reducible rfl
      rotate_left
      · simp only [Act.put, sT_, s0_, sS_, i64_w, i32_w]
        rfl
      refine pure_ (i := 3) (N := some 97) (v := ?_) (a' := ?_) #[true, true, true, true, false, false, false, false, false, false, false, false, false] rfl rfl (by kernel_rfl) (fun _ _ _ h => h) (Or.inl ⟨by rfl, ?_⟩) ?_ ?_
      rotate_left
      · intro w'
        go_simp
        with_reducible rfl
      rotate_left
      · simp only [Act.put, sT_, s0_, sS_, i64_w, i32_w]
        rfl
      refine pure_ (i := 4) (N := some 98) (v := ?_) (a' := ?_) #[true, true, true, true, true, false, false, false, false, false, false, false, false] rfl rfl (by kernel_rfl) (fun _ _ _ h => h) (Or.inl ⟨by rfl, ?_⟩) ?_ ?_
      rotate_left
      · intro w'
        go_simp
        with_reducible rfl
      rotate_left
      · simp only [Act.put, sT_, s0_, sS_, i64_w, i32_w]
        rfl
      refine take_ (i := 5) (N := some 99) (v := ?_) (a' := ?_) #[true, true, true, true, true, true, false, false, false, false, false, false, false] rfl rfl (by kernel_rfl) (fun _ _ _ h => h) (Or.inl ⟨by rfl, ?_⟩) hHeld ?_ ?_
      rotate_left
      · rintro w' ⟨s0, s1, s2, s3, s4⟩
        go_simp
        with_reducible rfl
      rotate_left
      · simp only [Act.put, sT_, s0_, sS_, i64_w, i32_w]
        rfl
      refine pure_ (i := 6) (N := some 100) (v := ?_) (a' := ?_) #[true, true, true, true, true, true, true, false, false, false, false, false, false] rfl rfl (by kernel_rfl) (fun _ _ _ h => h) (Or.inl ⟨by rfl, ?_⟩) ?_ ?_
      rotate_left
      · intro w'
        go_simp
        with_reducible rfl
      rotate_left
      · simp only [Act.put, sT_, s0_, sS_, i64_w, i32_w]
        rfl
      refine one_ (i := 7) (N := some 101) #[true, true, true, true, true, true, true, true, false, false, false, false, false] rfl rfl (by kernel_rfl) (by decide) (fun K hK => ?_)
      refine goes_ Try.func21 (by kernel_rfl) rfl #[.agg #[.slice A8 y.f0.length c8, .slice B8 y.f1.length d8, .int .i64 y.f2, .int .i64 y.f3], .string k0, .int .i64 (s : Int)] (by rfl) rfl rfl (by (try simp only [List.map_toArray, List.map_cons, List.map_nil]); first | done | rfl) ?_
      refine (CLY.out _ HW.out).mono ?_
      rintro e wB ⟨rfl, hb⟩
      refine ⟨_, rfl, ?_⟩
      replace HW := zA (bel HW.out hb)
      replace E0 := zA (cellU E0.out hb)
      clear hb
      refine hK.out _ _ ⟨cellU ((blk_cell BYY.out 0).trans rfl) HW.out, cellU ((blk_cell BYY.out 1).trans rfl) HW.out, cellU ((blk_cell BYY.out 2).trans rfl) HW.out, cellU ((blk_cell BYY.out 3).trans rfl) HW.out, E0.out⟩ (fun hHeld => ?_)
      clear hK K
      refine norm_ (a' := ?_) ?_ ?_
      rotate_left
      · show Act.put _ (some 101) _ = _
        simp only [Act.put, sT_, s0_, sS_, i64_w, i32_w]
        rfl
      refine pure_ (i := 8) (N := some 93) (v := ?_) (a' := ?_) #[true, true, true, true, true, true, true, true, true, false, false, false, false] rfl rfl (by kernel_rfl) (fun _ _ _ h => h) (Or.inl ⟨by rfl, ?_⟩) ?_ ?_
      rotate_left
      · intro w'
        go_simp
        with_reducible rfl
      rotate_left
      · simp only [Act.put, sT_, s0_, sS_, i64_w, i32_w]
        rfl
      refine pure_ (i := 9) (N := some 102) (v := ?_) (a' := ?_) #[true, true, true, true, true, true, true, true, true, true, false, false, false] rfl rfl (by kernel_rfl) (fun _ _ _ h => h) (Or.inl ⟨by rfl, ?_⟩) ?_ ?_
      rotate_left
      · intro w'
        go_simp
        with_reducible rfl
      rotate_left
      · simp only [Act.put, sT_, s0_, sS_, i64_w, i32_w]
        rfl
      refine pure_ (i := 10) (N := some 103) (v := ?_) (a' := ?_) #[true, true, true, true, true, true, true, true, true, true, true, false, false] rfl rfl (by kernel_rfl) (fun _ _ _ h => h) (Or.inl ⟨by rfl, ?_⟩) ?_ ?_
      rotate_left
      · intro w'
        go_simp
        with_reducible rfl
      rotate_left
      · simp only [Act.put, sT_, s0_, sS_, i64_w, i32_w]
        rfl
      refine pure_ (i := 11) (N := some 17) (v := ?_) (a' := ?_) #[true, true, true, true, true, true, true, true, true, true, true, true, false] rfl rfl (by kernel_rfl) (fun _ _ _ h => h) (Or.inl ⟨by rfl, ?_⟩) ?_ ?_
      rotate_left
      · intro w'
        go_simp
        with_reducible rfl
      rotate_left
      · simp only [Act.put, sT_, s0_, sS_, i64_w, i32_w]
        rfl
      refine pure_ (i := 12) (N := some 18) (v := ?_) (a' := ?_) #[true, true, true, true, true, true, true, true, true, true, true, true, true] rfl rfl (by kernel_rfl) (fun _ _ _ h => h) (Or.inl ⟨by rfl, ?_⟩) ?_ ?_
      rotate_left
      · intro w'
        go_simp
        with_reducible rfl
      rotate_left
      · simp only [Act.put, sT_, s0_, sS_, i64_w, i32_w]
        rfl
      refine done_ (by kernel_rfl) ?_
      clear hHeld hs hsl hne hne2 hsw hr0 hll hjn hwj
      go_wp2
      go_roundg (4 - n)
      case measure => omega
      case rel => exact ⟨n + 1, ⟨by omega, by omega⟩, by go_num, ⟨by first | exact HW.out | exact pw_below_drewN HW.out _⟩⟩
theorem rem_row (w : World) (A : Option Addr) (len cap : Nat) (x : List Int) (hK : (Kd.slice 5 BY).K w x [.slice A len cap]) (ok : okB x) (A2 : Option Addr) (len2 cap2 : Nat) (y : List Int) (hK2 : (Kd.slice 5 BY).K w y [.slice A2 len2 cap2]) (ok2 : okB y) :
    Calls Try.prog 5 #[.slice A len cap, .slice A2 len2 cap2] w fun e w' => e = .returned (.bool true) ∧ Below w.heap.size w w' := by
  obtain ⟨B, c, e, hlc, h0⟩ := hK
  obtain ⟨rfl, rfl, rfl⟩ : A = B ∧ len = x.length ∧ cap = c := by simpa using e
  obtain ⟨B2, c2, e2, hlc2, h2⟩ := hK2
  obtain ⟨rfl, rfl, rfl⟩ : A2 = B2 ∧ len2 = y.length ∧ cap2 = c2 := by simpa using e2
  exact rem_walk w A cap x A2 cap2 y h0 hlc h2 hlc2 ok2.2
end Go.Proofs.Ythffllegmkolgaa.TreeK
