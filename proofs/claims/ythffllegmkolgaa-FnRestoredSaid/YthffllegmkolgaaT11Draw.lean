/- The reference's drawn changes, called: a bound for the memory and a list of changes that can be made. -/
import Derived.Test.YthffllegmkolgaaT11DrawPure
import Derived.Test.YthffllegmkolgaaT11TreeCopy
import Derived.Test.YthffllegmkolgaaT11In
import Derived.Test.YthffllegmkolgaaT11FlushI
namespace Go.Proofs.Ythffllegmkolgaa.TreeK
open Go.RowKit Go.Proofs.YthffllegmkolgaaW.PrintWords Go.Proofs.YthffllegmkolgaaW.PrintLast Go.Proofs.YthffllegmkolgaaW.PrintMore Go.Proofs.Ythffllegmkolgaa.QTree Go.Proofs.Ythffllegmkolgaa.EvKit Go.Proofs.Ythffllegmkolgaa.GTree
set_option linter.unusedSimpArgs false
set_option linter.unusedVariables false
set_option linter.unnecessarySimpa false
abbrev IsCur := IsS113
set_option maxHeartbeats 800000 in
set_option maxRecDepth 100000 in
theorem new_cur (A : Option Addr) (c : Nat) (bs : List Int) (w : World) (hC : Kd.C (Kd.int .u8) w A bs.length bs) (hb : bs.length ≤ 1048576) :
    Calls Try.prog 63 #[.slice A bs.length c] w fun e w' => ∃ g h, e = .returned (.pointer (some ⟨g, 0, none⟩)) ∧ IsCur w w' g bs 0 h ∧ Below w.heap.size w w' := by
  have HC := zA hC
  have HLN := zA hb
  clear hC hb
  go_enter Try.func63, Try.ntmps63
  go_wp2
  go_loopg [3, 4] (bs.length + 1) (fun kq v3 v4 wr => ∃ (j : Nat) (h : Int), (j + kq = bs.length + 1 ∧ j ≤ bs.length) ∧ v3 = .int .i64 h ∧ v4 = .int .i64 (j : Int) ∧ Aside0 (Below w.heap.size w wr))
  case atStart => exact ⟨0, _, ⟨by omega, Nat.zero_le _⟩, rfl, rfl, ⟨by first | exact Below.refl _ _ | exact pw_below_drewN (Below.refl _ _) _⟩⟩
  case round =>
    obtain ⟨j, h, hj, rfl, rfl, HB⟩ := hrel
    have HEND : ∀ W : World, Below w.heap.size w W → IsCur w (W.alloc (.cells #[.slice A bs.length c, .int .i64 0, .int .i64 h] 113)) W.heap.size bs 0 h := fun W hb => ⟨A, c, blk_new _ _, hb.size, HC.out⟩
    replace HEND := zA HEND
    by_cases hlt : j < bs.length ∧ j < 4000
    case neg =>
      by_cases h1 : j < bs.length
      · have h2 : ¬ (j : Int) < 4000 := by omega
        go_wp2
        go_ret
        exact ⟨_, rfl, ⟨_, HEND.out _ HB.out⟩, bel HB.out (bel_alloc _ _)⟩
      · have h2 : ¬ (j : Int) < (bs.length : Int) := by omega
        go_wp2
        go_ret
        exact ⟨_, rfl, ⟨_, HEND.out _ HB.out⟩, bel HB.out (bel_alloc _ _)⟩
    obtain ⟨h1, h2⟩ := hlt
    have h3 : (j : Int) < (bs.length : Int) := by omega
    have h4 : (j : Int) < 4000 := by omega
    obtain ⟨ad, ee, e0⟩ := Kd.at_int HC.out (j : Int) (by omega) h3
    rw [Int.toNat_natCast] at e0
    cases ee
    replace e0 := cellU e0 HB.out
    have hw : wrap64 ((j : Int) + 1) = (j : Int) + 1 := w64 (by omega) (by omega)
    go_wp2
    go_roundg (bs.length - j)
    case measure => omega
    case rel => exact ⟨j + 1, _, ⟨by omega, by omega⟩, rfl, by go_num, ⟨by first | exact HB.out | exact pw_below_drewN HB.out _⟩⟩
theorem scalC {α : Type} {enc : α → Value} {h1 : ∀ x, (enc x).oneCell' = true} {W : World} {g : Nat} {e : TypeId} (xs : List α) (hl : xs.length ≤ 1000) (h : W.heap[g]? = some (.cells (xs.map enc).toArray e (0, 0))) : (Kd.scalar enc h1).C W (some ⟨g, 0, none⟩) xs.length xs := by
  refine ⟨rfl, by omega, fun _ => ⟨_, rfl, fun j p hj => ⟨[enc p], rfl, rfl, fun i u hu => ?_⟩⟩⟩
  match i, hu with
  | 0, hu =>
    obtain rfl : enc p = u := by simpa using hu
    rw [show (Kd.scalar enc h1).sz = 1 from rfl, Nat.mul_one, Nat.add_zero]
    have ha : (⟨g, 0, none⟩ : Addr).add j = ⟨g, j, none⟩ := by
      have h : (⟨g, 0, none⟩ : Addr).add j = ⟨g, 0 + j, none⟩ := by unfold Addr.add; split <;> simp_all
      rw [h, Nat.zero_add]
    rw [ha]
    refine (blk_cell h j).trans ?_
    simp [hj]
  | i + 1, hu => simp at hu
theorem cur_size {w W : World} {g : Nat} {bs : List Int} {i h : Int} (hI : IsCur w W g bs i h) : g < W.heap.size := hI.lt
set_option maxHeartbeats 1600000 in
set_option maxRecDepth 100000 in
theorem draw_changed (A : Option Addr) (c : Nat) (bs : List Int) (w : World) (hC : Kd.C (Kd.int .u8) w A bs.length bs) (hle : bs.length ≤ c) (hb : bs.length ≤ 1048576) :
    Calls Try.prog 23 #[.slice A bs.length c] w fun e w' => ∃ (most : Int) (l : List Cel) (v : Value), e = .returned (.tuple #[.int .i64 most, v]) ∧ (most ∈ mostD ∧ l.length ≤ 75 ∧ ∀ x ∈ l, drawnC x) ∧ KC.R TC w' w.heap.size (fun _ => True) v l ∧ Below w.heap.size w w' := by
  have HC := zA hC
  have HLE := zA hle
  have HLN := zA hb
  clear hC hle hb
  obtain ⟨r, er, r0, r1⟩ := size_ex bs 25 (by omega) HLN.out
  have ER := zA er
  clear er
  have hm1 : wrap64 (3 * r) = 3 * r := w64 (by omega) (by omega)
  have hm2 : wrap64 (3 * r + 1) = 3 * r + 1 := w64 (by omega) (by omega)
  go_enter Try.func23, Try.ntmps23
  go_upto_region 2 with (go_at_call 63; refine (new_cur A c bs w HC.out HLN.out).mono ?_; rintro e w1 ⟨g, h, rfl, hI, hb⟩; have HI := zA hI; have HB := zA hb; clear hI hb)
  go_upto_region 3 with ((with_reducible refine gate_dst (N := 10) rfl ?_); refine Kd.R_lit KC _ TC ?hg (N := 10) ?hd (xs := ([] : List Cel)) (inner := []) (ok := fun _ => True) (okp := fun _ => True) ?hr ?hp (fun _ hk => hk) trivial (Below.refl _ _) (Nat.le_refl _) (by simp) ?_; (case hd => rfl); (case hg => rfl); (case hr => first | (go_simp; done) | (go_simp; rfl)); (case hp => exact (Reps.none _ _)); intro vL wL hoL hb hg_ hnew_; clear hg_ hnew_; have RL : Aside0 (KC.R TC wL w.heap.size (fun k => k ≠ g) vL []) := ⟨Kd.R_lower (Kd.R_mono (Kd.R_bound hoL) (fun k h => Nat.ne_of_gt (Nat.lt_of_lt_of_le (cur_size HI.out) h.2.1))) HB.out.size⟩; replace HI := zA (HI.out.below hb); replace HB := zA (bel HB.out hb); clear hb hoL)
  obtain ⟨n0, i1, h1, e1, q0, q1, q2⟩ := below_ex bs 0 h (3 * r + 1) (by omega) (by omega) HLN.out
  have E1 := zA e1
  clear e1
  go_wp2_with (first
    | (go_at_call 65; refine (spec_l1Size.calls A c bs 25 r _ (Kd.C_below HC.out HB.out) HLE.out ER.out).mono ?_; rintro e w3 ⟨rfl, nd, rfl⟩; replace HI := zA (HI.out.drewN nd); replace HB := zA (pw_below_drewN HB.out nd); replace RL := zA (Kd.R_drewN RL.out nd); generalize wL.drewN nd = wM at HI HB RL ⊢)
    | (go_at_call 64; refine (spec_l1Below.calls g bs 0 h (3 * r + 1) n0 i1 h1 w wM HI.out HB.out E1.out).mono ?_; rintro e w4 ⟨rfl, hI, hb, hk⟩; replace RL := zA (Kd.R_keep RL.out hk (fun k h => h)); replace HI := zA hI; replace HB := zA hb; clear hI hb hk))
  have hnn : ((n0.toNat : Nat) : Int) = n0 := by omega
  go_loopg [5, 6] 100 (fun kq v5 v6 wr => ∃ (n : Nat) (l : List Cel) (ci ch : Int), (n + 1 ≤ kq ∧ l.length + n ≤ 75) ∧ v6 = .int .i64 (n : Int) ∧ Aside0 (IsCur w wr g bs ci ch ∧ 0 ≤ ci) ∧ Aside0 (∀ x ∈ l, drawnC x) ∧ Aside0 (KC.R TC wr w.heap.size (fun k => k ≠ g) v5 l) ∧ Aside0 (Below w.heap.size w wr))
  case atStart => exact ⟨n0.toNat, [], i1, h1, ⟨by omega, by simp; omega⟩, by rw [hnn], ⟨HI.out, q2⟩, ⟨fun x hx => by cases hx⟩, RL, HB⟩
  case round =>
    clear HI HB RL hnn q0 q1 q2 hm1 hm2 r0 r1
    obtain ⟨n, l, ci, ch, hn, rfl, HI, HD, R5, HB⟩ := hrel
    have HLT := zA (cur_size HI.out.1)
    by_cases h0 : 0 < n
    case neg =>
      obtain rfl : n = 0 := by omega
      obtain ⟨most, i2, h2, e2, m2, _⟩ := pickInt_ex bs ci ch mostD (by decide) HI.out.2 HLN.out
      have E2 := zA e2
      have HM := zA m2
      clear e2 m2
      have hb := bel_alloc wr (.cells #[.int .i64 1, .int .i64 2, .int .i64 3, .int .i64 8, .int .i64 50] 3)
      have CM := zA (scalC (enc := Value.int .i64) (h1 := fun _ => rfl) mostD (by decide) (blk_new wr (.cells #[.int .i64 1, .int .i64 2, .int .i64 3, .int .i64 8, .int .i64 50] 3)))
      have HI2 := zA (HI.out.1.below hb)
      have HB2 := zA (bel HB.out hb)
      have R2 := zA (Kd.R_below R5.out hb)
      clear hb
      go_wp2_with (go_at_call 68; refine (spec_l1PickInt.calls g bs ci ch (some ⟨wr.heap.size, 0, none⟩) 5 mostD most i2 h2 w _ HI2.out HB2.out CM.out (Nat.le_refl 5) (fun ad he _ => by injection he with he; subst he; exact Nat.ne_of_gt HLT.out) E2.out).mono ?_; rintro e w5 ⟨rfl, hI, hb, hk⟩; replace R2 := zA (Kd.R_keep R2.out hk (fun k h => h)); replace HB2 := zA hb; clear hI hb hk)
      go_returns
      exact ⟨most, l, _, rfl, ⟨HM.out, by omega, HD.out⟩, Kd.R_mono R2.out (fun _ _ => trivial), HB2.out⟩
    obtain ⟨k0, i2, h2, e2, m2, p2⟩ := pick_ex bs ci ch keysD (by decide) HI.out.2 HLN.out
    obtain ⟨v0, i3, h3, e3, m3, p3⟩ := pick_ex bs i2 h2 valsD (by decide) p2 HLN.out
    obtain ⟨on, i4, h4, e4, p4⟩ := once_ex bs i3 h3 4 (by omega) p3 HLN.out
    have E2 := zA e2
    have E3 := zA e3
    have E4 := zA e4
    have M2 := zA (keys_small k0 m2)
    have M3 := zA (vals_small v0 m3)
    have P4 := zA p4
    clear e2 e3 e4 m2 m3 p2 p3 p4
    have CK : ∀ W : World, Aside0 ((Kd.string).C (W.alloc (.cells #[.string ⟨#[97]⟩, .string ⟨#[98]⟩, .string ⟨#[99]⟩, .string ⟨#[107, 49]⟩, .string ⟨#[]⟩, .string ⟨#[122, 122]⟩] 9)) (some ⟨W.heap.size, 0, none⟩) keysD.length keysD) := fun W => ⟨scalC (enc := Value.string) (h1 := fun _ => rfl) keysD (by decide) (blk_new W (.cells #[.string ⟨#[97]⟩, .string ⟨#[98]⟩, .string ⟨#[99]⟩, .string ⟨#[107, 49]⟩, .string ⟨#[]⟩, .string ⟨#[122, 122]⟩] 9))⟩
    have CV : ∀ W : World, Aside0 ((Kd.string).C (W.alloc (.cells #[.string ⟨#[49]⟩, .string ⟨#[50]⟩, .string ⟨#[]⟩, .string ⟨#[116, 104, 114, 101, 101]⟩] 9)) (some ⟨W.heap.size, 0, none⟩) valsD.length valsD) := fun W => ⟨scalC (enc := Value.string) (h1 := fun _ => rfl) valsD (by decide) (blk_new W (.cells #[.string ⟨#[49]⟩, .string ⟨#[50]⟩, .string ⟨#[]⟩, .string ⟨#[116, 104, 114, 101, 101]⟩] 9))⟩
    have C1 : Aside0 (∀ W : World, _ → _ → _) := ⟨fun W (hI : IsCur w W g bs ci ch) (hb : Below w.heap.size w W) => spec_l1Pick.calls g bs ci ch (some ⟨W.heap.size, 0, none⟩) 6 keysD k0 i2 h2 w (W.alloc (.cells #[.string ⟨#[97]⟩, .string ⟨#[98]⟩, .string ⟨#[99]⟩, .string ⟨#[107, 49]⟩, .string ⟨#[]⟩, .string ⟨#[122, 122]⟩] 9)) (hI.alloc _) (bel hb (bel_alloc _ _)) (CK W).out (Nat.le_refl 6) (fun ad he _ => by injection he with he; subst he; exact Nat.ne_of_gt hI.lt) E2.out⟩
    have C2 : Aside0 (∀ W : World, _ → _ → _) := ⟨fun W (hI : IsCur w W g bs i2 h2) (hb : Below w.heap.size w W) => spec_l1Pick.calls g bs i2 h2 (some ⟨W.heap.size, 0, none⟩) 4 valsD v0 i3 h3 w (W.alloc (.cells #[.string ⟨#[49]⟩, .string ⟨#[50]⟩, .string ⟨#[]⟩, .string ⟨#[116, 104, 114, 101, 101]⟩] 9)) (hI.alloc _) (bel hb (bel_alloc _ _)) (CV W).out (Nat.le_refl 4) (fun ad he _ => by injection he with he; subst he; exact Nat.ne_of_gt hI.lt) E3.out⟩
    clear CK CV
    replace HI := zA HI.out.1
    go_upto_region 7 with (first
      | (go_at_call 66; refine (C1.out wr HI.out HB.out).mono ?_; rintro e w5 ⟨rfl, hI, hb, hk⟩; replace R5 := zA (Kd.R_keep (Kd.R_below R5.out (bel_alloc wr (.cells #[.string ⟨#[97]⟩, .string ⟨#[98]⟩, .string ⟨#[99]⟩, .string ⟨#[107, 49]⟩, .string ⟨#[]⟩, .string ⟨#[122, 122]⟩] 9))) hk (fun k h => h)); replace HI := zA hI; replace HB := zA hb; clear hI hb hk)
      | (go_at_call 66; refine (C2.out w5 HI.out HB.out).mono ?_; rintro e w6 ⟨rfl, hI, hb, hk⟩; replace R5 := zA (Kd.R_keep (Kd.R_below R5.out (bel_alloc w5 (.cells #[.string ⟨#[49]⟩, .string ⟨#[50]⟩, .string ⟨#[]⟩, .string ⟨#[116, 104, 114, 101, 101]⟩] 9))) hk (fun k h => h)); replace HI := zA hI; replace HB := zA hb; clear hI hb hk))
    have hw : wrap64 ((n : Int) - 1) = ((n - 1 : Nat) : Int) := by rw [w64 (by omega) (by omega)]; omega
    have hb := bel_alloc w6 (.cells #[.string k0, .string v0, .int .i64 0, .bool false] 48)
    have B7 := zA (blk_new w6 (.cells #[.string k0, .string v0, .int .i64 0, .bool false] 48))
    obtain ⟨g7, hg7⟩ : ∃ g7, g7 = w6.heap.size := ⟨_, rfl⟩
    have HG : Aside0 (g < g7 ∧ w.heap.size ≤ g7) := ⟨by rw [hg7]; exact ⟨HI.out.lt, HB.out.size⟩⟩
    replace R5 := zA (Kd.R_below (Kd.R_mono (Kd.R_bound R5.out) (ok' := fun k => k ≠ g ∧ k ≠ g7) (fun k h => ⟨h.1, by rw [hg7]; exact Nat.ne_of_lt h.2.2.1⟩)) hb)
    replace HI := zA (HI.out.below hb)
    replace HB := zA (bel HB.out hb)
    rw [← hg7] at B7 ⊢
    clear hb hg7
    generalize w6.alloc (.cells #[.string k0, .string v0, .int .i64 0, .bool false] 48) = W6 at B7 R5 HI HB ⊢
    cases on
    case false =>
      have HD2 : Aside0 (∀ x ∈ l ++ [⟨k0, v0, 0, false⟩], drawnC x) := ⟨fun x hx => by
        rcases List.mem_append.1 hx with hx | hx
        · exact HD.out x hx
        · rw [List.mem_singleton.1 hx]; exact ⟨M2.out, M3.out, rfl, fun h => by cases h⟩⟩
      go_wp2_with (first
        | (go_at_call 67; refine (spec_l1Once.calls g bs i3 h3 4 _ i4 h4 w W6 HI.out HB.out E4.out).mono ?_; rintro e w7 ⟨rfl, hI, hb, hk⟩; replace R5 := zA (Kd.R_keep R5.out hk (fun k h => h.1)); replace B7 := zA (hk.blk B7.out (Nat.ne_of_gt HG.out.1) (by simp)); replace HI := zA hI; replace HB := zA hb; clear hI hb hk; obtain ⟨b0, b1, b2, b3⟩ := keep4 B7.out)
        | ((with_reducible refine gate_builtin (b := .append) (xs := #[.tmp 32, .tmp 34]) rfl ?_); at_builtin; refine Kd.R_append KC (w0 := w) w.heap.size rfl (.tmp 32) (.tmp 34) 28 TC (.agg #[(.string ⟨#[]⟩), (.string ⟨#[]⟩), (.int .i64 0), (.bool false)]) 48 rfl Try.underlying28 info48 rfl (by decide) (by omega) u5 l ⟨k0, v0, 0, false⟩ [.string k0, .string v0, .int .i64 0, .bool false] (fun k => k ≠ g ∧ k ≠ g7) (fun _ => False) rfl rfl ?aP (fun _ hk => hk.elim) ?aF ?aO ?aB ?aS ?aL ?_; (case aP => exact k48_mkM _ _ _ (⟨k0, v0, 0, false⟩ : Cel)); (case aF => exact (fun k hk => ⟨Nat.ne_of_gt (Nat.lt_of_lt_of_le HI.out.lt hk), Nat.ne_of_gt (Nat.lt_of_lt_of_le (blk_lt B7.out) hk)⟩)); (case aO => exact R5.out); (case aB => exact HB.out); (case aS => exact HB.out.size); (case aL => omega); intro v9 w9 ho hb hg hat; have R9 := zA ho; have HI9 := zA (HI.out.grown hg (fun he => (R5.out.1 g he.symm).1 rfl)); have HB9 := zA hb; clear ho hb hg hat b0 b1 b2 b3))
      go_roundg n
      case measure => omega
      case rel => exact ⟨n - 1, _, i4, h4, ⟨by omega, by rw [List.length_append, List.length_singleton]; omega⟩, by go_num, ⟨by first | exact HI9.out | exact HI9.out.drewN _, P4.out⟩, HD2, ⟨Kd.R_mono (by first | exact R9.out | exact Kd.R_drewN R9.out _) (fun k (h : k ≠ g ∧ k ≠ g7) => h.1)⟩, ⟨by first | exact HB9.out | exact pw_below_drewN HB9.out _⟩⟩
    case true =>
      have HD2 : Aside0 (∀ x ∈ l ++ [⟨k0, ⟨#[]⟩, 0, true⟩], drawnC x) := ⟨fun x hx => by
        rcases List.mem_append.1 hx with hx | hx
        · exact HD.out x hx
        · rw [List.mem_singleton.1 hx]; exact ⟨M2.out, by show 0 ≤ 5; omega, rfl, fun _ => rfl⟩⟩
      go_upto_region 9 with (go_at_call 67; refine (spec_l1Once.calls g bs i3 h3 4 _ i4 h4 w W6 HI.out HB.out E4.out).mono ?_; rintro e w7 ⟨rfl, hI, hb, hk⟩; replace R5 := zA (Kd.R_keep R5.out hk (fun k h => h.1)); replace B7 := zA (hk.blk B7.out (Nat.ne_of_gt HG.out.1) (by simp)); replace HI := zA hI; replace HB := zA hb; clear hI hb hk; obtain ⟨b0, b1, b2, b3⟩ := keep4 B7.out; have cf1 := blk_frozen B7.out 1)
      replace R5 := zA (Kd.R_far (p := ⟨g7, 1, none⟩) R5.out (fun k h => h.2) (.string ⟨#[]⟩))
      replace HI := zA (HI.out.far (p := ⟨g7, 1, none⟩) (Nat.ne_of_lt HG.out.1) (.string ⟨#[]⟩))
      replace HB := zA (below_set HB.out HG.out.2 (j := 1) (v := .string ⟨#[]⟩))
      have B8 : Aside0 ((w7.setCell ⟨g7, 1, none⟩ (.string ⟨#[]⟩)).heap[g7]? = some (.cells #[.string k0, .string ⟨#[]⟩, .int .i64 0, .bool false] 48 (0, 0))) := ⟨blk_put B7.out 1 _ rfl⟩
      clear b0 b1 b2 b3 cf1 B7
      generalize w7.setCell ⟨g7, 1, none⟩ (.string ⟨#[]⟩) = W8 at R5 HI HB B8 ⊢
      obtain ⟨b0, b1, b2, b3⟩ := keep4 B8.out
      have cf3 := blk_frozen B8.out 3
      go_upto_region 10 with (fail)
      replace R5 := zA (Kd.R_far (p := ⟨g7, 3, none⟩) R5.out (fun k h => h.2) (.bool true))
      replace HI := zA (HI.out.far (p := ⟨g7, 3, none⟩) (Nat.ne_of_lt HG.out.1) (.bool true))
      replace HB := zA (below_set HB.out HG.out.2 (j := 3) (v := .bool true))
      have B7 : Aside0 ((W8.setCell ⟨g7, 3, none⟩ (.bool true)).heap[g7]? = some (.cells #[.string k0, .string ⟨#[]⟩, .int .i64 0, .bool true] 48 (0, 0))) := ⟨blk_put B8.out 3 _ rfl⟩
      clear b0 b1 b2 b3 cf3 B8
      generalize W8.setCell ⟨g7, 3, none⟩ (.bool true) = W9 at R5 HI HB B7 ⊢
      obtain ⟨b0, b1, b2, b3⟩ := keep4 B7.out
      go_wp2_with ((with_reducible refine gate_builtin (b := .append) (xs := #[.tmp 32, .tmp 34]) rfl ?_); at_builtin; refine Kd.R_append KC (w0 := w) w.heap.size rfl (.tmp 32) (.tmp 34) 28 TC (.agg #[(.string ⟨#[]⟩), (.string ⟨#[]⟩), (.int .i64 0), (.bool false)]) 48 rfl Try.underlying28 info48 rfl (by decide) (by omega) u5 l ⟨k0, ⟨#[]⟩, 0, true⟩ [.string k0, .string ⟨#[]⟩, .int .i64 0, .bool true] (fun k => k ≠ g ∧ k ≠ g7) (fun _ => False) rfl rfl ?aP (fun _ hk => hk.elim) ?aF ?aO ?aB ?aS ?aL ?_; (case aP => exact k48_mkM _ _ _ (⟨k0, ⟨#[]⟩, 0, true⟩ : Cel)); (case aF => exact (fun k hk => ⟨Nat.ne_of_gt (Nat.lt_of_lt_of_le HI.out.lt hk), Nat.ne_of_gt (Nat.lt_of_lt_of_le (blk_lt B7.out) hk)⟩)); (case aO => exact R5.out); (case aB => exact HB.out); (case aS => exact HB.out.size); (case aL => omega); intro v9 w9 ho hb hg hat; have R9 := zA ho; have HI9 := zA (HI.out.grown hg (fun he => (R5.out.1 g he.symm).1 rfl)); have HB9 := zA hb; clear ho hb hg hat b0 b1 b2 b3)
      go_roundg n
      case measure => omega
      case rel => exact ⟨n - 1, _, i4, h4, ⟨by omega, by rw [List.length_append, List.length_singleton]; omega⟩, by go_num, ⟨by first | exact HI9.out | exact HI9.out.drewN _, P4.out⟩, HD2, ⟨Kd.R_mono (by first | exact R9.out | exact Kd.R_drewN R9.out _) (fun k (h : k ≠ g ∧ k ≠ g7) => h.1)⟩, ⟨by first | exact HB9.out | exact pw_below_drewN HB9.out _⟩⟩
end Go.Proofs.Ythffllegmkolgaa.TreeK
