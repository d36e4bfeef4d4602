/- Rows of arrivals, copied in: a row of the call's own, whose rows and whose elements lie apart. -/
import Derived.Test.YtmkhiaikfeoedaaE1MkSrc
import Derived.Test.YtmkhiaikfeoedaaE1GenFnExactInputsOk
namespace Go.Proofs.Ytmkhiaikfeoedaa.MarkK
open Go.RowKit Go.Proofs.YtmkhiaikfeoedaaW.PrintWords Go.Proofs.YtmkhiaikfeoedaaW.PrintLast Go.Proofs.YtmkhiaikfeoedaaW.PrintMore Go.Proofs.Ytmkhiaikfeoedaa.QFnExactInputsOk Go.Proofs.Ytmkhiaikfeoedaa.EvKit Go.Proofs.Ytmkhiaikfeoedaa.GFnExactInputsOk
set_option linter.unusedSimpArgs false
set_option linter.unusedVariables false
abbrev LArr := S69
abbrev KLA := k69
abbrev TLA : TypeId := 69
abbrev TAs : TypeId := 51
theorem infoAs : (Try.prog.info? TAs).map (fun i => (i.zero, i.size, i.bytes)) = some (some (.slice none 0 0), 1, 24) := by kernel_rfl
theorem at_row {α : Type} {d : Kd α} {e : Nat} {w : World} {A : Option Addr} {xss : List (List α)} (h : (Kd.slice e d).C w A xss.length xss) {j : Nat} (hj : j < xss.length) :
    ∃ ad A6 c6, A = some ad ∧ w.cell? (ad.add j) = some (.slice A6 xss[j].length c6) ∧ xss[j].length ≤ c6 ∧ d.C w A6 xss[j].length xss[j] := by
  obtain ⟨ad, e, hc⟩ := h.2.2 (by omega)
  obtain ⟨c, hs, hr, hcell⟩ := hc j xss[j] (by rw [List.getElem?_eq_getElem hj])
  obtain ⟨A6, c6, rfl, hl, hC⟩ := hr
  exact ⟨ad, A6, c6, e, by have hq := hcell 0 _ rfl; rwa [show (Kd.slice _ d).sz = 1 from rfl, Nat.mul_one, Nat.add_zero] at hq, hl, hC⟩
set_option maxHeartbeats 1600000 in
set_option maxRecDepth 100000 in
theorem to_arrss (A0 : Option Addr) (c0 : Nat) (y : List (List LArr)) (w : World) (hr0 : Kd.C (Kd.slice TLA KLA) w A0 y.length y) (hc0 : y.length ≤ c0) (hs : sm_ArrivalSS (to_ArrivalSS y)) :
    Calls Try.prog 8 #[.slice A0 y.length c0] w fun e w' => ∃ v0 : Value, e = .returned v0 ∧ Kd.S KAA TAs w' w.heap.size (fun _ => True) v0 (to_ArrivalSS y) ∧ Below w.heap.size w w' := by
  have HR0 := Aside0.mk hr0
  have HS := Aside0.mk hs
  have hyl : y.length ≤ 1048576 := by have := hs.1; simpa [to_ArrivalSS] using this
  obtain ⟨n, hn⟩ : ∃ n, n = y.length := ⟨_, rfl⟩
  rw [← hn] at hyl
  clear hr0 hs hc0
  have HN := Aside0.mk hn
  go_enter Try.func8, Try.ntmps8
  rw [← hn]
  clear hn
  go_wp2_with ((with_reducible refine gate_dst (N := 7) rfl ?_); refine Kd.S_make KAA _ TAs rfl (N := 7) rfl 31 _ _ rfl (n : Int) rfl rfl Try.underlying31 (.slice none 0 0) 24 infoAs rfl (by decide) (by omega) [] (ok := fun _ => True) (okp := fun _ => True) ⟨_, rfl, Kd.S_nil _ _ _ _ _⟩ (fun _ hk => hk) trivial (Int.natCast_nonneg n) (by omega) (Below.refl _ _) (Nat.le_refl _) ?_; intro v1 w1 ho hb hg_ hnew_; clear hg_ hnew_; rw [Int.toNat_natCast] at ho; have HO := Aside0.mk ho; have HB := Aside0.mk hb; clear ho hb)
  obtain ⟨A, cap, hv⟩ := Kd.S_slice HO.out
  rw [List.length_replicate] at hv
  subst hv
  go_loopg [4] (n + 1) (fun kq v4 wr => ∃ j : Nat, (j + kq = n + 1 ∧ j ≤ n) ∧ v4 = .int .i64 (j : Int) ∧ Aside0 (Kd.S KAA TAs wr w.heap.size (fun _ => True) (.slice A n cap) ((to_ArrivalSS y).take j ++ List.replicate (n - j) [])) ∧ Aside0 (Below w.heap.size w wr))
  case atStart => exact ⟨0, ⟨by omega, Nat.zero_le _⟩, rfl, ⟨by first | simpa using HO.out | simpa using Kd.S_drewN HO.out _⟩, ⟨by first | exact HB.out | exact pw_below_drewN HB.out _⟩⟩
  case round =>
    clear HO HB
    obtain ⟨j, hj, rfl, HO, HB⟩ := hrel
    have htl : (to_ArrivalSS y).length = n := by rw [HN.out]; simp [to_ArrivalSS]
    by_cases hlt : j < n
    case neg =>
      obtain rfl : j = n := by omega
      have HO2 : Aside0 (Kd.S KAA TAs wr w.heap.size (fun _ => True) (.slice A j cap) (to_ArrivalSS y)) := ⟨by
        have h := HO.out
        rw [Nat.sub_self, List.replicate_zero, List.append_nil, List.take_of_length_le (by omega)] at h
        exact h⟩
      clear HO
      go_wp2
      go_ret
      exact ⟨_, rfl, by first | exact HO2.out | exact Kd.S_drewN HO2.out _, by first | exact HB.out | exact pw_below_drewN HB.out _⟩
    have hxl : ((to_ArrivalSS y).take j ++ List.replicate (n - j) ([] : List MArr)).length = n := by rw [List.length_append, List.length_take, List.length_replicate, htl]; omega
    obtain ⟨g, cp, hv, hg1, hg2, _⟩ := Kd.S_form HO.out (by omega)
    rw [hxl] at hv
    injection hv with hv1 _ hv3
    subst hv1 hv3
    have hjy : j < y.length := by rw [← HN.out]; exact hlt
    obtain ⟨ad, A6, c6, hA, hc1, hl1, hC1⟩ := at_row (Kd.C_below HR0.out HB.out) hjy
    have hsj : sm_ArrivalS (to_ArrivalS y[j]) := HS.out.2 _ (List.mem_map.2 ⟨y[j], List.getElem_mem hjy, rfl⟩)
    obtain ⟨x, hx⟩ : ∃ x, x = y[j] := ⟨_, rfl⟩
    rw [← hx] at hc1 hl1 hC1 hsj
    obtain ⟨q, hq⟩ := Ev.rounds (ev_toArrivalS x hsj)
    have HC := Aside0.mk (laws_toArrivalS.calls q A6 c6 x _ wr hC1 hl1 hq)
    have hset : ((to_ArrivalSS y).take j ++ List.replicate (n - j) ([] : List MArr)).set j (to_ArrivalS x) = (to_ArrivalSS y).take (j + 1) ++ List.replicate (n - (j + 1)) [] := by
      rw [show n - j = (n - (j + 1)) + 1 by omega, List.replicate_succ]
      have h1 : ((to_ArrivalSS y).take j).length = j := by rw [List.length_take, htl]; omega
      rw [List.set_append_right _ _ (by omega), h1, Nat.sub_self, List.set_cons_zero, List.take_succ_eq_append_getElem (by omega), List.append_assoc, List.singleton_append]
      congr 2
      rw [hx]; simp [to_ArrivalSS]
    have HSET := Aside0.mk hset
    have hy0 : (j : Int) < (n : Int) := by omega
    have hj0 : (0 : Int) ≤ (j : Int) := by omega
    cases hA
    have HO3 := Aside0.mk (Kd.S_mono (Kd.S_bound HO.out) (ok' := fun k => True ∧ ¬ (wr.heap.size ≤ k)) (fun k hk => ⟨trivial, Nat.not_le.2 hk.2.2.1⟩))
    clear hsj hx hq hset hxl HO hC1 hl1
    go_wp2_with (go_at_call 27; refine HC.out.mono ?_; rintro e w5 ⟨v, rfl, hR, hb⟩; obtain ⟨A5, c5, rfl⟩ := Kd.S_slice hR; have HR := Aside0.mk hR; have HB2 := Aside0.mk hb; replace HB := Aside0.mk (HB.out.trans (hb.mono HB.out.size)); obtain ⟨oki, c, hM, hH⟩ : ∃ (oki : Nat → Prop) (c : List Value), KAA.M w5 w.heap.size oki (((to_ArrivalSS y).take j ++ List.replicate (n - j) ([] : List MArr)).getD (j : Int).toNat []) c ∧ Kd.H KAA TAs w5 w.heap.size (fun k => True ∧ ¬ (wr.heap.size ≤ k)) (.slice (some ⟨g, 0, none⟩) n cap) ((to_ArrivalSS y).take j ++ List.replicate (n - j) ([] : List MArr)) (j : Int) oki c := (by obtain ⟨oki, c, _, h2, _, _, h5⟩ := Kd.S_lend (Kd.S_below HO3.out hb) ([] : List MArr) (j : Int) hj0 hy0; exact ⟨oki, c, h2, h5⟩); obtain ⟨vr, rfl, _⟩ := hM; have hc2 : w5.cell? ⟨g, j, none⟩ = some vr := (by have h := (H_at hH hlt).1 0 vr rfl; rwa [show KAA.sz = 1 from rfl, Nat.mul_one, Nat.add_zero] at h); have hf2 : w5.frozen? ⟨g, j, none⟩ = false := (by have h := (H_at hH hlt).2 0; rwa [show KAA.sz = 1 from rfl, Nat.mul_one, Nat.add_zero] at h); have HH := Aside0.mk hH; clear hR hb hH hc1)
    have hle : w.heap.size ≤ wr.heap.size := by have h := HB2.out.size; have h2 := hg1; omega
    have hp := Kd.S_seg (okg := fun k => wr.heap.size ≤ k) HH.out (Int.natCast_nonneg j) hy0 (seg := [.slice A5 (to_ArrivalS x).length c5]) (j := 0) (show 0 + 1 ≤ 1 from Nat.le_refl _) (x' := to_ArrivalS x) (okp := fun k => wr.heap.size ≤ k) ⟨_, rfl, Kd.S_lower (Kd.S_mono (Kd.S_bound HR.out) (fun k hk => hk.2.1)) hle⟩ (fun k hk => .inr hk) (fun k hk => ⟨trivial, by omega⟩)
    rw [Int.toNat_natCast, HSET.out, show j * KAA.sz + 0 = j from Nat.mul_one j, setCells_one] at hp
    have HP := Aside0.mk hp.1
    have HQ := Aside0.mk (HB.out.grown hp.2 HB.out.size (fun q e => by injection e with e; exact e ▸ hg1))
    clear hp hle
    go_roundg (n - j)
    case measure => omega
    case rel => exact ⟨j + 1, ⟨by omega, by omega⟩, by go_num, ⟨by first | exact HP.out | exact Kd.S_drewN HP.out _⟩, ⟨by first | exact HQ.out | exact pw_below_drewN HQ.out _⟩⟩
end Go.Proofs.Ytmkhiaikfeoedaa.MarkK
