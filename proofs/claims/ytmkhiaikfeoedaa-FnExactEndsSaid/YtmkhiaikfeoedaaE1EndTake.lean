/- What Ends takes of one source, called. -/
import Derived.Test.YtmkhiaikfeoedaaE1EndKit
namespace Go.Proofs.Ytmkhiaikfeoedaa.EndsK
open Go.RowKit Go.Proofs.YtmkhiaikfeoedaaW.PrintWords Go.Proofs.YtmkhiaikfeoedaaW.PrintLast Go.Proofs.YtmkhiaikfeoedaaW.PrintMore Go.Proofs.Ytmkhiaikfeoedaa.QFnExactInputsOk Go.Proofs.Ytmkhiaikfeoedaa.EvKit Go.Proofs.Ytmkhiaikfeoedaa.MarkK
abbrev Arr := S54
set_option linter.unusedSimpArgs false
set_option linter.unusedVariables false
theorem lst_self (a : Arr) (l : List Arr) (h : a.f0 ≤ 1000000000000) : lst a.f0 (a :: l) = lst 1000000000000 (a :: l) := by
  unfold lst
  rw [if_neg (Int.lt_irrefl _), if_neg (by omega)]
theorem at_arr {W : World} {A : Option Addr} {n : Nat} {l : List Arr} (h : KA.C W A n l) (j : Nat) (hj : j < n) :
    ∃ ad A2 c2, A = some ad ∧ W.cell? (ad.add (j * 3)) = some (.int .i64 (l.getD j zArr).f0) ∧ W.cell? ⟨(ad.add (j * 3)).block, (ad.add (j * 3)).off + 1, none⟩ = some (.slice A2 (l.getD j zArr).f1.length c2) ∧ W.cell? ⟨(ad.add (j * 3)).block, (ad.add (j * 3)).off + 2, none⟩ = some (.bool (l.getD j zArr).f2) ∧ (l.getD j zArr).f1.length ≤ c2 ∧ KI.C W A2 (l.getD j zArr).f1.length (l.getD j zArr).f1 := by
  obtain ⟨ad, A2, c2, e, h0, h1, h2, h3, h4⟩ := at_T54 h (j : Int) (by omega) (by omega)
  rw [Int.toNat_natCast] at h0 h1 h2
  exact ⟨ad, A2, c2, e, h0, h1, h2, h3, h4⟩
set_option maxHeartbeats 3200000 in
set_option maxRecDepth 100000 in
theorem take_call {w : World} {A1 : Option Addr} {c1 b o rn p rm q N cn cm m : Nat} {W : World} {vo : Value} {st : St} {y : List (List Arr)} (hC : Kd.C (Kd.slice TA KA) w A1 y.length y) (hy : Fit y)
    (hE : En w A1 c1 y.length b o rn p rm q N cn cm W vo st) (hO : Kd.S KC TC W w.heap.size (fun k => N ≤ k) vo st.2.2) (hg : Good y st m) (hm : m ≤ 10000) (s : Nat) (hs : s < y.length) :
    Calls Try.prog 30 #[.int .i64 (s : Int), .pointer (some ⟨b, 0, none⟩), .pointer (some ⟨p, 0, none⟩), .pointer (some ⟨q, 0, none⟩), .pointer (some ⟨o, 0, none⟩)] W fun e w' => e = .returned (.tuple #[]) ∧ ∃ vo', En w A1 c1 y.length b o rn p rm q N cn cm w' vo' (step y st s) ∧ Kd.S KC TC w' w.heap.size (fun k => N ≤ k) vo' (step y st s).2.2 := by
  obtain ⟨i, hi⟩ : ∃ i : Nat, rd st.1 s = i := ⟨(rd st.1 s).toNat, by have := (hg.nx s hs).1; omega⟩
  obtain ⟨l, hl⟩ : ∃ l, l = row y s := ⟨_, rfl⟩
  have hil : i ≤ l.length := by have := (hg.nx s hs).2; rw [hl]; omega
  have hl3 : l.length ≤ 300 := by rw [hl]; exact hy.len s
  obtain ⟨ad, A6, c6, hA, hc6, hl6, hC6⟩ := at_row hC hs
  rw [← row_at hs, ← hl] at hc6 hl6 hC6
  replace hc6 := cellU hc6 hE.hB
  subst hA
  have hb0 : W.cell? ⟨b, 0, none⟩ = some (.slice (some ad) y.length c1) := (blk_cell hE.bB 0).trans rfl
  have hp0 : W.cell? ⟨p, 0, none⟩ = some (.slice (some ⟨rn, 0, none⟩) y.length cn) := (blk_cell hE.bN 0).trans rfl
  have hn0 := (own_at hE.hN hs).1
  rw [hi] at hn0
  have hsy : (s : Int) < (y.length : Int) := by omega
  have HC6 := Aside0.mk hC6
  have HE := Aside0.mk hE
  have HO := Aside0.mk hO
  have HG := Aside0.mk hg
  have HM := Aside0.mk hm
  have HL := Aside0.mk hl
  have HI := Aside0.mk hi
  have HY := Aside0.mk hy
  have HC := Aside0.mk hC
  have hii : (i : Int) ≤ (l.length : Int) := by omega
  have hic : (i : Int) ≤ (c6 : Int) := by omega
  have hlc : (l.length : Int) ≤ (c6 : Int) := by omega
  clear hC hE hO hg hm hi hl hy hC6
  go_enter Try.func30, Try.ntmps30
  go_upto_region 0 with (fail)
  go_quiet (fail)
  go_upto_region 1 with (fail)
  obtain ⟨l2, hl2⟩ : ∃ l2, l2 = l.drop i := ⟨_, rfl⟩
  obtain ⟨c7, hc7⟩ : ∃ c7, c7 = c6 - i := ⟨_, rfl⟩
  obtain ⟨A7, hA7⟩ : ∃ A7, A7 = (if c6 = i then A6 else Option.map (fun x => x.add (i * 3)) A6) := ⟨_, rfl⟩
  have hn2 : l.length - i = l2.length := by rw [hl2, List.length_drop]
  have hC7 : KA.C w A7 l2.length l2 := by rw [hA7, hl2]; exact Kd.C_drop HC6.out hil hl6
  simp only [← hA7, ← hc7, hn2]
  replace HE := Aside0.mk (HE.out.drewN nq)
  replace HO := Aside0.mk (Kd.S_drewN HO.out nq)
  have HC7 := Aside0.mk hC7
  have hl23 : l2.length ≤ 300 := by omega
  have HL2 := Aside0.mk hl2
  have HN2 := Aside0.mk hn2
  clear hl2 hA7 hC7 hb0 hp0 hn0 hc6 hl6 hsy hii hic hlc HC6 hc7
  generalize W.drewN nq = W1 at HE HO ⊢
  by_cases h0 : l2.length = 0
  · have hst : step y st s = st := by
      unfold step
      rw [if_pos (by rw [HI.out, ← HL.out]; have := HN2.out; omega)]
    have HST := Aside0.mk hst
    have h00 : ((l2.length : Int) == 0) = true := beq_iff_eq.2 (by omega)
    clear hst h0 hn2 hl23
    go_wp2
    refine bodyPost_ret (results_none rfl _ _ _) rfl ?_
    refine ⟨rfl, vo, ?_, ?_⟩
    · rw [HST.out]; exact HE.out
    · rw [HST.out]; exact HO.out
  have hpos : 0 < l2.length := Nat.pos_of_ne_zero h0
  have h00 : ((l2.length : Int) == 0) = false := beq_eq_false_iff_ne.2 (by omega)
  obtain ⟨ad7, A8, c8, hA7, hx0, hx1, hx2, hl8, hC8⟩ := at_arr HC7.out 0 hpos
  subst hA7
  obtain ⟨a, ha⟩ : ∃ a, a = l2.getD 0 zArr := ⟨_, rfl⟩
  rw [← ha] at hx0 hx1 hx2 hl8 hC8
  simp only [Nat.zero_mul, Addr.add_zero'] at hx0 hx1 hx2
  have HC8 := Aside0.mk hC8
  have HX0 := Aside0.mk hx0
  have HX1 := Aside0.mk hx1
  have HX2 := Aside0.mk hx2
  replace hx0 := cellU hx0 HE.out.hB
  replace hx1 := cellU hx1 HE.out.hB
  replace hx2 := cellU hx2 HE.out.hB
  have HL8 := Aside0.mk hl8
  have HA := Aside0.mk ha
  clear ha hl8 hC8
  go_wp2
  clear hx0 hx1 hx2
  go_loopg [7, 29] (l2.length + 1) (fun kq v7 v29 wr => ∃ (j : Nat) (t : Int), (j + kq = l2.length + 1 ∧ j ≤ l2.length) ∧ v7 = .int .i64 t ∧ v29 = .int .i64 (j : Int) ∧ Aside0 (lst t (l2.drop j) = lst 1000000000000 l2) ∧ Aside0 (Below W1.heap.size W1 wr))
  case atStart => exact ⟨0, a.f0, ⟨by omega, Nat.zero_le _⟩, rfl, rfl, ⟨by
      have hs0 : l2 = a :: l2.drop 1 := by
        rw [HA.out]
        cases l2 with
        | nil => exact absurd hpos (Nat.lt_irrefl _)
        | cons x xs => rfl
      rw [List.drop_zero, hs0]
      exact lst_self _ _ (HY.out.tm s a (by rw [← HL.out]; exact List.mem_of_mem_drop (by rw [← HL2.out, hs0]; exact List.mem_cons_self))).2⟩, ⟨by first | exact Below.refl _ _ | exact pw_below_drewN (Below.refl _ _) _⟩⟩
  case round =>
    obtain ⟨j, t, hj, rfl, rfl, HT, HB⟩ := hrel
    by_cases hlt : j < l2.length
    · obtain ⟨ad9, A9, c9, e9, hx0, hx1, hx2, _, _⟩ := at_arr (Kd.C_below HC7.out (HE.out.below HB.out).hB) j hlt
      cases e9
      obtain ⟨x, hx⟩ : ∃ x, x = l2.getD j zArr := ⟨_, rfl⟩
      rw [← hx] at hx0 hx1 hx2
      have HX := Aside0.mk hx
      clear hx
      go_upto_region 6 with (fail)
      have hbx := (blk_cell (blk_new wr (.cells #[.int .i64 x.f0, .slice A9 x.f1.length c9, .bool x.f2] TA)) 0)
      have hb2 := bel_alloc wr (.cells #[.int .i64 x.f0, .slice A9 x.f1.length c9, .bool x.f2] TA)
      generalize wr.alloc (.cells #[.int .i64 x.f0, .slice A9 x.f1.length c9, .bool x.f2] TA) = W2 at hb2 hbx ⊢
      have hbx : W2.cell? ⟨wr.heap.size, 0, none⟩ = some (.int .i64 x.f0) := hbx.trans rfl
      have HB2 := Aside0.mk (bel HB.out hb2)
      clear hb2 hx0 hx1 hx2
      go_wp2
      go_wp2
      go_wp2
      go_wp2
      go_wp2
      go_wp2
      go_wp2
      go_wp2
      go_wp2
      go_wp2
      go_wp2
      go_roundg (l2.length - j)
      case measure => omega
      case rel => exact ⟨j + 1, min t x.f0, ⟨by omega, by omega⟩, rfl, by first | rfl | (go_num; done) | simp, ⟨by
        have h1 := HT.out
        rw [List.drop_eq_getElem_cons hlt] at h1
        have h2 : l2[j] = x := by rw [HX.out, List.getD_eq_getElem?_getD, List.getElem?_eq_getElem hlt]; rfl
        rw [h2] at h1
        rw [← h1]
        show _ = lst (if t < x.f0 then t else x.f0) _
        congr 1
        split <;> omega⟩, ⟨by first | exact HB2.out | exact pw_below_drewN HB2.out _⟩⟩
    · obtain rfl : j = l2.length := by omega
      obtain ⟨T, hT⟩ : ∃ T, T = lst 1000000000000 l2 := ⟨_, rfl⟩
      obtain rfl : t = T := by
        have h1 := HT.out
        rw [List.drop_length] at h1
        rw [hT]; exact h1
      have hni : ¬ ((row y s).length : Int) ≤ rd st.1 s := by rw [HI.out, ← HL.out]; have := HN2.out; omega
      have hdr : (row y s).drop (rd st.1 s).toNat = l2 := by rw [HI.out, Int.toNat_natCast, ← HL.out]; exact HL2.out.symm
      have hga : (row y s).getD (rd st.1 s).toNat zArr = a := by
        rw [HI.out, Int.toNat_natCast, ← HL.out, HA.out, HL2.out, List.getD_eq_getElem?_getD, List.getD_eq_getElem?_getD, List.getElem?_drop, Nat.add_zero]
      have hstep : step y st s = if t > rd st.2.1 s then (st.1.set s ((i : Int) + 1), st.2.1.set s t, (st.2.2 ++ [(⟨(s : Int), none0, t⟩ : Com)]) ++ [(⟨(s : Int), a, -1⟩ : Com)]) else (st.1.set s ((i : Int) + 1), st.2.1, st.2.2 ++ [(⟨(s : Int), a, -1⟩ : Com)]) := by
        unfold step
        rw [if_neg hni, hdr, hga, hT, HI.out]
      have hsm : a.f1.length * 8 ≤ 140737488355328 := by
        have h1 := HY.out.sm s a (by rw [← hga, List.getD_eq_getElem?_getD, List.getElem?_eq_getElem (by have h2 := HN2.out; have h3 := HL.out; rw [HI.out, Int.toNat_natCast, ← h3]; omega)]; exact List.getElem_mem _)
        omega
      have HL8B := Aside0.mk hsm
      have hwi : wrap64 ((i : Int) + 1) = (i : Int) + 1 := w64 (by omega) (by omega)
      have HW1 := Aside0.mk hwi
      have HSP := Aside0.mk hstep
      replace HE := Aside0.mk (HE.out.below HB.out)
      replace HO := Aside0.mk (Kd.S_below HO.out HB.out)
      have hq0 : wr.cell? ⟨q, 0, none⟩ = some (.slice (some ⟨rm, 0, none⟩) y.length cm) := (blk_cell HE.out.bM 0).trans rfl
      have hm0 := (own_at HE.out.hM hs).1
      have hmf := (own_at HE.out.hM hs).2
      clear hT hni hdr hga hstep hsm hwi HT
      by_cases hgt : t > rd st.2.1 s
      · have HST : Aside0 (step y st s = (st.1.set s ((i : Int) + 1), st.2.1.set s t, (st.2.2 ++ [(⟨(s : Int), none0, t⟩ : Com)]) ++ [(⟨(s : Int), a, -1⟩ : Com)])) := ⟨by rw [HSP.out, if_pos hgt]⟩
        have hgt' : rd st.2.1 s < t := hgt
        clear hgt
        go_upto_region 10 with (fail)
        have hio := HE.out.io
        replace HO := Aside0.mk (Kd.S_far (p := ⟨rm, s, none⟩) HO.out (fun k (hk : N ≤ k) (e : k = rm) => by omega) (.int .i64 t))
        replace HE := Aside0.mk (HE.out.setM HG.out.l2 s t)
        clear hq0 hm0 hmf hio
        generalize wr.setCell ⟨rm, s, none⟩ (.int .i64 t) = W2 at HO HE ⊢
        obtain ⟨Ao, co, hvo⟩ := Kd.S_slice HO.out
        subst hvo
        have ho0 : W2.cell? ⟨o, 0, none⟩ = some (.slice Ao st.2.2.length co) := (blk_cell HE.out.bO 0).trans rfl
        have hof : W2.frozen? ⟨o, 0, none⟩ = false := blk_frozen HE.out.bO 0
        have HLO : Aside0 ((st.2.2.length + 1) * 56 ≤ 140737488355328) := ⟨by have := HG.out.out; have := HM.out; omega⟩
        have HVO : Aside0 (∀ k, (Value.slice Ao st.2.2.length co).ownBlock = some k → N ≤ k) := ⟨(Kd.S_R HO.out).1⟩
        go_upto_region 11 with ((with_reducible refine gate_builtin (b := .append) (xs := #[.tmp 48, .tmp 52]) rfl ?_); at_builtin; refine Kd.S_append KC (w0 := w) w.heap.size rfl (.tmp 48) (.tmp 52) TCs TC (.agg #[.int .i64 0, .int .i64 0, .slice none 0 0, .bool false, .int .i64 0]) 56 rfl Try.underlying27 info56 rfl (by decide) (by omega) (.slice Ao st.2.2.length co) st.2.2 (⟨(s : Int), none0, t⟩ : Com) [.int .i64 (s : Int), .int .i64 0, .slice none 0 0, .bool false, .int .i64 t] (fun k => N ≤ k) (fun _ => False) rfl rfl ?aP (fun _ h => h.elim) ?aF ?aO ?aB ?aS ?aL ?_; (case aP => exact kc_mk _ _ _ (⟨(s : Int), none0, t⟩ : Com) (Kd.R_nil _ _ _ _ _)); (case aF => exact fun k hk => Nat.le_trans HE.out.hS hk); (case aO => exact Kd.S_mono HO.out (fun k hk => ⟨hk, fun e => e⟩)); (case aB => exact HE.out.hB); (case aS => exact HE.out.hB.size); (case aL => exact HLO.out); intro v7 w7 ho hb hg _; replace HE := Aside0.mk (HE.out.grown hg (fun x e => HVO.out x e) hb); obtain ⟨O1, hO1⟩ : ∃ O1, O1 = st.2.2 ++ [(⟨(s : Int), none0, t⟩ : Com)] := ⟨_, rfl⟩; rw [← hO1] at ho; have HO1 := Aside0.mk hO1; obtain ⟨A7_, c7_, rfl⟩ := Kd.S_slice ho; replace HO := Aside0.mk ho; clear hO1; have ho1 : w7.cell? ⟨o, 0, none⟩ = some (.slice Ao st.2.2.length co) := (blk_cell HE.out.bO 0).trans rfl; have hof1 : w7.frozen? ⟨o, 0, none⟩ = false := blk_frozen HE.out.bO 0; clear ho hb hg)
        clear ho0 hof ho1 hof1
        have HOI := Aside0.mk HE.out.io
        have HLE1 : Aside0 (O1.length ≤ 2 * m + 1) := ⟨by rw [HO1.out, List.length_append, List.length_singleton]; have := HG.out.out; omega⟩
        rw [← HO1.out] at HST
        clear HLO HVO
        replace HO := Aside0.mk (Kd.S_far (p := ⟨o, 0, none⟩) HO.out (fun k (hk : N ≤ k) (e : k = o) => by have := HOI.out; omega) (.slice A7_ O1.length c7_))
        replace HE := Aside0.mk (HE.out.setO (.slice A7_ O1.length c7_))
        clear HOI
        generalize w7.setCell ⟨o, 0, none⟩ (.slice A7_ O1.length c7_) = W3 at HO HE ⊢
        obtain ⟨h, hh⟩ : ∃ h, h = W3.heap.size := ⟨_, rfl⟩
        have hx0 := cellU HX0.out HE.out.hB
        have hx1 := cellU HX1.out HE.out.hB
        have hx2 := cellU HX2.out HE.out.hB
        go_upto_region 12 with (fail)
        clear hx0 hx1 hx2
        have hbk := blk_new W3 (.cells #[.int .i64 a.f0, .slice A8 a.f1.length c8, .bool a.f2] TA)
        have hb4 := bel_alloc W3 (.cells #[.int .i64 a.f0, .slice A8 a.f1.length c8, .bool a.f2] TA)
        generalize W3.alloc (.cells #[.int .i64 a.f0, .slice A8 a.f1.length c8, .bool a.f2] TA) = W4 at hb4 hbk ⊢
        rw [← hh] at hbk ⊢
        have HHN : Aside0 (N ≤ h) := ⟨by rw [hh]; exact HE.out.hS⟩
        replace HE := Aside0.mk (HE.out.below hb4)
        replace HO := Aside0.mk (Kd.S_below (Kd.S_mono (Kd.S_bound HO.out) (ok' := fun k => N ≤ k ∧ k < h) (fun k hk => ⟨hk.1, by rw [hh]; exact hk.2.2.1⟩)) hb4)
        clear hb4 hh
        have hs4 : h < W4.heap.size := blk_lt hbk
        have hk1 : W4.cell? ⟨h, 1, none⟩ = some (.slice A8 a.f1.length c8) := (blk_cell hbk 1).trans rfl
        have HC := Aside0.mk (clone_ints A8 c8 a.f1 W4 (Kd.C_below HC8.out HE.out.hB) HL8B.out)
        have HBK := Aside0.mk hbk
        clear hbk
        go_upto_region 13 with (go_at_call 31; refine HC.out.mono ?_; rintro e w5 ⟨v, rfl, hR, hb⟩; obtain ⟨A5, c5, rfl⟩ := Kd.R_slice hR; have HR := Aside0.mk hR; replace HBK := Aside0.mk (blk_below HBK.out hb); have hk1 : w5.cell? ⟨h, 1, none⟩ = some (.slice A8 a.f1.length c8) := (blk_cell HBK.out 1).trans rfl; have hkf := blk_frozen HBK.out 1; replace HE := Aside0.mk (HE.out.below hb); replace HO := Aside0.mk (Kd.S_below HO.out hb); have HS5 := Aside0.mk hb.size; clear hR hb)
        clear hk1
        have hbk : (w5.setCell ⟨h, 1, none⟩ (.slice A5 a.f1.length c5)).heap[h]? = some (.cells #[.int .i64 a.f0, .slice A5 a.f1.length c5, .bool a.f2] TA (0, 0)) := blk_put HBK.out 1 _ rfl
        have hg5 := set_grown w5 h 1 (.slice A5 a.f1.length c5)
        replace HR := Aside0.mk (Kd.R_grown (Kd.R_mono (Kd.R_bound HR.out) (ok' := fun k => h < k) (fun k hk => Nat.lt_of_lt_of_le hs4 hk.2.1)) hg5 (fun k hk e => by injection e with e; omega))
        replace HO := Aside0.mk (Kd.S_grown HO.out hg5 (fun k hk e => by injection e with e; omega))
        replace HE := Aside0.mk (HE.out.grown hg5 (fun x e => by injection e with e; rw [← e]; exact HHN.out) (HE.out.hB.grown hg5 HE.out.hB.size (fun x e => by injection e with e; rw [← e]; have h1 := HE.out.io; have h2 := HHN.out; omega)))
        clear hg5 HBK
        generalize w5.setCell ⟨h, 1, none⟩ (.slice A5 a.f1.length c5) = W6 at hbk HR HO HE ⊢
        have hk0 : W6.cell? ⟨h, 0, none⟩ = some (.int .i64 a.f0) := (blk_cell hbk 0).trans rfl
        have hk1 : W6.cell? ⟨h, 1, none⟩ = some (.slice A5 a.f1.length c5) := (blk_cell hbk 1).trans rfl
        have hk2 : W6.cell? ⟨h, 2, none⟩ = some (.bool a.f2) := (blk_cell hbk 2).trans rfl
        have ho0 : W6.cell? ⟨o, 0, none⟩ = some (.slice A7_ O1.length c7_) := (blk_cell HE.out.bO 0).trans rfl
        have hof : W6.frozen? ⟨o, 0, none⟩ = false := blk_frozen HE.out.bO 0
        have HLO : Aside0 ((O1.length + 1) * 56 ≤ 140737488355328) := ⟨by have := HG.out.out; have := HM.out; have := HLE1.out; omega⟩
        have HV : Aside0 (∀ k, some k = (Value.slice A5 a.f1.length c5).ownBlock → h < k) := ⟨fun k hk => HR.out.1 k hk.symm⟩
        have HVO : Aside0 (∀ k, (Value.slice A7_ O1.length c7_).ownBlock = some k → N ≤ k ∧ k < h) := ⟨(Kd.S_R HO.out).1⟩
        replace HR := Aside0.mk (Kd.R_lower (Kd.R_tight rfl HR.out) (show w.heap.size ≤ _ from by have h1 := HE.out.io; have h2 := HHN.out; omega))
        go_upto_region 14 with ((with_reducible refine gate_builtin (b := .append) (xs := #[.tmp 61, .tmp 65]) rfl ?_); at_builtin; refine Kd.S_append KC (w0 := w) w.heap.size rfl (.tmp 61) (.tmp 65) TCs TC (.agg #[.int .i64 0, .int .i64 0, .slice none 0 0, .bool false, .int .i64 0]) 56 rfl Try.underlying27 info56 rfl (by decide) (by omega) (.slice A7_ O1.length c7_) O1 (⟨(s : Int), a, -1⟩ : Com) [.int .i64 (s : Int), .int .i64 a.f0, .slice A5 a.f1.length c5, .bool a.f2, .int .i64 (-1)] (fun k => N ≤ k) (fun k => some k = (Value.slice A5 a.f1.length c5).ownBlock) rfl rfl ?aP ?aK ?aF ?aO ?aB ?aS ?aL ?_; (case aP => exact kc_mk _ _ _ (⟨(s : Int), a, -1⟩ : Com) HR.out); (case aK => exact fun k hk => ⟨by have h1 := HV.out k hk; have h2 := HHN.out; omega, fun e => by have h1 := HV.out k hk; have h2 := HVO.out k e.symm; omega⟩); (case aF => exact fun k hk => Nat.le_trans HE.out.hS hk); (case aO => exact Kd.S_mono HO.out (fun k hk => ⟨hk.1, fun e => by have h1 := HV.out k e; have h2 := hk.2; omega⟩)); (case aB => exact HE.out.hB); (case aS => exact HE.out.hB.size); (case aL => exact HLO.out); intro v7 w7 ho hb hg _; replace HE := Aside0.mk (HE.out.grown hg (fun x e => (HVO.out x e).1) hb); obtain ⟨O2, hO2⟩ : ∃ O2, O2 = O1 ++ [(⟨(s : Int), a, -1⟩ : Com)] := ⟨_, rfl⟩; rw [← hO2] at ho; have HO2 := Aside0.mk hO2; obtain ⟨A9_, c9_, rfl⟩ := Kd.S_slice ho; replace HO := Aside0.mk ho; clear hO2; have ho1 : w7.cell? ⟨o, 0, none⟩ = some (.slice A7_ O1.length c7_) := (blk_cell HE.out.bO 0).trans rfl; have hof1 : w7.frozen? ⟨o, 0, none⟩ = false := blk_frozen HE.out.bO 0; clear ho hb hg)
        clear ho0 hof ho1 hof1 hk0 hk1 hk2 hbk
        have HOI := Aside0.mk HE.out.io
        replace HO := Aside0.mk (Kd.S_far (p := ⟨o, 0, none⟩) HO.out (fun k (hk : N ≤ k) (e : k = o) => by have := HOI.out; omega) (.slice A9_ O2.length c9_))
        replace HE := Aside0.mk (HE.out.setO (.slice A9_ O2.length c9_))
        generalize w7.setCell ⟨o, 0, none⟩ (.slice A9_ O2.length c9_) = W8 at HO HE ⊢
        have hp0 : W8.cell? ⟨p, 0, none⟩ = some (.slice (some ⟨rn, 0, none⟩) y.length cn) := (blk_cell HE.out.bN 0).trans rfl
        have hn0 : W8.cell? ⟨rn, s, none⟩ = some (.int .i64 (i : Int)) := by rw [← HI.out]; exact (own_at HE.out.hN hs).1
        have hnf := (own_at HE.out.hN hs).2
        go_wp2_with (fail)
        go_end0
        refine ⟨rfl, .slice A9_ O2.length c9_, ?_, ?_⟩
        · rw [HST.out]
          exact (HE.out.setN HG.out.l1 s ((i : Int) + 1)).out _
        · rw [HST.out, ← HO2.out]
          exact Kd.S_far (p := ⟨rn, s, none⟩) HO.out (fun k (hk : N ≤ k) (e : k = rn) => by have := HOI.out; omega) _
      · have HST : Aside0 (step y st s = (st.1.set s ((i : Int) + 1), st.2.1, st.2.2 ++ [(⟨(s : Int), a, -1⟩ : Com)])) := ⟨by rw [HSP.out, if_neg hgt]⟩
        have hgt' : ¬ rd st.2.1 s < t := hgt
        clear hgt
        go_upto_region 11 with (fail)
        clear hq0 hm0 hmf hgt'
        generalize wr = W3 at HO HE HB ⊢
        obtain ⟨h, hh⟩ : ∃ h, h = W3.heap.size := ⟨_, rfl⟩
        have hx0 := cellU HX0.out HE.out.hB
        have hx1 := cellU HX1.out HE.out.hB
        have hx2 := cellU HX2.out HE.out.hB
        go_upto_region 12 with (fail)
        clear hx0 hx1 hx2
        have hbk := blk_new W3 (.cells #[.int .i64 a.f0, .slice A8 a.f1.length c8, .bool a.f2] TA)
        have hb4 := bel_alloc W3 (.cells #[.int .i64 a.f0, .slice A8 a.f1.length c8, .bool a.f2] TA)
        generalize W3.alloc (.cells #[.int .i64 a.f0, .slice A8 a.f1.length c8, .bool a.f2] TA) = W4 at hb4 hbk ⊢
        rw [← hh] at hbk ⊢
        have HHN : Aside0 (N ≤ h) := ⟨by rw [hh]; exact HE.out.hS⟩
        replace HE := Aside0.mk (HE.out.below hb4)
        replace HO := Aside0.mk (Kd.S_below (Kd.S_mono (Kd.S_bound HO.out) (ok' := fun k => N ≤ k ∧ k < h) (fun k hk => ⟨hk.1, by rw [hh]; exact hk.2.2.1⟩)) hb4)
        clear hb4 hh
        have hs4 : h < W4.heap.size := blk_lt hbk
        have hk1 : W4.cell? ⟨h, 1, none⟩ = some (.slice A8 a.f1.length c8) := (blk_cell hbk 1).trans rfl
        have HC := Aside0.mk (clone_ints A8 c8 a.f1 W4 (Kd.C_below HC8.out HE.out.hB) HL8B.out)
        have HBK := Aside0.mk hbk
        clear hbk
        go_upto_region 13 with (go_at_call 31; refine HC.out.mono ?_; rintro e w5 ⟨v, rfl, hR, hb⟩; obtain ⟨A5, c5, rfl⟩ := Kd.R_slice hR; have HR := Aside0.mk hR; replace HBK := Aside0.mk (blk_below HBK.out hb); have hk1 : w5.cell? ⟨h, 1, none⟩ = some (.slice A8 a.f1.length c8) := (blk_cell HBK.out 1).trans rfl; have hkf := blk_frozen HBK.out 1; replace HE := Aside0.mk (HE.out.below hb); replace HO := Aside0.mk (Kd.S_below HO.out hb); have HS5 := Aside0.mk hb.size; clear hR hb)
        clear hk1
        have hbk : (w5.setCell ⟨h, 1, none⟩ (.slice A5 a.f1.length c5)).heap[h]? = some (.cells #[.int .i64 a.f0, .slice A5 a.f1.length c5, .bool a.f2] TA (0, 0)) := blk_put HBK.out 1 _ rfl
        have hg5 := set_grown w5 h 1 (.slice A5 a.f1.length c5)
        replace HR := Aside0.mk (Kd.R_grown (Kd.R_mono (Kd.R_bound HR.out) (ok' := fun k => h < k) (fun k hk => Nat.lt_of_lt_of_le hs4 hk.2.1)) hg5 (fun k hk e => by injection e with e; omega))
        replace HO := Aside0.mk (Kd.S_grown HO.out hg5 (fun k hk e => by injection e with e; omega))
        replace HE := Aside0.mk (HE.out.grown hg5 (fun x e => by injection e with e; rw [← e]; exact HHN.out) (HE.out.hB.grown hg5 HE.out.hB.size (fun x e => by injection e with e; rw [← e]; have h1 := HE.out.io; have h2 := HHN.out; omega)))
        clear hg5 HBK
        generalize w5.setCell ⟨h, 1, none⟩ (.slice A5 a.f1.length c5) = W6 at hbk HR HO HE ⊢
        have hk0 : W6.cell? ⟨h, 0, none⟩ = some (.int .i64 a.f0) := (blk_cell hbk 0).trans rfl
        have hk1 : W6.cell? ⟨h, 1, none⟩ = some (.slice A5 a.f1.length c5) := (blk_cell hbk 1).trans rfl
        have hk2 : W6.cell? ⟨h, 2, none⟩ = some (.bool a.f2) := (blk_cell hbk 2).trans rfl
        obtain ⟨Ao, co, hvo⟩ := Kd.S_slice HO.out
        subst hvo
        have ho0 : W6.cell? ⟨o, 0, none⟩ = some (.slice Ao st.2.2.length co) := (blk_cell HE.out.bO 0).trans rfl
        have hof : W6.frozen? ⟨o, 0, none⟩ = false := blk_frozen HE.out.bO 0
        have HLO : Aside0 ((st.2.2.length + 1) * 56 ≤ 140737488355328) := ⟨by have := HG.out.out; have := HM.out; omega⟩
        have HV : Aside0 (∀ k, some k = (Value.slice A5 a.f1.length c5).ownBlock → h < k) := ⟨fun k hk => HR.out.1 k hk.symm⟩
        have HVO : Aside0 (∀ k, (Value.slice Ao st.2.2.length co).ownBlock = some k → N ≤ k ∧ k < h) := ⟨(Kd.S_R HO.out).1⟩
        replace HR := Aside0.mk (Kd.R_lower (Kd.R_tight rfl HR.out) (show w.heap.size ≤ _ from by have h1 := HE.out.io; have h2 := HHN.out; omega))
        go_upto_region 14 with ((with_reducible refine gate_builtin (b := .append) (xs := #[.tmp 61, .tmp 65]) rfl ?_); at_builtin; refine Kd.S_append KC (w0 := w) w.heap.size rfl (.tmp 61) (.tmp 65) TCs TC (.agg #[.int .i64 0, .int .i64 0, .slice none 0 0, .bool false, .int .i64 0]) 56 rfl Try.underlying27 info56 rfl (by decide) (by omega) (.slice Ao st.2.2.length co) st.2.2 (⟨(s : Int), a, -1⟩ : Com) [.int .i64 (s : Int), .int .i64 a.f0, .slice A5 a.f1.length c5, .bool a.f2, .int .i64 (-1)] (fun k => N ≤ k) (fun k => some k = (Value.slice A5 a.f1.length c5).ownBlock) rfl rfl ?aP ?aK ?aF ?aO ?aB ?aS ?aL ?_; (case aP => exact kc_mk _ _ _ (⟨(s : Int), a, -1⟩ : Com) HR.out); (case aK => exact fun k hk => ⟨by have h1 := HV.out k hk; have h2 := HHN.out; omega, fun e => by have h1 := HV.out k hk; have h2 := HVO.out k e.symm; omega⟩); (case aF => exact fun k hk => Nat.le_trans HE.out.hS hk); (case aO => exact Kd.S_mono HO.out (fun k hk => ⟨hk.1, fun e => by have h1 := HV.out k e; have h2 := hk.2; omega⟩)); (case aB => exact HE.out.hB); (case aS => exact HE.out.hB.size); (case aL => exact HLO.out); intro v7 w7 ho hb hg _; replace HE := Aside0.mk (HE.out.grown hg (fun x e => (HVO.out x e).1) hb); obtain ⟨O2, hO2⟩ : ∃ O2, O2 = st.2.2 ++ [(⟨(s : Int), a, -1⟩ : Com)] := ⟨_, rfl⟩; rw [← hO2] at ho; have HO2 := Aside0.mk hO2; obtain ⟨A9_, c9_, rfl⟩ := Kd.S_slice ho; replace HO := Aside0.mk ho; clear hO2; have ho1 : w7.cell? ⟨o, 0, none⟩ = some (.slice Ao st.2.2.length co) := (blk_cell HE.out.bO 0).trans rfl; have hof1 : w7.frozen? ⟨o, 0, none⟩ = false := blk_frozen HE.out.bO 0; clear ho hb hg)
        clear ho0 hof ho1 hof1 hk0 hk1 hk2 hbk
        have HOI := Aside0.mk HE.out.io
        replace HO := Aside0.mk (Kd.S_far (p := ⟨o, 0, none⟩) HO.out (fun k (hk : N ≤ k) (e : k = o) => by have := HOI.out; omega) (.slice A9_ O2.length c9_))
        replace HE := Aside0.mk (HE.out.setO (.slice A9_ O2.length c9_))
        generalize w7.setCell ⟨o, 0, none⟩ (.slice A9_ O2.length c9_) = W8 at HO HE ⊢
        have hp0 : W8.cell? ⟨p, 0, none⟩ = some (.slice (some ⟨rn, 0, none⟩) y.length cn) := (blk_cell HE.out.bN 0).trans rfl
        have hn0 : W8.cell? ⟨rn, s, none⟩ = some (.int .i64 (i : Int)) := by rw [← HI.out]; exact (own_at HE.out.hN hs).1
        have hnf := (own_at HE.out.hN hs).2
        go_wp2_with (fail)
        go_end0
        refine ⟨rfl, .slice A9_ O2.length c9_, ?_, ?_⟩
        · rw [HST.out]
          exact (HE.out.setN HG.out.l1 s ((i : Int) + 1)).out _
        · rw [HST.out, ← HO2.out]
          exact Kd.S_far (p := ⟨rn, s, none⟩) HO.out (fun k (hk : N ≤ k) (e : k = rn) => by have := HOI.out; omega) _
end Go.Proofs.Ytmkhiaikfeoedaa.EndsK
