/- The program's TreeOk, called: what it tells is 'treeB'. -/
import Derived.Test.YthffllegmkolgaaT10TreeCalls
import Derived.BigQuiet
import Derived.Deep.RegionHeld3
import Derived.Carry
namespace Go.Proofs.Ythffllegmkolgaa.TreeK
open Go.RowKit Go.Proofs.YthffllegmkolgaaW.PrintWords Go.Proofs.YthffllegmkolgaaW.PrintLast Go.Proofs.YthffllegmkolgaaW.PrintMore Go.Proofs.Ythffllegmkolgaa.QTree
set_option linter.unusedSimpArgs false
attribute [local go_sem] max2_int min2_int max_two min_two
theorem keep4 {w : World} {g : Nat} {v0 v1 v2 v3 : Value} {t : TypeId} (h : w.heap[g]? = some (.cells #[v0, v1, v2, v3] t (0, 0))) : w.cell? ⟨g, 0, none⟩ = some v0 ∧ w.cell? ⟨g, 1, none⟩ = some v1 ∧ w.cell? ⟨g, 2, none⟩ = some v2 ∧ w.cell? ⟨g, 3, none⟩ = some v3 :=
  ⟨(blk_cell h 0).trans rfl, (blk_cell h 1).trans rfl, (blk_cell h 2).trans rfl, (blk_cell h 3).trans rfl⟩
theorem wf_small {i : Int} (h : -9223372036854775808 ≤ i ∧ i ≤ 9223372036854775807) : (Lit.int .i64 i).wf = true := by
  have e : wrap64 i = i := by unfold wrap64; omega
  exact e ▸ wrap64_wf i
theorem R_drew {α : Type} {d : Kd α} {e : Nat} {w : World} {base : Nat} {ok : Nat → Prop} {v : Value} {xs : List α} (h : d.R e w base ok v xs) : d.R e w.drew base ok v xs := Kd.R_below h (Below.refl _ _).drew
theorem cell_in {c0 c1 : ByteArray} {c2 : Int} {c3 : Bool} (h : cellB ⟨c0, c1, c2, c3⟩ = true) : 1 ≤ c2 ∧ c2 ≤ 400 := by
  unfold cellB at h
  simp only [Bool.and_eq_true, decide_eq_true_eq] at h
  exact h.2
set_option maxHeartbeats 3200000 in
set_option maxRecDepth 100000 in
theorem impl_tree (A0 A1 : Option Addr) (c0 c1 : Nat) (m : List Cel) (rs : List (List Cel)) (seq most : Int) (w : World) (hC : k48.C w A0 m.length m) (hc0 : m.length ≤ c0) (hD : (Kd.slice 48 k48).C w A1 rs.length rs) (_ : rs.length ≤ c1) (hm : m.length ≤ 1048576 ∧ ∀ c ∈ m, -9223372036854775808 ≤ c.f2 ∧ c.f2 ≤ 9223372036854775807) (hr : rs.length ≤ 1048576 ∧ ∀ x ∈ rs, x.length ≤ 1048576 ∧ ∀ c ∈ x, -9223372036854775808 ≤ c.f2 ∧ c.f2 ≤ 9223372036854775807) :
    Calls Try.prog 18 #[.agg #[.slice A0 m.length c0, .slice A1 rs.length c1, .int .i64 seq, .int .i64 most]] w fun e w' => e = .returned (.bool (treeB m rs seq most)) ∧ Below w.heap.size w w' := by
  have HC := zA hC
  have HD := zA hD
  obtain ⟨X, hX⟩ : ∃ X : List (List Cel), X = m :: rs := ⟨_, rfl⟩
  have HX0 : Aside0 (∀ x ∈ X, x.length ≤ 1048576 ∧ ∀ c ∈ x, -9223372036854775808 ≤ c.f2 ∧ c.f2 ≤ 9223372036854775807) := ⟨fun x hx => (List.mem_cons.1 (hX ▸ hx)).elim (fun e => by rw [e]; exact hm) (fun h => hr.2 x h)⟩
  have hm1 := hm.1
  have hr1 := hr.1
  clear hC hD hm hr
  obtain ⟨a1, a2, a3, a4, h1, h2, h3, h4⟩ : ∃ a1 a2 a3 a4 : Bool, decide (1 ≤ most ∧ most ≤ 50) = a1 ∧ decide (0 ≤ seq ∧ seq ≤ 400) = a2 ∧ decide (most < (m.length : Int)) = a3 ∧ decide (6 < (rs.length : Int)) = a4 := ⟨_, _, _, _, rfl, rfl, rfl, rfl⟩
  obtain ⟨p, hp⟩ : ∃ p : Bool, p = (!a1 || !a2 || a3 || a4) := ⟨_, rfl⟩
  obtain ⟨R, HL⟩ : ∃ R : Bool, listsB [] (seq + 1) true X = R := ⟨_, rfl⟩
  obtain ⟨V, hV⟩ : ∃ V : Bool, treeB m rs seq most = V := ⟨_, rfl⟩
  have HR : Aside0 (V = (!p && R)) := ⟨by rw [← hV]; unfold treeB; rw [h1, h2, h3, h4, hp, ← hX, HL]; cases a1 <;> cases a2 <;> cases a3 <;> cases a4 <;> simp⟩
  rw [hV]
  replace hX := zA hX
  replace hp := zA hp
  replace HL := zA HL
  clear hV
  have hmm := @run_makeMap Try.prog
  go_enter Try.func18, Try.ntmps18
  go_upto_region 1 with (fail)
  have BK := zA (blk_new w (.cells #[.slice A0 m.length c0, .slice A1 rs.length c1, .int .i64 seq, .int .i64 most] 31))
  have HB := zA (bel_alloc w (.cells #[.slice A0 m.length c0, .slice A1 rs.length c1, .int .i64 seq, .int .i64 most] 31))
  obtain ⟨g, hgg⟩ : ∃ g, g = w.heap.size := ⟨_, rfl⟩
  rw [← hgg] at BK
  simp only [← hgg]
  clear hgg
  generalize w.alloc (.cells #[.slice A0 m.length c0, .slice A1 rs.length c1, .int .i64 seq, .int .i64 most] 31) = W at *
  have hz0 := (blk_cell BK.out 0).trans rfl
  have hz1 := (blk_cell BK.out 1).trans rfl
  have hz2 := (blk_cell BK.out 2).trans rfl
  have hz3 := (blk_cell BK.out 3).trans rfl
  have hfz0 := blk_frozen BK.out 0
  have hfz1 := blk_frozen BK.out 1
  have hfz2 := blk_frozen BK.out 2
  have hfz3 := blk_frozen BK.out 3
  go_cut [33] (fun v33 wc => v33 = .bool p ∧ Aside0 (wc.heap[g]? = some (.cells #[.slice A0 m.length c0, .slice A1 rs.length c1, .int .i64 seq, .int .i64 most] 31 (0, 0))) ∧ Aside0 (Below w.heap.size w wc))
  case first =>
    cases a1
    case false => ((go_wp2_with (go_at_call 58; refine (call_within _ _ _ _ _ (by first | exact h1 | exact h2)).mono ?_; rintro e w' ⟨rfl, ⟨_, rfl⟩⟩)); go_meet; (case rel => exact ⟨by rw [hp.out]; simp, ⟨by (with_reducible repeat (first | refine blk_drewN ?_ _ | refine blk_drew ?_)); exact BK.out⟩, ⟨by repeat (first | (with_reducible exact HB.out) | apply pw_below_drewN)⟩⟩))
    cases a2
    case false => ((go_wp2_with (go_at_call 58; refine (call_within _ _ _ _ _ (by first | exact h1 | exact h2)).mono ?_; rintro e w' ⟨rfl, ⟨_, rfl⟩⟩)); go_meet; (case rel => exact ⟨by rw [hp.out]; simp, ⟨by (with_reducible repeat (first | refine blk_drewN ?_ _ | refine blk_drew ?_)); exact BK.out⟩, ⟨by repeat (first | (with_reducible exact HB.out) | apply pw_below_drewN)⟩⟩))
    cases a3
    case true => ((go_wp2_with (go_at_call 58; refine (call_within _ _ _ _ _ (by first | exact h1 | exact h2)).mono ?_; rintro e w' ⟨rfl, ⟨_, rfl⟩⟩)); go_meet; (case rel => exact ⟨by rw [hp.out]; simp, ⟨by (with_reducible repeat (first | refine blk_drewN ?_ _ | refine blk_drew ?_)); exact BK.out⟩, ⟨by repeat (first | (with_reducible exact HB.out) | apply pw_below_drewN)⟩⟩))
    cases a4
    case true => ((go_wp2_with (go_at_call 58; refine (call_within _ _ _ _ _ (by first | exact h1 | exact h2)).mono ?_; rintro e w' ⟨rfl, ⟨_, rfl⟩⟩)); go_meet; (case rel => exact ⟨by rw [hp.out]; simp, ⟨by (with_reducible repeat (first | refine blk_drewN ?_ _ | refine blk_drew ?_)); exact BK.out⟩, ⟨by repeat (first | (with_reducible exact HB.out) | apply pw_below_drewN)⟩⟩))
    ((go_wp2_with (go_at_call 58; refine (call_within _ _ _ _ _ (by first | exact h1 | exact h2)).mono ?_; rintro e w' ⟨rfl, ⟨_, rfl⟩⟩)); go_meet; (case rel => exact ⟨by rw [hp.out]; simp, ⟨by (with_reducible repeat (first | refine blk_drewN ?_ _ | refine blk_drew ?_)); exact BK.out⟩, ⟨by repeat (first | (with_reducible exact HB.out) | apply pw_below_drewN)⟩⟩))
  case rest =>
    clear hz0 hfz0 hz1 hfz1 hz2 hfz2 hz3 hfz3 BK HB
    obtain ⟨rfl, BK, HB⟩ := hcut
    have hz0 := (blk_cell BK.out 0).trans rfl
    have hz1 := (blk_cell BK.out 1).trans rfl
    have hz2 := (blk_cell BK.out 2).trans rfl
    have hz3 := (blk_cell BK.out 3).trans rfl
    have hfz0 := blk_frozen BK.out 0
    have hfz1 := blk_frozen BK.out 1
    have hfz2 := blk_frozen BK.out 2
    have hfz3 := blk_frozen BK.out 3
    cases p
    case true => (go_wp2; go_ret; exact ⟨by rw [HR.out]; simp, by repeat (first | (with_reducible exact HB.out) | apply pw_below_drewN)⟩)
    obtain ⟨rfl, rfl, rfl, rfl⟩ : a1 = true ∧ a2 = true ∧ a3 = false ∧ a4 = false := by
      have h := hp.out
      cases a1 <;> cases a2 <;> cases a3 <;> cases a4 <;> simp at h <;> simp
    have hsq := of_decide_eq_true h2
    have hrl : rs.length ≤ 6 := by have := of_decide_eq_false h4; omega
    have hXl : X.length ≤ 7 := by rw [hX.out]; simp; omega
    replace HR : Aside0 (V = R) := ⟨HR.out.trans (by simp)⟩
    clear h1 h2 h3 h4 hp
    have ws : wrap64 (seq + 1) = seq + 1 := by unfold wrap64; omega
    go_upto_region 4 with (fail)
    have HM : Aside0 (SetM (wc.alloc (.map #[] 0)) wc.heap.size []) := ⟨SetM.made wc⟩
    have hgm : Aside0 (w.heap.size ≤ wc.heap.size) := ⟨HB.out.size⟩
    replace BK := zA (blk_below BK.out (bel_alloc wc (.map #[] 0)))
    replace HB := zA (bel HB.out (bel_alloc wc (.map #[] 0)))
    clear hz0 hfz0 hz1 hfz1 hz2 hfz2 hz3 hfz3 hmm
    generalize wc.alloc (.map #[] 0) = W1 at *
    generalize wc.heap.size = gm at *
    have hz0 := (blk_cell BK.out 0).trans rfl
    have hz1 := (blk_cell BK.out 1).trans rfl
    have hz2 := (blk_cell BK.out 2).trans rfl
    have hz3 := (blk_cell BK.out 3).trans rfl
    go_upto_region 5 with (fail)
    have HO : Aside0 ((kfs w).R 28 (W1.alloc (.cells #[.slice A0 m.length c0] 28)) w.heap.size (fun k => k ≠ gm) (.slice (some ⟨W1.heap.size, 0, none⟩) 1 1) [m]) := ⟨kfs_one (blk_new W1 (.cells #[.slice A0 m.length c0] 28)) HB.out.size (by have := HM.out.lt; omega) hc0 HC.out⟩
    have BK2 := zA (blk_below BK.out (bel_alloc W1 (.cells #[.slice A0 m.length c0] 28)))
    have hy1 := (blk_cell BK2.out 1).trans rfl
    replace HM := zA (HM.out.below (bel_alloc W1 (.cells #[.slice A0 m.length c0] 28)))
    replace HB := zA (bel HB.out (bel_alloc W1 (.cells #[.slice A0 m.length c0] 28)))
    go_wp2_with (first | ((with_reducible refine gate_builtin (b := .append) (xs := #[.tmp 40, .tmp 42]) rfl ?_); at_builtin; refine Kd.R_append_rows (kfs w) (Rr := (Kd.slice 48 k48).K w) (w0 := w) w.heap.size rfl (.tmp 40) (.tmp 42) 29 28 (.slice none 0 0) 24 rfl Try.underlying29 info28 rfl (Nat.succ_pos 0) (by omega) _ [m] rs _ _ _ (fun k => k ≠ gm) (fun _ => False) rfl rfl ?aO ?aR (fun _ _ h => h) (fun _ h => h.elim) ?aF ?aB ?aS ?aL ?_; (case aO => exact HO.out); (case aR => exact ReadsRow.imp_ HD.out HB.out (fun _ _ h => h)); (case aF => exact fun k hk => by have := HM.out.lt; omega); (case aB => exact HB.out); (case aS => exact HB.out.size); (case aL => simp; omega); intro v1 w1 ho hb hg hat; replace HM := zA (HM.out.kept hg (fun h => HO.out.1 gm h.symm rfl)); replace HB := zA hb; have HO2 : Aside0 ((kfs w).R 28 w1 w.heap.size (fun k => k ≠ gm) v1 X) := ⟨hX.out.symm ▸ ho⟩; clear ho hb hg hat; obtain ⟨A2, c2, rfl, hl2, _⟩ := Kd.R_reads HO2.out))
    clear HO BK BK2 hy1
    have HO := HO2
    clear HO2 hl2
    go_loopg [4, 45] (X.length + 1) (fun kq v4 v45 wr => ∃ (j : Nat) (S : List Int) (l : Int), (j + kq = X.length + 1 ∧ j ≤ X.length) ∧ v4 = .int .i64 l ∧ v45 = .int .i64 (j : Int) ∧ S.length ≤ j * 1048576 ∧ Aside0 (listsB S l (decide (j = 0)) (X.drop j) = R) ∧ Aside0 (SetM wr gm S) ∧ Aside0 ((kfs w).R 28 wr w.heap.size (fun k => k ≠ gm) (.slice A2 X.length c2) X) ∧ Aside0 (Below w.heap.size w wr))
    case atStart => exact ⟨0, [], seq + 1, ⟨by omega, by omega⟩, rfl, rfl, by simp, ⟨HL.out⟩, ⟨HM.out⟩, ⟨HO.out⟩, ⟨by repeat (first | (with_reducible exact HB.out) | apply pw_below_drewN)⟩⟩
    case round =>
      clear hz0 hz1 hz2 hz3 HM HO HB
      obtain ⟨j, S, l, hj, rfl, rfl, hS, HX, HM, HO, HB⟩ := hrel
      by_cases hlt : j < X.length
      case neg =>
        obtain rfl : j = X.length := by omega
        have HF := zA (HR.out.trans (HX.out.symm.trans (lists_end _ _ _ _)))
        go_wp2
        go_ret; exact ⟨by rw [HF.out]; try rfl, by repeat (first | (with_reducible exact HB.out) | apply pw_below_drewN)⟩
      obtain ⟨y, hye⟩ : ∃ y : List Cel, X[j] = y := ⟨_, rfl⟩
      have hyb := HX0.out _ (List.getElem_mem hlt)
      rw [hye] at hyb
      obtain ⟨hyl, hyc⟩ := hyb
      have HY := zA hyc
      clear hyc
      replace HX := zA (HX.out.symm.trans (lists_step hlt hye))
      obtain ⟨_, _, e0, hl2, hC2⟩ := Kd.R_reads HO.out
      cases e0
      obtain ⟨ad, A6, c6, ee, g0, hl6, hC6⟩ := elemL hC2 hlt hye
      cases ee
      have HJ := zA hC6
      clear hC6 hC2 hye hl2
      go_upto_region 8 with (fail)
      obtain ⟨d0, t3, m1, m2⟩ : ∃ d0 t3 : Bool, decide (0 < (j : Int)) = d0 ∧ ((y.length : Int) == 0) = t3 := ⟨_, _, rfl, rfl⟩
      have m1i : decide (0 < j) = d0 := by rw [← m1, Bool.eq_iff_iff]; simp
      rw [m1, m2] at HX
      obtain ⟨q, hq⟩ : ∃ q : Bool, q = (d0 && t3) := ⟨_, rfl⟩
      rw [← hq] at HX
      replace hq := zA hq
      go_cut [56] (fun v56 wc => v56 = .bool q ∧ Aside0 (SetM wc gm S) ∧ Aside0 ((kfs w).R 28 wc w.heap.size (fun k => k ≠ gm) (.slice (some ad) X.length c2) X) ∧ Aside0 (Below w.heap.size w wc))
      case first =>
        cases d0
        case false => (go_wp2; go_meet; (case rel => exact ⟨by rw [hq.out]; simp, ⟨by first | exact HM.out | exact HM.out.drewN _⟩, ⟨HO.out⟩, ⟨by repeat (first | (with_reducible exact HB.out) | apply pw_below_drewN)⟩⟩))
        cases t3 <;> (go_wp2; go_meet; (case rel => exact ⟨by rw [hq.out]; simp, ⟨by first | exact HM.out | exact HM.out.drewN _⟩, ⟨HO.out⟩, ⟨by repeat (first | (with_reducible exact HB.out) | apply pw_below_drewN)⟩⟩))
      case rest =>
        clear HM HO HB g0
        obtain ⟨rfl, HM, HO, HB⟩ := hcut
        clear m1 m2 m1i hq d0 t3
        cases q
        case true =>
          have HF := zA (HR.out.trans (HX.out.trans (show _ = false by simp)))
          (go_wp2; go_ret; exact ⟨by rw [HF.out]; try rfl, by repeat (first | (with_reducible exact HB.out) | apply pw_below_drewN)⟩)
        replace HX : Aside0 (restC l S l (prc y 0) (y.drop 0) (X.drop (j + 1)) = R) := ⟨HX.out.symm ▸ (by simp [prc])⟩
        go_wp2
        go_loopg [7, 60] (y.length + 1) (fun kq v7 v60 wr => ∃ (k : Nat) (S : List Int) (b : Int), (k + kq = y.length + 1 ∧ k ≤ y.length) ∧ v7 = .int .i64 b ∧ v60 = .int .i64 (k : Int) ∧ S.length ≤ j * 1048576 + k ∧ Aside0 (restC l S b (prc y k) (y.drop k) (X.drop (j + 1)) = R ∧ ∀ i c0 c1 c2 c3, k = i + 1 → (hi : i < y.length) → y[i] = ⟨c0, c1, c2, c3⟩ → 1 ≤ c2 ∧ c2 ≤ 400) ∧ Aside0 (SetM wr gm S) ∧ Aside0 ((kfs w).R 28 wr w.heap.size (fun k => k ≠ gm) (.slice (some ad) X.length c2) X) ∧ Aside0 (Below w.heap.size w wr))
        case atStart => exact ⟨0, S, l, ⟨by omega, by omega⟩, rfl, rfl, Nat.le_trans hS (Nat.le_add_right _ _), ⟨HX.out, fun i _ _ _ _ h => by omega⟩, ⟨by first | exact HM.out | exact HM.out.drewN _⟩, ⟨HO.out⟩, ⟨by repeat (first | (with_reducible exact HB.out) | apply pw_below_drewN)⟩⟩
        case round =>
          clear HX HM HO HB hS
          obtain ⟨k, S, b, hk, rfl, rfl, hS, HXP, HM, HO, HB⟩ := hrel
          have HX0k := zA HXP.out.1
          have hprev0 := zA HXP.out.2
          clear HXP
          by_cases hkt : k < y.length
          case neg =>
            obtain rfl : k = y.length := by omega
            have HE : Aside0 (listsB S b (decide (j + 1 = 0)) (X.drop (j + 1)) = R) := ⟨by have h := HX0k.out; rw [rest_end] at h; rw [← h]; simp⟩
            clear HX0k hprev0
            go_wp2
            go_roundg (X.length - j)
            case measure => omega
            case rel => exact ⟨j + 1, S, b, ⟨by omega, by omega⟩, rfl, by go_num, by omega, ⟨HE.out⟩, ⟨by first | exact HM.out | exact HM.out.drewN _⟩, ⟨HO.out⟩, ⟨by repeat (first | (with_reducible exact HB.out) | apply pw_below_drewN)⟩⟩
          obtain ⟨⟨k0, k1, k2, k3⟩, hye⟩ : ∃ c : Cel, y[k] = c := ⟨_, rfl⟩
          have hwf : (Lit.int .i64 k2).wf = true := wf_small (by have h := HY.out _ (List.getElem_mem hkt); rw [hye] at h; exact h)
          have hkb : -9223372036854775808 ≤ k2 ∧ k2 ≤ 9223372036854775807 := by have h := HY.out _ (List.getElem_mem hkt); rw [hye] at h; exact h
          obtain ⟨ad2, ee, g0, g1, g2, g3⟩ := elemC HJ.out HB.out hkt hye
          cases ee
          replace hye := zA hye
          go_upto_region 14 with (fail)
          have B3 := zA (blk_new wr (.cells #[.string k0, .string k1, .int .i64 k2, .bool k3] 48))
          have hb := bel_alloc wr (.cells #[.string k0, .string k1, .int .i64 k2, .bool k3] 48)
          have hne : Aside0 (wr.heap.size ≠ gm) := ⟨by have := HM.out.lt; omega⟩
          replace HM := zA (HM.out.below hb)
          replace HO := zA (Kd.R_below HO.out hb)
          replace HB := zA (bel (by repeat (first | (with_reducible exact HB.out) | apply pw_below_drewN)) hb)
          clear g0 g1 g2 g3 hb
          generalize wr.alloc (.cells #[.string k0, .string k1, .int .i64 k2, .bool k3] 48) = W3 at *
          generalize wr.heap.size = g9 at *
          have hx0 := (keep4 B3.out).1
          have hx1 := (keep4 B3.out).2.1
          have hx2 := (keep4 B3.out).2.2.1
          have hx3 := (keep4 B3.out).2.2.2
          obtain ⟨e1, hr⟩ : ∃ e1 : Bool, cellB ⟨k0, k1, k2, k3⟩ = e1 := ⟨_, rfl⟩
          obtain ⟨e2, e3, m2, m3⟩ : ∃ e2 e3 : Bool, decide (k2 ∈ S) = e2 ∧ decide (l ≤ k2) = e3 := ⟨_, _, rfl, rfl⟩
          replace m2 := zA m2
          by_cases hk0 : k = 0
          case pos =>
            have HX : Aside0 (R = (e1 && !e2 && !e3 && restC l (k2 :: S) (if k2 < b then k2 else b) (prc y (k + 1)) (y.drop (k + 1)) (X.drop (j + 1)))) := ⟨HX0k.out.symm.trans ((rest_at0 hk0 hkt hye.out).trans (by rw [hr, ← m2.out, ← m3]))⟩
            have q0 : decide (0 < (k : Int)) = false := decide_eq_false (by omega)
            have q1 : decide (0 < k) = false := decide_eq_false (by omega)
            cases e1
            case false =>
              have HF := zA (HR.out.trans (HX.out.trans (show _ = false by simp)))
              refine wp_region_held_drew (S := fun w' => (w'.cell? ⟨g9, 0, none⟩ = some (.string k0) ∧ w'.cell? ⟨g9, 1, none⟩ = some (.string k1) ∧ w'.cell? ⟨g9, 2, none⟩ = some (.int .i64 k2) ∧ w'.cell? ⟨g9, 3, none⟩ = some (.bool k3)) ∧ (Instr.lookup 76 (.map (some gm)) (.int .i64 k2) false).run Try.prog w' = .ok (.bool e2) w') (by kernel_rfl) ⟨keep4 (blk_drew B3.out), m2.out ▸ SetM.look (HM.out.drew) hwf⟩ (fun hHeld => ?_)
              refine wpAnyH_take (i := 0) (v := ?v1) rfl (by kernel_rfl) (by kernel_rfl) (by kernel_rfl) (fun _ _ _ h => h) (Or.inl ⟨by rfl, ?hy1⟩) (by assumption) ?rest1
              case hy1 => (intro w hSw; (try dsimp only at hSw); go_simp; (try (with_reducible rfl)))
              (try simp only [zl4, zl2, zl3, Act.put, zl1, zl5, zl6])
              refine wpAnyH_ready (rs := [1]) (by kernel_rfl) (by simp) ?_
              refine AllReadyH.cons rfl (fun K hK => ?_) AllReadyH.nil
              (try simp only [zl4, zl2, zl3])
              go_simp
              go_at_call 59; refine (call_cellOk k0 k1 k2 k3 _ _ hr).mono ?_; rintro e w' ⟨rfl, hb⟩; replace B3 := zA (blk_below (blk_drew B3.out) hb); replace HM := zA (SetM.below (HM.out.drew) hb); replace HO := zA (Kd.R_below (R_drew HO.out) hb); replace HB := zA (bel (HB.out.drew) hb); clear hb hx0 hx1 hx2 hx3; have hx0 := (keep4 B3.out).1; have hx1 := (keep4 B3.out).2.1; have hx2 := (keep4 B3.out).2.2.1; have hx3 := (keep4 B3.out).2.2.2
              refine hK.out _ _ ⟨keep4 (B3.out), m2.out ▸ SetM.look (HM.out) hwf⟩ (fun hHeld => ?_)
              clear hK K
              (try simp only [zl4, zl2, zl3, Act.put, zl1, zl5, zl6])
              refine wpAnyH_take (i := 2) (v := ?v2) rfl (by kernel_rfl) (by kernel_rfl) (by kernel_rfl) (fun _ _ _ h => h) (Or.inl ⟨by rfl, ?hy2⟩) (by assumption) ?rest2
              case hy2 => (intro w hSw; (try dsimp only at hSw); go_simp; (try (with_reducible rfl)))
              (try simp only [zl4, zl2, zl3, Act.put, zl1, zl5, zl6])
              refine wpAnyH_take (i := 3) (v := ?v3) rfl (by kernel_rfl) (by kernel_rfl) (by kernel_rfl) (fun _ _ _ h => h) (Or.inl ⟨by rfl, ?hy3⟩) (by assumption) ?rest3
              case hy3 => (intro w hSw; (try dsimp only at hSw); go_simp; (try (with_reducible rfl)))
              (try simp only [zl4, zl2, zl3, Act.put, zl1, zl5, zl6])
              refine wpAnyH_take (i := 4) (v := undef) rfl (by kernel_rfl) (by kernel_rfl) (by kernel_rfl) (fun _ _ _ h => h) (Or.inr ⟨by rfl, rfl⟩) (by assumption) ?_
              (try simp only [zl4, zl2, zl3, Act.put, zl1, zl5, zl6])
              refine wpAnyH_take (i := 5) (v := undef) rfl (by kernel_rfl) (by kernel_rfl) (by kernel_rfl) (fun _ _ _ h => h) (Or.inr ⟨by rfl, rfl⟩) (by assumption) ?_
              (try simp only [zl4, zl2, zl3, Act.put, zl1, zl5, zl6])
              refine wpAnyH_take (i := 6) (v := undef) rfl (by kernel_rfl) (by kernel_rfl) (by kernel_rfl) (fun _ _ _ h => h) (Or.inr ⟨by rfl, rfl⟩) (by assumption) ?_
              (try simp only [zl4, zl2, zl3, Act.put, zl1, zl5, zl6])
              refine wpAnyH_take (i := 7) (v := undef) rfl (by kernel_rfl) (by kernel_rfl) (by kernel_rfl) (fun _ _ _ h => h) (Or.inr ⟨by rfl, rfl⟩) (by assumption) ?_
              (try simp only [zl4, zl2, zl3, Act.put, zl1, zl5, zl6])
              refine wpAnyH_take (i := 8) (v := ?v4) rfl (by kernel_rfl) (by kernel_rfl) (by kernel_rfl) (fun _ _ _ h => h) (Or.inl ⟨by rfl, ?hy4⟩) (by assumption) ?rest4
              case hy4 => (intro w hSw; (try dsimp only at hSw); go_simp; (try (with_reducible rfl)))
              (try simp only [zl4, zl2, zl3, Act.put, zl1, zl5, zl6])
              refine wpAnyH_take (i := 9) (v := ?v5) rfl (by kernel_rfl) (by kernel_rfl) (by kernel_rfl) (fun _ _ _ h => h) (Or.inl ⟨by rfl, ?hy5⟩) (by assumption) ?rest5
              case hy5 => (intro w hSw; (try dsimp only at hSw); go_simp; (try (with_reducible rfl)))
              (try simp only [zl4, zl2, zl3, Act.put, zl1, zl5, zl6])
              refine wpAnyH_take (i := 10) (v := undef) rfl (by kernel_rfl) (by kernel_rfl) (by kernel_rfl) (fun _ _ _ h => h) (Or.inr ⟨by rfl, rfl⟩) (by assumption) ?_
              (try simp only [zl4, zl2, zl3, Act.put, zl1, zl5, zl6])
              refine wpAnyH_take (i := 11) (v := undef) rfl (by kernel_rfl) (by kernel_rfl) (by kernel_rfl) (fun _ _ _ h => h) (Or.inr ⟨by rfl, rfl⟩) (by assumption) ?_
              (try simp only [zl4, zl2, zl3, Act.put, zl1, zl5, zl6])
              refine wpAnyH_take (i := 12) (v := undef) rfl (by kernel_rfl) (by kernel_rfl) (by kernel_rfl) (fun _ _ _ h => h) (Or.inr ⟨by rfl, rfl⟩) (by assumption) ?_
              (try simp only [zl4, zl2, zl3, Act.put, zl1, zl5, zl6])
              refine wpAnyH_take (i := 13) (v := undef) rfl (by kernel_rfl) (by kernel_rfl) (by kernel_rfl) (fun _ _ _ h => h) (Or.inr ⟨by rfl, rfl⟩) (by assumption) ?_
              (try simp only [zl4, zl2, zl3, Act.put, zl1, zl5, zl6])
              refine wpAnyH_take (i := 14) (v := ?v6) rfl (by kernel_rfl) (by kernel_rfl) (by kernel_rfl) (fun _ _ _ h => h) (Or.inl ⟨by rfl, ?hy6⟩) (by assumption) ?rest6
              case hy6 => (intro w hSw; (try dsimp only at hSw); go_simp; (try (with_reducible rfl)))
              (try simp only [zl4, zl2, zl3, Act.put, zl1, zl5, zl6])
              refine wpAnyH_take (i := 15) (v := ?v7) rfl (by kernel_rfl) (by kernel_rfl) (by kernel_rfl) (fun _ _ _ h => h) (Or.inl ⟨by rfl, ?hy7⟩) (by assumption) ?rest7
              case hy7 => (intro w hSw; (try dsimp only at hSw); go_simp; (try (with_reducible rfl)))
              (try simp only [zl4, zl2, zl3, Act.put, zl1, zl5, zl6])
              refine wpAnyH_take (i := 16) (v := undef) rfl (by kernel_rfl) (by kernel_rfl) (by kernel_rfl) (fun _ _ _ h => h) (Or.inr ⟨by rfl, rfl⟩) (by assumption) ?_
              (try simp only [zl4, zl2, zl3, Act.put, zl1, zl5, zl6])
              refine wpAnyH_take (i := 17) (v := undef) rfl (by kernel_rfl) (by kernel_rfl) (by kernel_rfl) (fun _ _ _ h => h) (Or.inr ⟨by rfl, rfl⟩) (by assumption) ?_
              (try simp only [zl4, zl2, zl3, Act.put, zl1, zl5, zl6])
              refine wpAnyH_take (i := 18) (v := undef) rfl (by kernel_rfl) (by kernel_rfl) (by kernel_rfl) (fun _ _ _ h => h) (Or.inr ⟨by rfl, rfl⟩) (by assumption) ?_
              (try simp only [zl4, zl2, zl3, Act.put, zl1, zl5, zl6])
              refine wpAnyH_take (i := 19) (v := undef) rfl (by kernel_rfl) (by kernel_rfl) (by kernel_rfl) (fun _ _ _ h => h) (Or.inr ⟨by rfl, rfl⟩) (by assumption) ?_
              (try simp only [zl4, zl2, zl3, Act.put, zl1, zl5, zl6])
              refine wpAnyH_take (i := 20) (v := undef) rfl (by kernel_rfl) (by kernel_rfl) (by kernel_rfl) (fun _ _ _ h => h) (Or.inr ⟨by rfl, rfl⟩) (by assumption) ?_
              (try simp only [zl4, zl2, zl3, Act.put, zl1, zl5, zl6])
              refine wpAnyH_take (i := 21) (v := undef) rfl (by kernel_rfl) (by kernel_rfl) (by kernel_rfl) (fun _ _ _ h => h) (Or.inr ⟨by rfl, rfl⟩) (by assumption) ?_
              (try simp only [zl4, zl2, zl3, Act.put, zl1, zl5, zl6])
              refine wpAnyH_take (i := 22) (v := undef) rfl (by kernel_rfl) (by kernel_rfl) (by kernel_rfl) (fun _ _ _ h => h) (Or.inr ⟨by rfl, rfl⟩) (by assumption) ?_
              (try simp only [zl4, zl2, zl3, Act.put, zl1, zl5, zl6])
              refine wpAnyH_take (i := 23) (v := undef) rfl (by kernel_rfl) (by kernel_rfl) (by kernel_rfl) (fun _ _ _ h => h) (Or.inr ⟨by rfl, rfl⟩) (by assumption) ?_
              (try simp only [zl4, zl2, zl3, Act.put, zl1, zl5, zl6])
              refine wpAnyH_take (i := 24) (v := undef) rfl (by kernel_rfl) (by kernel_rfl) (by kernel_rfl) (fun _ _ _ h => h) (Or.inr ⟨by rfl, rfl⟩) (by assumption) ?_
              (try simp only [zl4, zl2, zl3, Act.put, zl1, zl5, zl6])
              refine wpAnyH_take (i := 25) (v := undef) rfl (by kernel_rfl) (by kernel_rfl) (by kernel_rfl) (fun _ _ _ h => h) (Or.inr ⟨by rfl, rfl⟩) (by assumption) ?_
              (try simp only [zl4, zl2, zl3, Act.put, zl1, zl5, zl6])
              refine wpAnyH_take (i := 26) (v := undef) rfl (by kernel_rfl) (by kernel_rfl) (by kernel_rfl) (fun _ _ _ h => h) (Or.inr ⟨by rfl, rfl⟩) (by assumption) ?_
              (try simp only [zl4, zl2, zl3, Act.put, zl1, zl5, zl6])
              refine wpAnyH_take (i := 27) (v := undef) rfl (by kernel_rfl) (by kernel_rfl) (by kernel_rfl) (fun _ _ _ h => h) (Or.inr ⟨by rfl, rfl⟩) (by assumption) ?_
              (try simp only [zl4, zl2, zl3, Act.put, zl1, zl5, zl6])
              refine wpAnyH_take (i := 28) (v := ?v8) rfl (by kernel_rfl) (by kernel_rfl) (by kernel_rfl) (fun _ _ _ h => h) (Or.inl ⟨by rfl, ?hy8⟩) (by assumption) ?rest8
              case hy8 => (intro w hSw; (try dsimp only at hSw); go_simp; (try (with_reducible rfl)))
              (try simp only [zl4, zl2, zl3, Act.put, zl1, zl5, zl6])
              refine wpAnyH_done (by kernel_rfl) ?_ _
              go_wp2_with (fail)
              go_ret; exact ⟨by rw [HF.out]; try rfl, by first | exact HB.out | exact HB.out.drew | exact pw_below_drewN HB.out _ | exact (pw_below_drewN HB.out _).drew | exact HB.out.drew.drew⟩
            cases e2
            case true =>
              have HF := zA (HR.out.trans (HX.out.trans (show _ = false by simp)))
              refine wp_region_held_drew (S := fun w' => (w'.cell? ⟨g9, 0, none⟩ = some (.string k0) ∧ w'.cell? ⟨g9, 1, none⟩ = some (.string k1) ∧ w'.cell? ⟨g9, 2, none⟩ = some (.int .i64 k2) ∧ w'.cell? ⟨g9, 3, none⟩ = some (.bool k3)) ∧ (Instr.lookup 76 (.map (some gm)) (.int .i64 k2) false).run Try.prog w' = .ok (.bool true) w') (by kernel_rfl) ⟨keep4 (blk_drew B3.out), m2.out ▸ SetM.look (HM.out.drew) hwf⟩ (fun hHeld => ?_)
              refine wpAnyH_take (i := 0) (v := ?v9) rfl (by kernel_rfl) (by kernel_rfl) (by kernel_rfl) (fun _ _ _ h => h) (Or.inl ⟨by rfl, ?hy9⟩) (by assumption) ?rest9
              case hy9 => (intro w hSw; (try dsimp only at hSw); go_simp; (try (with_reducible rfl)))
              (try simp only [zl4, zl2, zl3, Act.put, zl1, zl5, zl6])
              refine wpAnyH_ready (rs := [1]) (by kernel_rfl) (by simp) ?_
              refine AllReadyH.cons rfl (fun K hK => ?_) AllReadyH.nil
              (try simp only [zl4, zl2, zl3])
              go_simp
              go_at_call 59; refine (call_cellOk k0 k1 k2 k3 _ _ hr).mono ?_; rintro e w' ⟨rfl, hb⟩; replace B3 := zA (blk_below (blk_drew B3.out) hb); replace HM := zA (SetM.below (HM.out.drew) hb); replace HO := zA (Kd.R_below (R_drew HO.out) hb); replace HB := zA (bel (HB.out.drew) hb); clear hb hx0 hx1 hx2 hx3; have hx0 := (keep4 B3.out).1; have hx1 := (keep4 B3.out).2.1; have hx2 := (keep4 B3.out).2.2.1; have hx3 := (keep4 B3.out).2.2.2
              refine hK.out _ _ ⟨keep4 (B3.out), m2.out ▸ SetM.look (HM.out) hwf⟩ (fun hHeld => ?_)
              clear hK K
              (try simp only [zl4, zl2, zl3, Act.put, zl1, zl5, zl6])
              refine wpAnyH_take (i := 2) (v := ?v10) rfl (by kernel_rfl) (by kernel_rfl) (by kernel_rfl) (fun _ _ _ h => h) (Or.inl ⟨by rfl, ?hy10⟩) (by assumption) ?rest10
              case hy10 => (intro w hSw; (try dsimp only at hSw); go_simp; (try (with_reducible rfl)))
              (try simp only [zl4, zl2, zl3, Act.put, zl1, zl5, zl6])
              refine wpAnyH_take (i := 3) (v := ?v11) rfl (by kernel_rfl) (by kernel_rfl) (by kernel_rfl) (fun _ _ _ h => h) (Or.inl ⟨by rfl, ?hy11⟩) (by assumption) ?rest11
              case hy11 => (intro w hSw; (try dsimp only at hSw); go_simp; (try (with_reducible rfl)))
              (try simp only [zl4, zl2, zl3, Act.put, zl1, zl5, zl6])
              refine wpAnyH_take (i := 4) (v := ?v12) rfl (by kernel_rfl) (by kernel_rfl) (by kernel_rfl) (fun _ _ _ h => h) (Or.inl ⟨by rfl, ?hy12⟩) (by assumption) ?rest12
              case hy12 => (intro w hSw; (try dsimp only at hSw); go_simp; (try (with_reducible rfl)))
              (try simp only [zl4, zl2, zl3, Act.put, zl1, zl5, zl6])
              refine wpAnyH_take (i := 5) (v := ?v13) rfl (by kernel_rfl) (by kernel_rfl) (by kernel_rfl) (fun _ _ _ h => h) (Or.inl ⟨by rfl, ?hy13⟩) (by assumption) ?rest13
              case hy13 => (intro w hSw; (try dsimp only at hSw); go_simp; (try (with_reducible rfl)))
              (try simp only [zl4, zl2, zl3, Act.put, zl1, zl5, zl6])
              refine wpAnyH_take (i := 6) (v := ?v14) rfl (by kernel_rfl) (by kernel_rfl) (by kernel_rfl) (fun _ _ _ h => h) (Or.inl ⟨by rfl, ?hy14⟩) (by assumption) ?rest14
              case hy14 => (intro w hSw; (try dsimp only at hSw); go_simp; (try (with_reducible rfl)))
              (try simp only [zl4, zl2, zl3, Act.put, zl1, zl5, zl6])
              refine wpAnyH_take (i := 7) (v := ?v15) rfl (by kernel_rfl) (by kernel_rfl) (by kernel_rfl) (fun _ _ _ h => h) (Or.inl ⟨by rfl, ?hy15⟩) (by assumption) ?rest15
              case hy15 => (intro w hSw; (try dsimp only at hSw); go_simp; (try (with_reducible rfl)))
              (try simp only [zl4, zl2, zl3, Act.put, zl1, zl5, zl6])
              refine wpAnyH_take (i := 8) (v := ?v16) rfl (by kernel_rfl) (by kernel_rfl) (by kernel_rfl) (fun _ _ _ h => h) (Or.inl ⟨by rfl, ?hy16⟩) (by assumption) ?rest16
              case hy16 => (intro w hSw; (try dsimp only at hSw); go_simp; (try (with_reducible rfl)))
              (try simp only [zl4, zl2, zl3, Act.put, zl1, zl5, zl6])
              refine wpAnyH_take (i := 9) (v := ?v17) rfl (by kernel_rfl) (by kernel_rfl) (by kernel_rfl) (fun _ _ _ h => h) (Or.inl ⟨by rfl, ?hy17⟩) (by assumption) ?rest17
              case hy17 => (intro w hSw; (try dsimp only at hSw); go_simp; (try (with_reducible rfl)))
              (try simp only [zl4, zl2, zl3, Act.put, zl1, zl5, zl6])
              refine wpAnyH_take (i := 10) (v := undef) rfl (by kernel_rfl) (by kernel_rfl) (by kernel_rfl) (fun _ _ _ h => h) (Or.inr ⟨by rfl, rfl⟩) (by assumption) ?_
              (try simp only [zl4, zl2, zl3, Act.put, zl1, zl5, zl6])
              refine wpAnyH_take (i := 11) (v := undef) rfl (by kernel_rfl) (by kernel_rfl) (by kernel_rfl) (fun _ _ _ h => h) (Or.inr ⟨by rfl, rfl⟩) (by assumption) ?_
              (try simp only [zl4, zl2, zl3, Act.put, zl1, zl5, zl6])
              refine wpAnyH_take (i := 12) (v := undef) rfl (by kernel_rfl) (by kernel_rfl) (by kernel_rfl) (fun _ _ _ h => h) (Or.inr ⟨by rfl, rfl⟩) (by assumption) ?_
              (try simp only [zl4, zl2, zl3, Act.put, zl1, zl5, zl6])
              refine wpAnyH_take (i := 13) (v := undef) rfl (by kernel_rfl) (by kernel_rfl) (by kernel_rfl) (fun _ _ _ h => h) (Or.inr ⟨by rfl, rfl⟩) (by assumption) ?_
              (try simp only [zl4, zl2, zl3, Act.put, zl1, zl5, zl6])
              refine wpAnyH_take (i := 14) (v := ?v18) rfl (by kernel_rfl) (by kernel_rfl) (by kernel_rfl) (fun _ _ _ h => h) (Or.inl ⟨by rfl, ?hy18⟩) (by assumption) ?rest18
              case hy18 => (intro w hSw; (try dsimp only at hSw); go_simp; (try (with_reducible rfl)))
              (try simp only [zl4, zl2, zl3, Act.put, zl1, zl5, zl6])
              refine wpAnyH_take (i := 15) (v := ?v19) rfl (by kernel_rfl) (by kernel_rfl) (by kernel_rfl) (fun _ _ _ h => h) (Or.inl ⟨by rfl, ?hy19⟩) (by assumption) ?rest19
              case hy19 => (intro w hSw; (try dsimp only at hSw); go_simp; (try (with_reducible rfl)))
              (try simp only [zl4, zl2, zl3, Act.put, zl1, zl5, zl6])
              refine wpAnyH_take (i := 16) (v := undef) rfl (by kernel_rfl) (by kernel_rfl) (by kernel_rfl) (fun _ _ _ h => h) (Or.inr ⟨by rfl, rfl⟩) (by assumption) ?_
              (try simp only [zl4, zl2, zl3, Act.put, zl1, zl5, zl6])
              refine wpAnyH_take (i := 17) (v := undef) rfl (by kernel_rfl) (by kernel_rfl) (by kernel_rfl) (fun _ _ _ h => h) (Or.inr ⟨by rfl, rfl⟩) (by assumption) ?_
              (try simp only [zl4, zl2, zl3, Act.put, zl1, zl5, zl6])
              refine wpAnyH_take (i := 18) (v := undef) rfl (by kernel_rfl) (by kernel_rfl) (by kernel_rfl) (fun _ _ _ h => h) (Or.inr ⟨by rfl, rfl⟩) (by assumption) ?_
              (try simp only [zl4, zl2, zl3, Act.put, zl1, zl5, zl6])
              refine wpAnyH_take (i := 19) (v := undef) rfl (by kernel_rfl) (by kernel_rfl) (by kernel_rfl) (fun _ _ _ h => h) (Or.inr ⟨by rfl, rfl⟩) (by assumption) ?_
              (try simp only [zl4, zl2, zl3, Act.put, zl1, zl5, zl6])
              refine wpAnyH_take (i := 20) (v := undef) rfl (by kernel_rfl) (by kernel_rfl) (by kernel_rfl) (fun _ _ _ h => h) (Or.inr ⟨by rfl, rfl⟩) (by assumption) ?_
              (try simp only [zl4, zl2, zl3, Act.put, zl1, zl5, zl6])
              refine wpAnyH_take (i := 21) (v := undef) rfl (by kernel_rfl) (by kernel_rfl) (by kernel_rfl) (fun _ _ _ h => h) (Or.inr ⟨by rfl, rfl⟩) (by assumption) ?_
              (try simp only [zl4, zl2, zl3, Act.put, zl1, zl5, zl6])
              refine wpAnyH_take (i := 22) (v := undef) rfl (by kernel_rfl) (by kernel_rfl) (by kernel_rfl) (fun _ _ _ h => h) (Or.inr ⟨by rfl, rfl⟩) (by assumption) ?_
              (try simp only [zl4, zl2, zl3, Act.put, zl1, zl5, zl6])
              refine wpAnyH_take (i := 23) (v := undef) rfl (by kernel_rfl) (by kernel_rfl) (by kernel_rfl) (fun _ _ _ h => h) (Or.inr ⟨by rfl, rfl⟩) (by assumption) ?_
              (try simp only [zl4, zl2, zl3, Act.put, zl1, zl5, zl6])
              refine wpAnyH_take (i := 24) (v := undef) rfl (by kernel_rfl) (by kernel_rfl) (by kernel_rfl) (fun _ _ _ h => h) (Or.inr ⟨by rfl, rfl⟩) (by assumption) ?_
              (try simp only [zl4, zl2, zl3, Act.put, zl1, zl5, zl6])
              refine wpAnyH_take (i := 25) (v := undef) rfl (by kernel_rfl) (by kernel_rfl) (by kernel_rfl) (fun _ _ _ h => h) (Or.inr ⟨by rfl, rfl⟩) (by assumption) ?_
              (try simp only [zl4, zl2, zl3, Act.put, zl1, zl5, zl6])
              refine wpAnyH_take (i := 26) (v := undef) rfl (by kernel_rfl) (by kernel_rfl) (by kernel_rfl) (fun _ _ _ h => h) (Or.inr ⟨by rfl, rfl⟩) (by assumption) ?_
              (try simp only [zl4, zl2, zl3, Act.put, zl1, zl5, zl6])
              refine wpAnyH_take (i := 27) (v := undef) rfl (by kernel_rfl) (by kernel_rfl) (by kernel_rfl) (fun _ _ _ h => h) (Or.inr ⟨by rfl, rfl⟩) (by assumption) ?_
              (try simp only [zl4, zl2, zl3, Act.put, zl1, zl5, zl6])
              refine wpAnyH_take (i := 28) (v := ?v20) rfl (by kernel_rfl) (by kernel_rfl) (by kernel_rfl) (fun _ _ _ h => h) (Or.inl ⟨by rfl, ?hy20⟩) (by assumption) ?rest20
              case hy20 => (intro w hSw; (try dsimp only at hSw); go_simp; (try (with_reducible rfl)))
              (try simp only [zl4, zl2, zl3, Act.put, zl1, zl5, zl6])
              refine wpAnyH_done (by kernel_rfl) ?_ _
              go_wp2_with (fail)
              go_ret; exact ⟨by rw [HF.out]; try rfl, by first | exact HB.out | exact HB.out.drew | exact pw_below_drewN HB.out _ | exact (pw_below_drewN HB.out _).drew | exact HB.out.drew.drew⟩
            cases e3
            case true =>
              have HF := zA (HR.out.trans (HX.out.trans (show _ = false by simp)))
              refine wp_region_held_drew (S := fun w' => (w'.cell? ⟨g9, 0, none⟩ = some (.string k0) ∧ w'.cell? ⟨g9, 1, none⟩ = some (.string k1) ∧ w'.cell? ⟨g9, 2, none⟩ = some (.int .i64 k2) ∧ w'.cell? ⟨g9, 3, none⟩ = some (.bool k3)) ∧ (Instr.lookup 76 (.map (some gm)) (.int .i64 k2) false).run Try.prog w' = .ok (.bool false) w') (by kernel_rfl) ⟨keep4 (blk_drew B3.out), m2.out ▸ SetM.look (HM.out.drew) hwf⟩ (fun hHeld => ?_)
              refine wpAnyH_take (i := 0) (v := ?v21) rfl (by kernel_rfl) (by kernel_rfl) (by kernel_rfl) (fun _ _ _ h => h) (Or.inl ⟨by rfl, ?hy21⟩) (by assumption) ?rest21
              case hy21 => (intro w hSw; (try dsimp only at hSw); go_simp; (try (with_reducible rfl)))
              (try simp only [zl4, zl2, zl3, Act.put, zl1, zl5, zl6])
              refine wpAnyH_ready (rs := [1]) (by kernel_rfl) (by simp) ?_
              refine AllReadyH.cons rfl (fun K hK => ?_) AllReadyH.nil
              (try simp only [zl4, zl2, zl3])
              go_simp
              go_at_call 59; refine (call_cellOk k0 k1 k2 k3 _ _ hr).mono ?_; rintro e w' ⟨rfl, hb⟩; replace B3 := zA (blk_below (blk_drew B3.out) hb); replace HM := zA (SetM.below (HM.out.drew) hb); replace HO := zA (Kd.R_below (R_drew HO.out) hb); replace HB := zA (bel (HB.out.drew) hb); clear hb hx0 hx1 hx2 hx3; have hx0 := (keep4 B3.out).1; have hx1 := (keep4 B3.out).2.1; have hx2 := (keep4 B3.out).2.2.1; have hx3 := (keep4 B3.out).2.2.2
              refine hK.out _ _ ⟨keep4 (B3.out), m2.out ▸ SetM.look (HM.out) hwf⟩ (fun hHeld => ?_)
              clear hK K
              (try simp only [zl4, zl2, zl3, Act.put, zl1, zl5, zl6])
              refine wpAnyH_take (i := 2) (v := ?v22) rfl (by kernel_rfl) (by kernel_rfl) (by kernel_rfl) (fun _ _ _ h => h) (Or.inl ⟨by rfl, ?hy22⟩) (by assumption) ?rest22
              case hy22 => (intro w hSw; (try dsimp only at hSw); go_simp; (try (with_reducible rfl)))
              (try simp only [zl4, zl2, zl3, Act.put, zl1, zl5, zl6])
              refine wpAnyH_take (i := 3) (v := ?v23) rfl (by kernel_rfl) (by kernel_rfl) (by kernel_rfl) (fun _ _ _ h => h) (Or.inl ⟨by rfl, ?hy23⟩) (by assumption) ?rest23
              case hy23 => (intro w hSw; (try dsimp only at hSw); go_simp; (try (with_reducible rfl)))
              (try simp only [zl4, zl2, zl3, Act.put, zl1, zl5, zl6])
              refine wpAnyH_take (i := 4) (v := ?v24) rfl (by kernel_rfl) (by kernel_rfl) (by kernel_rfl) (fun _ _ _ h => h) (Or.inl ⟨by rfl, ?hy24⟩) (by assumption) ?rest24
              case hy24 => (intro w hSw; (try dsimp only at hSw); go_simp; (try (with_reducible rfl)))
              (try simp only [zl4, zl2, zl3, Act.put, zl1, zl5, zl6])
              refine wpAnyH_take (i := 5) (v := ?v25) rfl (by kernel_rfl) (by kernel_rfl) (by kernel_rfl) (fun _ _ _ h => h) (Or.inl ⟨by rfl, ?hy25⟩) (by assumption) ?rest25
              case hy25 => (intro w hSw; (try dsimp only at hSw); go_simp; (try (with_reducible rfl)))
              (try simp only [zl4, zl2, zl3, Act.put, zl1, zl5, zl6])
              refine wpAnyH_take (i := 6) (v := ?v26) rfl (by kernel_rfl) (by kernel_rfl) (by kernel_rfl) (fun _ _ _ h => h) (Or.inl ⟨by rfl, ?hy26⟩) (by assumption) ?rest26
              case hy26 => (intro w hSw; (try dsimp only at hSw); go_simp; (try (with_reducible rfl)))
              (try simp only [zl4, zl2, zl3, Act.put, zl1, zl5, zl6])
              refine wpAnyH_take (i := 7) (v := ?v27) rfl (by kernel_rfl) (by kernel_rfl) (by kernel_rfl) (fun _ _ _ h => h) (Or.inl ⟨by rfl, ?hy27⟩) (by assumption) ?rest27
              case hy27 => (intro w hSw; (try dsimp only at hSw); go_simp; (try (with_reducible rfl)))
              (try simp only [zl4, zl2, zl3, Act.put, zl1, zl5, zl6])
              refine wpAnyH_take (i := 8) (v := ?v28) rfl (by kernel_rfl) (by kernel_rfl) (by kernel_rfl) (fun _ _ _ h => h) (Or.inl ⟨by rfl, ?hy28⟩) (by assumption) ?rest28
              case hy28 => (intro w hSw; (try dsimp only at hSw); go_simp; (try (with_reducible rfl)))
              (try simp only [zl4, zl2, zl3, Act.put, zl1, zl5, zl6])
              refine wpAnyH_take (i := 9) (v := ?v29) rfl (by kernel_rfl) (by kernel_rfl) (by kernel_rfl) (fun _ _ _ h => h) (Or.inl ⟨by rfl, ?hy29⟩) (by assumption) ?rest29
              case hy29 => (intro w hSw; (try dsimp only at hSw); go_simp; (try (with_reducible rfl)))
              (try simp only [zl4, zl2, zl3, Act.put, zl1, zl5, zl6])
              refine wpAnyH_take (i := 10) (v := ?v30) rfl (by kernel_rfl) (by kernel_rfl) (by kernel_rfl) (fun _ _ _ h => h) (Or.inl ⟨by rfl, ?hy30⟩) (by assumption) ?rest30
              case hy30 => (intro w hSw; (try dsimp only at hSw); go_simp; (try (with_reducible rfl)))
              (try simp only [zl4, zl2, zl3, Act.put, zl1, zl5, zl6])
              refine wpAnyH_take (i := 11) (v := ?v31) rfl (by kernel_rfl) (by kernel_rfl) (by kernel_rfl) (fun _ _ _ h => h) (Or.inl ⟨by rfl, ?hy31⟩) (by assumption) ?rest31
              case hy31 => (intro w hSw; (try dsimp only at hSw); go_simp; (try (with_reducible rfl)))
              (try simp only [zl4, zl2, zl3, Act.put, zl1, zl5, zl6])
              refine wpAnyH_take (i := 12) (v := ?v32) rfl (by kernel_rfl) (by kernel_rfl) (by kernel_rfl) (fun _ _ _ h => h) (Or.inl ⟨by rfl, ?hy32⟩) (by assumption) ?rest32
              case hy32 => (intro w hSw; (try dsimp only at hSw); go_simp; (try (with_reducible rfl)))
              (try simp only [zl4, zl2, zl3, Act.put, zl1, zl5, zl6])
              refine wpAnyH_take (i := 13) (v := ?v33) rfl (by kernel_rfl) (by kernel_rfl) (by kernel_rfl) (fun _ _ _ h => h) (Or.inl ⟨by rfl, ?hy33⟩) (by assumption) ?rest33
              case hy33 => (intro w hSw; (try dsimp only at hSw); go_simp; (try (with_reducible rfl)))
              (try simp only [zl4, zl2, zl3, Act.put, zl1, zl5, zl6])
              refine wpAnyH_take (i := 14) (v := ?v34) rfl (by kernel_rfl) (by kernel_rfl) (by kernel_rfl) (fun _ _ _ h => h) (Or.inl ⟨by rfl, ?hy34⟩) (by assumption) ?rest34
              case hy34 => (intro w hSw; (try dsimp only at hSw); go_simp; (try (with_reducible rfl)))
              (try simp only [zl4, zl2, zl3, Act.put, zl1, zl5, zl6])
              refine wpAnyH_take (i := 15) (v := ?v35) rfl (by kernel_rfl) (by kernel_rfl) (by kernel_rfl) (fun _ _ _ h => h) (Or.inl ⟨by rfl, ?hy35⟩) (by assumption) ?rest35
              case hy35 => (intro w hSw; (try dsimp only at hSw); go_simp; (try (with_reducible rfl)))
              (try simp only [zl4, zl2, zl3, Act.put, zl1, zl5, zl6])
              refine wpAnyH_take (i := 16) (v := undef) rfl (by kernel_rfl) (by kernel_rfl) (by kernel_rfl) (fun _ _ _ h => h) (Or.inr ⟨by rfl, rfl⟩) (by assumption) ?_
              (try simp only [zl4, zl2, zl3, Act.put, zl1, zl5, zl6])
              refine wpAnyH_take (i := 17) (v := undef) rfl (by kernel_rfl) (by kernel_rfl) (by kernel_rfl) (fun _ _ _ h => h) (Or.inr ⟨by rfl, rfl⟩) (by assumption) ?_
              (try simp only [zl4, zl2, zl3, Act.put, zl1, zl5, zl6])
              refine wpAnyH_take (i := 18) (v := undef) rfl (by kernel_rfl) (by kernel_rfl) (by kernel_rfl) (fun _ _ _ h => h) (Or.inr ⟨by rfl, rfl⟩) (by assumption) ?_
              (try simp only [zl4, zl2, zl3, Act.put, zl1, zl5, zl6])
              refine wpAnyH_take (i := 19) (v := undef) rfl (by kernel_rfl) (by kernel_rfl) (by kernel_rfl) (fun _ _ _ h => h) (Or.inr ⟨by rfl, rfl⟩) (by assumption) ?_
              (try simp only [zl4, zl2, zl3, Act.put, zl1, zl5, zl6])
              refine wpAnyH_take (i := 20) (v := undef) rfl (by kernel_rfl) (by kernel_rfl) (by kernel_rfl) (fun _ _ _ h => h) (Or.inr ⟨by rfl, rfl⟩) (by assumption) ?_
              (try simp only [zl4, zl2, zl3, Act.put, zl1, zl5, zl6])
              refine wpAnyH_take (i := 21) (v := undef) rfl (by kernel_rfl) (by kernel_rfl) (by kernel_rfl) (fun _ _ _ h => h) (Or.inr ⟨by rfl, rfl⟩) (by assumption) ?_
              (try simp only [zl4, zl2, zl3, Act.put, zl1, zl5, zl6])
              refine wpAnyH_take (i := 22) (v := undef) rfl (by kernel_rfl) (by kernel_rfl) (by kernel_rfl) (fun _ _ _ h => h) (Or.inr ⟨by rfl, rfl⟩) (by assumption) ?_
              (try simp only [zl4, zl2, zl3, Act.put, zl1, zl5, zl6])
              refine wpAnyH_take (i := 23) (v := undef) rfl (by kernel_rfl) (by kernel_rfl) (by kernel_rfl) (fun _ _ _ h => h) (Or.inr ⟨by rfl, rfl⟩) (by assumption) ?_
              (try simp only [zl4, zl2, zl3, Act.put, zl1, zl5, zl6])
              refine wpAnyH_take (i := 24) (v := undef) rfl (by kernel_rfl) (by kernel_rfl) (by kernel_rfl) (fun _ _ _ h => h) (Or.inr ⟨by rfl, rfl⟩) (by assumption) ?_
              (try simp only [zl4, zl2, zl3, Act.put, zl1, zl5, zl6])
              refine wpAnyH_take (i := 25) (v := undef) rfl (by kernel_rfl) (by kernel_rfl) (by kernel_rfl) (fun _ _ _ h => h) (Or.inr ⟨by rfl, rfl⟩) (by assumption) ?_
              (try simp only [zl4, zl2, zl3, Act.put, zl1, zl5, zl6])
              refine wpAnyH_take (i := 26) (v := undef) rfl (by kernel_rfl) (by kernel_rfl) (by kernel_rfl) (fun _ _ _ h => h) (Or.inr ⟨by rfl, rfl⟩) (by assumption) ?_
              (try simp only [zl4, zl2, zl3, Act.put, zl1, zl5, zl6])
              refine wpAnyH_take (i := 27) (v := undef) rfl (by kernel_rfl) (by kernel_rfl) (by kernel_rfl) (fun _ _ _ h => h) (Or.inr ⟨by rfl, rfl⟩) (by assumption) ?_
              (try simp only [zl4, zl2, zl3, Act.put, zl1, zl5, zl6])
              refine wpAnyH_take (i := 28) (v := ?v36) rfl (by kernel_rfl) (by kernel_rfl) (by kernel_rfl) (fun _ _ _ h => h) (Or.inl ⟨by rfl, ?hy36⟩) (by assumption) ?rest36
              case hy36 => (intro w hSw; (try dsimp only at hSw); go_simp; (try (with_reducible rfl)))
              (try simp only [zl4, zl2, zl3, Act.put, zl1, zl5, zl6])
              refine wpAnyH_done (by kernel_rfl) ?_ _
              go_wp2_with (fail)
              go_ret; exact ⟨by rw [HF.out]; try rfl, by first | exact HB.out | exact HB.out.drew | exact pw_below_drewN HB.out _ | exact (pw_below_drewN HB.out _).drew | exact HB.out.drew.drew⟩
            have hP : Aside0 (∀ i c0 c1 c2 c3, k + 1 = i + 1 → (hi : i < y.length) → y[i] = (⟨c0, c1, c2, c3⟩ : Cel) → 1 ≤ c2 ∧ c2 ≤ 400) := ⟨fun i _ _ _ _ h hi e => by
              have hik : i = k := by omega
              subst hik
              have h2 := hye.out.symm.trans e
              injection h2 with _ _ h3 _
              rw [← h3]
              exact cell_in hr⟩
            have HX2 : Aside0 (restC l (k2 :: S) (if k2 < b then k2 else b) (prc y (k + 1)) (y.drop (k + 1)) (X.drop (j + 1)) = R) := ⟨HX.out.symm ▸ (by simp)⟩
            refine wp_region_held_drew (S := fun w' => (w'.cell? ⟨g9, 0, none⟩ = some (.string k0) ∧ w'.cell? ⟨g9, 1, none⟩ = some (.string k1) ∧ w'.cell? ⟨g9, 2, none⟩ = some (.int .i64 k2) ∧ w'.cell? ⟨g9, 3, none⟩ = some (.bool k3)) ∧ (Instr.lookup 76 (.map (some gm)) (.int .i64 k2) false).run Try.prog w' = .ok (.bool false) w') (by kernel_rfl) ⟨keep4 (blk_drew B3.out), m2.out ▸ SetM.look (HM.out.drew) hwf⟩ (fun hHeld => ?_)
            refine wpAnyH_take (i := 0) (v := ?v37) rfl (by kernel_rfl) (by kernel_rfl) (by kernel_rfl) (fun _ _ _ h => h) (Or.inl ⟨by rfl, ?hy37⟩) (by assumption) ?rest37
            case hy37 => (intro w hSw; (try dsimp only at hSw); go_simp; (try (with_reducible rfl)))
            (try simp only [zl4, zl2, zl3, Act.put, zl1, zl5, zl6])
            refine wpAnyH_ready (rs := [1]) (by kernel_rfl) (by simp) ?_
            refine AllReadyH.cons rfl (fun K hK => ?_) AllReadyH.nil
            (try simp only [zl4, zl2, zl3])
            go_simp
            go_at_call 59; refine (call_cellOk k0 k1 k2 k3 _ _ hr).mono ?_; rintro e w' ⟨rfl, hb⟩; replace B3 := zA (blk_below (blk_drew B3.out) hb); replace HM := zA (SetM.below (HM.out.drew) hb); replace HO := zA (Kd.R_below (R_drew HO.out) hb); replace HB := zA (bel (HB.out.drew) hb); clear hb hx0 hx1 hx2 hx3; have hx0 := (keep4 B3.out).1; have hx1 := (keep4 B3.out).2.1; have hx2 := (keep4 B3.out).2.2.1; have hx3 := (keep4 B3.out).2.2.2
            refine hK.out _ _ ⟨keep4 (B3.out), m2.out ▸ SetM.look (HM.out) hwf⟩ (fun hHeld => ?_)
            clear hK K
            (try simp only [zl4, zl2, zl3, Act.put, zl1, zl5, zl6])
            refine wpAnyH_take (i := 2) (v := ?v38) rfl (by kernel_rfl) (by kernel_rfl) (by kernel_rfl) (fun _ _ _ h => h) (Or.inl ⟨by rfl, ?hy38⟩) (by assumption) ?rest38
            case hy38 => (intro w hSw; (try dsimp only at hSw); go_simp; (try (with_reducible rfl)))
            (try simp only [zl4, zl2, zl3, Act.put, zl1, zl5, zl6])
            refine wpAnyH_take (i := 3) (v := ?v39) rfl (by kernel_rfl) (by kernel_rfl) (by kernel_rfl) (fun _ _ _ h => h) (Or.inl ⟨by rfl, ?hy39⟩) (by assumption) ?rest39
            case hy39 => (intro w hSw; (try dsimp only at hSw); go_simp; (try (with_reducible rfl)))
            (try simp only [zl4, zl2, zl3, Act.put, zl1, zl5, zl6])
            refine wpAnyH_take (i := 4) (v := ?v40) rfl (by kernel_rfl) (by kernel_rfl) (by kernel_rfl) (fun _ _ _ h => h) (Or.inl ⟨by rfl, ?hy40⟩) (by assumption) ?rest40
            case hy40 => (intro w hSw; (try dsimp only at hSw); go_simp; (try (with_reducible rfl)))
            (try simp only [zl4, zl2, zl3, Act.put, zl1, zl5, zl6])
            refine wpAnyH_take (i := 5) (v := ?v41) rfl (by kernel_rfl) (by kernel_rfl) (by kernel_rfl) (fun _ _ _ h => h) (Or.inl ⟨by rfl, ?hy41⟩) (by assumption) ?rest41
            case hy41 => (intro w hSw; (try dsimp only at hSw); go_simp; (try (with_reducible rfl)))
            (try simp only [zl4, zl2, zl3, Act.put, zl1, zl5, zl6])
            refine wpAnyH_take (i := 6) (v := ?v42) rfl (by kernel_rfl) (by kernel_rfl) (by kernel_rfl) (fun _ _ _ h => h) (Or.inl ⟨by rfl, ?hy42⟩) (by assumption) ?rest42
            case hy42 => (intro w hSw; (try dsimp only at hSw); go_simp; (try (with_reducible rfl)))
            (try simp only [zl4, zl2, zl3, Act.put, zl1, zl5, zl6])
            refine wpAnyH_take (i := 7) (v := ?v43) rfl (by kernel_rfl) (by kernel_rfl) (by kernel_rfl) (fun _ _ _ h => h) (Or.inl ⟨by rfl, ?hy43⟩) (by assumption) ?rest43
            case hy43 => (intro w hSw; (try dsimp only at hSw); go_simp; (try (with_reducible rfl)))
            (try simp only [zl4, zl2, zl3, Act.put, zl1, zl5, zl6])
            refine wpAnyH_take (i := 8) (v := ?v44) rfl (by kernel_rfl) (by kernel_rfl) (by kernel_rfl) (fun _ _ _ h => h) (Or.inl ⟨by rfl, ?hy44⟩) (by assumption) ?rest44
            case hy44 => (intro w hSw; (try dsimp only at hSw); go_simp; (try (with_reducible rfl)))
            (try simp only [zl4, zl2, zl3, Act.put, zl1, zl5, zl6])
            refine wpAnyH_take (i := 9) (v := ?v45) rfl (by kernel_rfl) (by kernel_rfl) (by kernel_rfl) (fun _ _ _ h => h) (Or.inl ⟨by rfl, ?hy45⟩) (by assumption) ?rest45
            case hy45 => (intro w hSw; (try dsimp only at hSw); go_simp; (try (with_reducible rfl)))
            (try simp only [zl4, zl2, zl3, Act.put, zl1, zl5, zl6])
            refine wpAnyH_take (i := 10) (v := ?v46) rfl (by kernel_rfl) (by kernel_rfl) (by kernel_rfl) (fun _ _ _ h => h) (Or.inl ⟨by rfl, ?hy46⟩) (by assumption) ?rest46
            case hy46 => (intro w hSw; (try dsimp only at hSw); go_simp; (try (with_reducible rfl)))
            (try simp only [zl4, zl2, zl3, Act.put, zl1, zl5, zl6])
            refine wpAnyH_take (i := 11) (v := ?v47) rfl (by kernel_rfl) (by kernel_rfl) (by kernel_rfl) (fun _ _ _ h => h) (Or.inl ⟨by rfl, ?hy47⟩) (by assumption) ?rest47
            case hy47 => (intro w hSw; (try dsimp only at hSw); go_simp; (try (with_reducible rfl)))
            (try simp only [zl4, zl2, zl3, Act.put, zl1, zl5, zl6])
            refine wpAnyH_take (i := 12) (v := ?v48) rfl (by kernel_rfl) (by kernel_rfl) (by kernel_rfl) (fun _ _ _ h => h) (Or.inl ⟨by rfl, ?hy48⟩) (by assumption) ?rest48
            case hy48 => (intro w hSw; (try dsimp only at hSw); go_simp; (try (with_reducible rfl)))
            (try simp only [zl4, zl2, zl3, Act.put, zl1, zl5, zl6])
            refine wpAnyH_take (i := 13) (v := ?v49) rfl (by kernel_rfl) (by kernel_rfl) (by kernel_rfl) (fun _ _ _ h => h) (Or.inl ⟨by rfl, ?hy49⟩) (by assumption) ?rest49
            case hy49 => (intro w hSw; (try dsimp only at hSw); go_simp; (try (with_reducible rfl)))
            (try simp only [zl4, zl2, zl3, Act.put, zl1, zl5, zl6])
            refine wpAnyH_take (i := 14) (v := ?v50) rfl (by kernel_rfl) (by kernel_rfl) (by kernel_rfl) (fun _ _ _ h => h) (Or.inl ⟨by rfl, ?hy50⟩) (by assumption) ?rest50
            case hy50 => (intro w hSw; (try dsimp only at hSw); go_simp; (try (with_reducible rfl)))
            (try simp only [zl4, zl2, zl3, Act.put, zl1, zl5, zl6])
            refine wpAnyH_take (i := 15) (v := ?v51) rfl (by kernel_rfl) (by kernel_rfl) (by kernel_rfl) (fun _ _ _ h => h) (Or.inl ⟨by rfl, ?hy51⟩) (by assumption) ?rest51
            case hy51 => (intro w hSw; (try dsimp only at hSw); go_simp; (try (with_reducible rfl)))
            (try simp only [zl4, zl2, zl3, Act.put, zl1, zl5, zl6])
            refine wpAnyH_take (i := 16) (v := ?v52) rfl (by kernel_rfl) (by kernel_rfl) (by kernel_rfl) (fun _ _ _ h => h) (Or.inl ⟨by rfl, ?hy52⟩) (by assumption) ?rest52
            case hy52 => (intro w hSw; (try dsimp only at hSw); go_simp; (try (with_reducible rfl)))
            (try simp only [zl4, zl2, zl3, Act.put, zl1, zl5, zl6])
            refine wpAnyH_take (i := 17) (v := ?v53) rfl (by kernel_rfl) (by kernel_rfl) (by kernel_rfl) (fun _ _ _ h => h) (Or.inl ⟨by rfl, ?hy53⟩) (by assumption) ?rest53
            case hy53 => (intro w hSw; (try dsimp only at hSw); go_simp; (try (with_reducible rfl)))
            (try simp only [zl4, zl2, zl3, Act.put, zl1, zl5, zl6])
            refine wpAnyH_take (i := 18) (v := ?v54) rfl (by kernel_rfl) (by kernel_rfl) (by kernel_rfl) (fun _ _ _ h => h) (Or.inl ⟨by rfl, ?hy54⟩) (by assumption) ?rest54
            case hy54 => (intro w hSw; (try dsimp only at hSw); go_simp; (try (with_reducible rfl)))
            (try simp only [zl4, zl2, zl3, Act.put, zl1, zl5, zl6])
            refine wpAnyH_take (i := 19) (v := undef) rfl (by kernel_rfl) (by kernel_rfl) (by kernel_rfl) (fun _ _ _ h => h) (Or.inr ⟨by rfl, rfl⟩) (by assumption) ?_
            (try simp only [zl4, zl2, zl3, Act.put, zl1, zl5, zl6])
            refine wpAnyH_take (i := 20) (v := undef) rfl (by kernel_rfl) (by kernel_rfl) (by kernel_rfl) (fun _ _ _ h => h) (Or.inr ⟨by rfl, rfl⟩) (by assumption) ?_
            (try simp only [zl4, zl2, zl3, Act.put, zl1, zl5, zl6])
            refine wpAnyH_take (i := 21) (v := undef) rfl (by kernel_rfl) (by kernel_rfl) (by kernel_rfl) (fun _ _ _ h => h) (Or.inr ⟨by rfl, rfl⟩) (by assumption) ?_
            (try simp only [zl4, zl2, zl3, Act.put, zl1, zl5, zl6])
            refine wpAnyH_take (i := 22) (v := undef) rfl (by kernel_rfl) (by kernel_rfl) (by kernel_rfl) (fun _ _ _ h => h) (Or.inr ⟨by rfl, rfl⟩) (by assumption) ?_
            (try simp only [zl4, zl2, zl3, Act.put, zl1, zl5, zl6])
            refine wpAnyH_take (i := 23) (v := undef) rfl (by kernel_rfl) (by kernel_rfl) (by kernel_rfl) (fun _ _ _ h => h) (Or.inr ⟨by rfl, rfl⟩) (by assumption) ?_
            (try simp only [zl4, zl2, zl3, Act.put, zl1, zl5, zl6])
            refine wpAnyH_take (i := 24) (v := undef) rfl (by kernel_rfl) (by kernel_rfl) (by kernel_rfl) (fun _ _ _ h => h) (Or.inr ⟨by rfl, rfl⟩) (by assumption) ?_
            (try simp only [zl4, zl2, zl3, Act.put, zl1, zl5, zl6])
            refine wpAnyH_take (i := 25) (v := undef) rfl (by kernel_rfl) (by kernel_rfl) (by kernel_rfl) (fun _ _ _ h => h) (Or.inr ⟨by rfl, rfl⟩) (by assumption) ?_
            (try simp only [zl4, zl2, zl3, Act.put, zl1, zl5, zl6])
            refine wpAnyH_take (i := 26) (v := undef) rfl (by kernel_rfl) (by kernel_rfl) (by kernel_rfl) (fun _ _ _ h => h) (Or.inr ⟨by rfl, rfl⟩) (by assumption) ?_
            (try simp only [zl4, zl2, zl3, Act.put, zl1, zl5, zl6])
            refine wpAnyH_take (i := 27) (v := ?v55) rfl (by kernel_rfl) (by kernel_rfl) (by kernel_rfl) (fun _ _ _ h => h) (Or.inl ⟨by rfl, ?hy55⟩) (by assumption) ?rest55
            case hy55 => (intro w hSw; (try dsimp only at hSw); go_simp; (try (with_reducible rfl)))
            (try simp only [zl4, zl2, zl3, Act.put, zl1, zl5, zl6])
            refine wpAnyH_take (i := 28) (v := ?v56) rfl (by kernel_rfl) (by kernel_rfl) (by kernel_rfl) (fun _ _ _ h => h) (Or.inl ⟨by rfl, ?hy56⟩) (by assumption) ?rest56
            case hy56 => (intro w hSw; (try dsimp only at hSw); go_simp; (try (with_reducible rfl)))
            (try simp only [zl4, zl2, zl3, Act.put, zl1, zl5, zl6])
            refine wpAnyH_done (by kernel_rfl) ?_ _
            by_cases hq : k2 < b
            case pos =>
              rw [if_pos hq] at HX2
              go_wp2_with (at_mapUpdate; refine set_store rfl (.tmp 94) (.tmp 96) (.const (.bool true)) rfl gm S rfl (by first | exact HM.out | exact HM.out.drew | exact HM.out.drewN _) (by unfold maxLen; omega) k2 hwf rfl rfl ?_; intro w' hm' hg'; replace HM := zA hm'; replace HO := zA (Kd.R_grown (by first | exact HO.out) hg' (fun k (hk : k ≠ gm) h => hk (by injection h))); replace B3 := zA ((hg'.block g9 (blk_lt (by (with_reducible repeat (first | refine blk_drewN ?_ _ | refine blk_drew ?_)); exact B3.out)) (fun h => hne.out (by injection h))).trans (by (with_reducible repeat (first | refine blk_drewN ?_ _ | refine blk_drew ?_)); exact B3.out)); replace HB := zA (Below.grown (by first | exact HB.out | exact HB.out.drew | exact pw_below_drewN HB.out _ | exact (pw_below_drewN HB.out _).drew | exact HB.out.drew.drew) hg' (show Below w.heap.size w _ from (by first | exact HB.out | exact HB.out.drew | exact pw_below_drewN HB.out _ | exact (pw_below_drewN HB.out _).drew | exact HB.out.drew.drew)).size (fun k hk => by injection hk with hk; subst hk; exact hgm.out)); clear hm' hg' hx0 hx1 hx2 hx3; have hx0 := (keep4 B3.out).1; have hx1 := (keep4 B3.out).2.1; have hx2 := (keep4 B3.out).2.2.1; have hx3 := (keep4 B3.out).2.2.2)
              go_roundg (y.length - k)
              case measure => omega
              case rel => exact ⟨k + 1, k2 :: S, k2, ⟨by omega, by omega⟩, rfl, by go_num, by simp; omega, ⟨HX2.out, hP.out⟩, ⟨HM.out⟩, ⟨HO.out⟩, ⟨by first | exact HB.out | exact HB.out.drew | exact pw_below_drewN HB.out _ | exact (pw_below_drewN HB.out _).drew | exact HB.out.drew.drew⟩⟩
            case neg =>
              rw [if_neg hq] at HX2
              go_wp2_with (at_mapUpdate; refine set_store rfl (.tmp 94) (.tmp 96) (.const (.bool true)) rfl gm S rfl (by first | exact HM.out | exact HM.out.drew | exact HM.out.drewN _) (by unfold maxLen; omega) k2 hwf rfl rfl ?_; intro w' hm' hg'; replace HM := zA hm'; replace HO := zA (Kd.R_grown (by first | exact HO.out) hg' (fun k (hk : k ≠ gm) h => hk (by injection h))); replace B3 := zA ((hg'.block g9 (blk_lt (by (with_reducible repeat (first | refine blk_drewN ?_ _ | refine blk_drew ?_)); exact B3.out)) (fun h => hne.out (by injection h))).trans (by (with_reducible repeat (first | refine blk_drewN ?_ _ | refine blk_drew ?_)); exact B3.out)); replace HB := zA (Below.grown (by first | exact HB.out | exact HB.out.drew | exact pw_below_drewN HB.out _ | exact (pw_below_drewN HB.out _).drew | exact HB.out.drew.drew) hg' (show Below w.heap.size w _ from (by first | exact HB.out | exact HB.out.drew | exact pw_below_drewN HB.out _ | exact (pw_below_drewN HB.out _).drew | exact HB.out.drew.drew)).size (fun k hk => by injection hk with hk; subst hk; exact hgm.out)); clear hm' hg' hx0 hx1 hx2 hx3; have hx0 := (keep4 B3.out).1; have hx1 := (keep4 B3.out).2.1; have hx2 := (keep4 B3.out).2.2.1; have hx3 := (keep4 B3.out).2.2.2)
              go_roundg (y.length - k)
              case measure => omega
              case rel => exact ⟨k + 1, k2 :: S, b, ⟨by omega, by omega⟩, rfl, by go_num, by simp; omega, ⟨HX2.out, hP.out⟩, ⟨HM.out⟩, ⟨HO.out⟩, ⟨by first | exact HB.out | exact HB.out.drew | exact pw_below_drewN HB.out _ | exact (pw_below_drewN HB.out _).drew | exact HB.out.drew.drew⟩⟩
          case neg =>
            obtain ⟨i, hi⟩ : ∃ i : Nat, k = i + 1 := ⟨k - 1, by omega⟩
            have hit : i < y.length := by omega
            have wj : IntKind.i64.wrap ((k : Int) - 1) = (i : Int) := (i64_w _).trans (by unfold wrap64; omega)
            obtain ⟨⟨d0, d1, d2, d3⟩, hde⟩ : ∃ c : Cel, y[i] = c := ⟨_, rfl⟩
            have elemP : Aside0 (∀ w' : World, Below w.heap.size w w' → w'.cell? (ad2.add (i * 4)) = some (.string d0) ∧ w'.cell? ⟨(ad2.add (i * 4)).block, (ad2.add (i * 4)).off + 1, none⟩ = some (.string d1) ∧ w'.cell? ⟨(ad2.add (i * 4)).block, (ad2.add (i * 4)).off + 2, none⟩ = some (.int .i64 d2) ∧ w'.cell? ⟨(ad2.add (i * 4)).block, (ad2.add (i * 4)).off + 3, none⟩ = some (.bool d3)) := ⟨fun w' hb => by
              obtain ⟨ad3, ee, q0, q1, q2, q3⟩ := elemC HJ.out hb hit hde
              cases ee
              exact ⟨q0, q1, q2, q3⟩⟩
            obtain ⟨r4, hord⟩ : ∃ r : Int, ordI ⟨d0, d1, d2, d3⟩ ⟨k0, k1, k2, k3⟩ = r := ⟨_, rfl⟩
            obtain ⟨e4, m4⟩ : ∃ e4 : Bool, aheadB ⟨d0, d1, d2, d3⟩ ⟨k0, k1, k2, k3⟩ = e4 := ⟨_, rfl⟩
            have m5 : decide (0 ≤ r4) = !e4 := by rw [← hord, ← m4]; exact ord_ahead _ _
            have HX : Aside0 (R = (e1 && !e2 && !e3 && e4 && restC l (k2 :: S) (if k2 < b then k2 else b) (prc y (k + 1)) (y.drop (k + 1)) (X.drop (j + 1)))) := ⟨HX0k.out.symm.trans ((rest_at hi hkt hit hye.out hde).trans (by rw [hr, ← m2.out, ← m3, m4]))⟩
            have hd2 : 1 ≤ d2 ∧ d2 ≤ 400 := hprev0.out i _ _ _ _ hi hit hde
            clear hde m4
            replace hi := zA hi
            have q0 : decide (0 < (k : Int)) = true := decide_eq_true (by have := hi.out; omega)
            have q1 : decide (0 < k) = true := decide_eq_true (by have := hi.out; omega)
            have q2 : (0 : Int) < (k : Int) := by have := hi.out; omega
            have q3 : 0 < k := by have := hi.out; omega
            have q4 : (i : Int) < (y.length : Int) := by omega
            cases e1
            case false =>
              have HF := zA (HR.out.trans (HX.out.trans (show _ = false by simp)))
              refine wp_region_held_drew (S := fun w' => (w'.cell? ⟨g9, 0, none⟩ = some (.string k0) ∧ w'.cell? ⟨g9, 1, none⟩ = some (.string k1) ∧ w'.cell? ⟨g9, 2, none⟩ = some (.int .i64 k2) ∧ w'.cell? ⟨g9, 3, none⟩ = some (.bool k3)) ∧ (Instr.lookup 76 (.map (some gm)) (.int .i64 k2) false).run Try.prog w' = .ok (.bool e2) w') (by kernel_rfl) ⟨keep4 (blk_drew B3.out), m2.out ▸ SetM.look (HM.out.drew) hwf⟩ (fun hHeld => ?_)
              refine wpAnyH_take (i := 0) (v := ?v57) rfl (by kernel_rfl) (by kernel_rfl) (by kernel_rfl) (fun _ _ _ h => h) (Or.inl ⟨by rfl, ?hy57⟩) (by assumption) ?rest57
              case hy57 => (intro w hSw; (try dsimp only at hSw); go_simp; (try (with_reducible rfl)))
              (try simp only [zl4, zl2, zl3, Act.put, zl1, zl5, zl6])
              refine wpAnyH_ready (rs := [1]) (by kernel_rfl) (by simp) ?_
              refine AllReadyH.cons rfl (fun K hK => ?_) AllReadyH.nil
              (try simp only [zl4, zl2, zl3])
              go_simp
              go_at_call 59; refine (call_cellOk k0 k1 k2 k3 _ _ hr).mono ?_; rintro e w' ⟨rfl, hb⟩; replace B3 := zA (blk_below (blk_drew B3.out) hb); replace HM := zA (SetM.below (HM.out.drew) hb); replace HO := zA (Kd.R_below (R_drew HO.out) hb); replace HB := zA (bel (HB.out.drew) hb); clear hb hx0 hx1 hx2 hx3; have hx0 := (keep4 B3.out).1; have hx1 := (keep4 B3.out).2.1; have hx2 := (keep4 B3.out).2.2.1; have hx3 := (keep4 B3.out).2.2.2
              refine hK.out _ _ ⟨keep4 (B3.out), m2.out ▸ SetM.look (HM.out) hwf⟩ (fun hHeld => ?_)
              clear hK K
              (try simp only [zl4, zl2, zl3, Act.put, zl1, zl5, zl6])
              refine wpAnyH_take (i := 2) (v := ?v58) rfl (by kernel_rfl) (by kernel_rfl) (by kernel_rfl) (fun _ _ _ h => h) (Or.inl ⟨by rfl, ?hy58⟩) (by assumption) ?rest58
              case hy58 => (intro w hSw; (try dsimp only at hSw); go_simp; (try (with_reducible rfl)))
              (try simp only [zl4, zl2, zl3, Act.put, zl1, zl5, zl6])
              refine wpAnyH_take (i := 3) (v := ?v59) rfl (by kernel_rfl) (by kernel_rfl) (by kernel_rfl) (fun _ _ _ h => h) (Or.inl ⟨by rfl, ?hy59⟩) (by assumption) ?rest59
              case hy59 => (intro w hSw; (try dsimp only at hSw); go_simp; (try (with_reducible rfl)))
              (try simp only [zl4, zl2, zl3, Act.put, zl1, zl5, zl6])
              refine wpAnyH_take (i := 4) (v := undef) rfl (by kernel_rfl) (by kernel_rfl) (by kernel_rfl) (fun _ _ _ h => h) (Or.inr ⟨by rfl, rfl⟩) (by assumption) ?_
              (try simp only [zl4, zl2, zl3, Act.put, zl1, zl5, zl6])
              refine wpAnyH_take (i := 5) (v := undef) rfl (by kernel_rfl) (by kernel_rfl) (by kernel_rfl) (fun _ _ _ h => h) (Or.inr ⟨by rfl, rfl⟩) (by assumption) ?_
              (try simp only [zl4, zl2, zl3, Act.put, zl1, zl5, zl6])
              refine wpAnyH_take (i := 6) (v := undef) rfl (by kernel_rfl) (by kernel_rfl) (by kernel_rfl) (fun _ _ _ h => h) (Or.inr ⟨by rfl, rfl⟩) (by assumption) ?_
              (try simp only [zl4, zl2, zl3, Act.put, zl1, zl5, zl6])
              refine wpAnyH_take (i := 7) (v := undef) rfl (by kernel_rfl) (by kernel_rfl) (by kernel_rfl) (fun _ _ _ h => h) (Or.inr ⟨by rfl, rfl⟩) (by assumption) ?_
              (try simp only [zl4, zl2, zl3, Act.put, zl1, zl5, zl6])
              refine wpAnyH_take (i := 8) (v := ?v60) rfl (by kernel_rfl) (by kernel_rfl) (by kernel_rfl) (fun _ _ _ h => h) (Or.inl ⟨by rfl, ?hy60⟩) (by assumption) ?rest60
              case hy60 => (intro w hSw; (try dsimp only at hSw); go_simp; (try (with_reducible rfl)))
              (try simp only [zl4, zl2, zl3, Act.put, zl1, zl5, zl6])
              refine wpAnyH_take (i := 9) (v := ?v61) rfl (by kernel_rfl) (by kernel_rfl) (by kernel_rfl) (fun _ _ _ h => h) (Or.inl ⟨by rfl, ?hy61⟩) (by assumption) ?rest61
              case hy61 => (intro w hSw; (try dsimp only at hSw); go_simp; (try (with_reducible rfl)))
              (try simp only [zl4, zl2, zl3, Act.put, zl1, zl5, zl6])
              refine wpAnyH_take (i := 10) (v := undef) rfl (by kernel_rfl) (by kernel_rfl) (by kernel_rfl) (fun _ _ _ h => h) (Or.inr ⟨by rfl, rfl⟩) (by assumption) ?_
              (try simp only [zl4, zl2, zl3, Act.put, zl1, zl5, zl6])
              refine wpAnyH_take (i := 11) (v := undef) rfl (by kernel_rfl) (by kernel_rfl) (by kernel_rfl) (fun _ _ _ h => h) (Or.inr ⟨by rfl, rfl⟩) (by assumption) ?_
              (try simp only [zl4, zl2, zl3, Act.put, zl1, zl5, zl6])
              refine wpAnyH_take (i := 12) (v := undef) rfl (by kernel_rfl) (by kernel_rfl) (by kernel_rfl) (fun _ _ _ h => h) (Or.inr ⟨by rfl, rfl⟩) (by assumption) ?_
              (try simp only [zl4, zl2, zl3, Act.put, zl1, zl5, zl6])
              refine wpAnyH_take (i := 13) (v := undef) rfl (by kernel_rfl) (by kernel_rfl) (by kernel_rfl) (fun _ _ _ h => h) (Or.inr ⟨by rfl, rfl⟩) (by assumption) ?_
              (try simp only [zl4, zl2, zl3, Act.put, zl1, zl5, zl6])
              refine wpAnyH_take (i := 14) (v := ?v62) rfl (by kernel_rfl) (by kernel_rfl) (by kernel_rfl) (fun _ _ _ h => h) (Or.inl ⟨by rfl, ?hy62⟩) (by assumption) ?rest62
              case hy62 => (intro w hSw; (try dsimp only at hSw); go_simp; (try (with_reducible rfl)))
              (try simp only [zl4, zl2, zl3, Act.put, zl1, zl5, zl6])
              refine wpAnyH_take (i := 15) (v := ?v63) rfl (by kernel_rfl) (by kernel_rfl) (by kernel_rfl) (fun _ _ _ h => h) (Or.inl ⟨by rfl, ?hy63⟩) (by assumption) ?rest63
              case hy63 => (intro w hSw; (try dsimp only at hSw); go_simp; (try (with_reducible rfl)))
              (try simp only [zl4, zl2, zl3, Act.put, zl1, zl5, zl6])
              refine wpAnyH_take (i := 16) (v := undef) rfl (by kernel_rfl) (by kernel_rfl) (by kernel_rfl) (fun _ _ _ h => h) (Or.inr ⟨by rfl, rfl⟩) (by assumption) ?_
              (try simp only [zl4, zl2, zl3, Act.put, zl1, zl5, zl6])
              refine wpAnyH_take (i := 17) (v := undef) rfl (by kernel_rfl) (by kernel_rfl) (by kernel_rfl) (fun _ _ _ h => h) (Or.inr ⟨by rfl, rfl⟩) (by assumption) ?_
              (try simp only [zl4, zl2, zl3, Act.put, zl1, zl5, zl6])
              refine wpAnyH_take (i := 18) (v := undef) rfl (by kernel_rfl) (by kernel_rfl) (by kernel_rfl) (fun _ _ _ h => h) (Or.inr ⟨by rfl, rfl⟩) (by assumption) ?_
              (try simp only [zl4, zl2, zl3, Act.put, zl1, zl5, zl6])
              refine wpAnyH_take (i := 19) (v := undef) rfl (by kernel_rfl) (by kernel_rfl) (by kernel_rfl) (fun _ _ _ h => h) (Or.inr ⟨by rfl, rfl⟩) (by assumption) ?_
              (try simp only [zl4, zl2, zl3, Act.put, zl1, zl5, zl6])
              refine wpAnyH_take (i := 20) (v := undef) rfl (by kernel_rfl) (by kernel_rfl) (by kernel_rfl) (fun _ _ _ h => h) (Or.inr ⟨by rfl, rfl⟩) (by assumption) ?_
              (try simp only [zl4, zl2, zl3, Act.put, zl1, zl5, zl6])
              refine wpAnyH_take (i := 21) (v := undef) rfl (by kernel_rfl) (by kernel_rfl) (by kernel_rfl) (fun _ _ _ h => h) (Or.inr ⟨by rfl, rfl⟩) (by assumption) ?_
              (try simp only [zl4, zl2, zl3, Act.put, zl1, zl5, zl6])
              refine wpAnyH_take (i := 22) (v := undef) rfl (by kernel_rfl) (by kernel_rfl) (by kernel_rfl) (fun _ _ _ h => h) (Or.inr ⟨by rfl, rfl⟩) (by assumption) ?_
              (try simp only [zl4, zl2, zl3, Act.put, zl1, zl5, zl6])
              refine wpAnyH_take (i := 23) (v := undef) rfl (by kernel_rfl) (by kernel_rfl) (by kernel_rfl) (fun _ _ _ h => h) (Or.inr ⟨by rfl, rfl⟩) (by assumption) ?_
              (try simp only [zl4, zl2, zl3, Act.put, zl1, zl5, zl6])
              refine wpAnyH_take (i := 24) (v := undef) rfl (by kernel_rfl) (by kernel_rfl) (by kernel_rfl) (fun _ _ _ h => h) (Or.inr ⟨by rfl, rfl⟩) (by assumption) ?_
              (try simp only [zl4, zl2, zl3, Act.put, zl1, zl5, zl6])
              refine wpAnyH_take (i := 25) (v := undef) rfl (by kernel_rfl) (by kernel_rfl) (by kernel_rfl) (fun _ _ _ h => h) (Or.inr ⟨by rfl, rfl⟩) (by assumption) ?_
              (try simp only [zl4, zl2, zl3, Act.put, zl1, zl5, zl6])
              refine wpAnyH_take (i := 26) (v := undef) rfl (by kernel_rfl) (by kernel_rfl) (by kernel_rfl) (fun _ _ _ h => h) (Or.inr ⟨by rfl, rfl⟩) (by assumption) ?_
              (try simp only [zl4, zl2, zl3, Act.put, zl1, zl5, zl6])
              refine wpAnyH_take (i := 27) (v := undef) rfl (by kernel_rfl) (by kernel_rfl) (by kernel_rfl) (fun _ _ _ h => h) (Or.inr ⟨by rfl, rfl⟩) (by assumption) ?_
              (try simp only [zl4, zl2, zl3, Act.put, zl1, zl5, zl6])
              refine wpAnyH_take (i := 28) (v := ?v64) rfl (by kernel_rfl) (by kernel_rfl) (by kernel_rfl) (fun _ _ _ h => h) (Or.inl ⟨by rfl, ?hy64⟩) (by assumption) ?rest64
              case hy64 => (intro w hSw; (try dsimp only at hSw); go_simp; (try (with_reducible rfl)))
              (try simp only [zl4, zl2, zl3, Act.put, zl1, zl5, zl6])
              refine wpAnyH_done (by kernel_rfl) ?_ _
              go_wp2_with (fail)
              go_ret; exact ⟨by rw [HF.out]; try rfl, by first | exact HB.out | exact HB.out.drew | exact pw_below_drewN HB.out _ | exact (pw_below_drewN HB.out _).drew | exact HB.out.drew.drew⟩
            have hk2 : 1 ≤ k2 ∧ k2 ≤ 400 := cell_in hr
            cases e2
            case true =>
              have HF := zA (HR.out.trans (HX.out.trans (show _ = false by simp)))
              refine wp_region_held_drew (S := fun w' => (w'.cell? ⟨g9, 0, none⟩ = some (.string k0) ∧ w'.cell? ⟨g9, 1, none⟩ = some (.string k1) ∧ w'.cell? ⟨g9, 2, none⟩ = some (.int .i64 k2) ∧ w'.cell? ⟨g9, 3, none⟩ = some (.bool k3)) ∧ (Instr.lookup 76 (.map (some gm)) (.int .i64 k2) false).run Try.prog w' = .ok (.bool true) w') (by kernel_rfl) ⟨keep4 (blk_drew B3.out), m2.out ▸ SetM.look (HM.out.drew) hwf⟩ (fun hHeld => ?_)
              refine wpAnyH_take (i := 0) (v := ?v65) rfl (by kernel_rfl) (by kernel_rfl) (by kernel_rfl) (fun _ _ _ h => h) (Or.inl ⟨by rfl, ?hy65⟩) (by assumption) ?rest65
              case hy65 => (intro w hSw; (try dsimp only at hSw); go_simp; (try (with_reducible rfl)))
              (try simp only [zl4, zl2, zl3, Act.put, zl1, zl5, zl6])
              refine wpAnyH_ready (rs := [1]) (by kernel_rfl) (by simp) ?_
              refine AllReadyH.cons rfl (fun K hK => ?_) AllReadyH.nil
              (try simp only [zl4, zl2, zl3])
              go_simp
              go_at_call 59; refine (call_cellOk k0 k1 k2 k3 _ _ hr).mono ?_; rintro e w' ⟨rfl, hb⟩; replace B3 := zA (blk_below (blk_drew B3.out) hb); replace HM := zA (SetM.below (HM.out.drew) hb); replace HO := zA (Kd.R_below (R_drew HO.out) hb); replace HB := zA (bel (HB.out.drew) hb); clear hb hx0 hx1 hx2 hx3; have hx0 := (keep4 B3.out).1; have hx1 := (keep4 B3.out).2.1; have hx2 := (keep4 B3.out).2.2.1; have hx3 := (keep4 B3.out).2.2.2
              refine hK.out _ _ ⟨keep4 (B3.out), m2.out ▸ SetM.look (HM.out) hwf⟩ (fun hHeld => ?_)
              clear hK K
              (try simp only [zl4, zl2, zl3, Act.put, zl1, zl5, zl6])
              refine wpAnyH_take (i := 2) (v := ?v66) rfl (by kernel_rfl) (by kernel_rfl) (by kernel_rfl) (fun _ _ _ h => h) (Or.inl ⟨by rfl, ?hy66⟩) (by assumption) ?rest66
              case hy66 => (intro w hSw; (try dsimp only at hSw); go_simp; (try (with_reducible rfl)))
              (try simp only [zl4, zl2, zl3, Act.put, zl1, zl5, zl6])
              refine wpAnyH_take (i := 3) (v := ?v67) rfl (by kernel_rfl) (by kernel_rfl) (by kernel_rfl) (fun _ _ _ h => h) (Or.inl ⟨by rfl, ?hy67⟩) (by assumption) ?rest67
              case hy67 => (intro w hSw; (try dsimp only at hSw); go_simp; (try (with_reducible rfl)))
              (try simp only [zl4, zl2, zl3, Act.put, zl1, zl5, zl6])
              refine wpAnyH_take (i := 4) (v := ?v68) rfl (by kernel_rfl) (by kernel_rfl) (by kernel_rfl) (fun _ _ _ h => h) (Or.inl ⟨by rfl, ?hy68⟩) (by assumption) ?rest68
              case hy68 => (intro w hSw; (try dsimp only at hSw); go_simp; (try (with_reducible rfl)))
              (try simp only [zl4, zl2, zl3, Act.put, zl1, zl5, zl6])
              refine wpAnyH_take (i := 5) (v := ?v69) rfl (by kernel_rfl) (by kernel_rfl) (by kernel_rfl) (fun _ _ _ h => h) (Or.inl ⟨by rfl, ?hy69⟩) (by assumption) ?rest69
              case hy69 => (intro w hSw; (try dsimp only at hSw); go_simp; (try (with_reducible rfl)))
              (try simp only [zl4, zl2, zl3, Act.put, zl1, zl5, zl6])
              refine wpAnyH_take (i := 6) (v := ?v70) rfl (by kernel_rfl) (by kernel_rfl) (by kernel_rfl) (fun _ _ _ h => h) (Or.inl ⟨by rfl, ?hy70⟩) (by assumption) ?rest70
              case hy70 => (intro w hSw; (try dsimp only at hSw); go_simp; (try (with_reducible rfl)))
              (try simp only [zl4, zl2, zl3, Act.put, zl1, zl5, zl6])
              refine wpAnyH_take (i := 7) (v := ?v71) rfl (by kernel_rfl) (by kernel_rfl) (by kernel_rfl) (fun _ _ _ h => h) (Or.inl ⟨by rfl, ?hy71⟩) (by assumption) ?rest71
              case hy71 => (intro w hSw; (try dsimp only at hSw); go_simp; (try (with_reducible rfl)))
              (try simp only [zl4, zl2, zl3, Act.put, zl1, zl5, zl6])
              refine wpAnyH_take (i := 8) (v := ?v72) rfl (by kernel_rfl) (by kernel_rfl) (by kernel_rfl) (fun _ _ _ h => h) (Or.inl ⟨by rfl, ?hy72⟩) (by assumption) ?rest72
              case hy72 => (intro w hSw; (try dsimp only at hSw); go_simp; (try (with_reducible rfl)))
              (try simp only [zl4, zl2, zl3, Act.put, zl1, zl5, zl6])
              refine wpAnyH_take (i := 9) (v := ?v73) rfl (by kernel_rfl) (by kernel_rfl) (by kernel_rfl) (fun _ _ _ h => h) (Or.inl ⟨by rfl, ?hy73⟩) (by assumption) ?rest73
              case hy73 => (intro w hSw; (try dsimp only at hSw); go_simp; (try (with_reducible rfl)))
              (try simp only [zl4, zl2, zl3, Act.put, zl1, zl5, zl6])
              refine wpAnyH_take (i := 10) (v := undef) rfl (by kernel_rfl) (by kernel_rfl) (by kernel_rfl) (fun _ _ _ h => h) (Or.inr ⟨by rfl, rfl⟩) (by assumption) ?_
              (try simp only [zl4, zl2, zl3, Act.put, zl1, zl5, zl6])
              refine wpAnyH_take (i := 11) (v := undef) rfl (by kernel_rfl) (by kernel_rfl) (by kernel_rfl) (fun _ _ _ h => h) (Or.inr ⟨by rfl, rfl⟩) (by assumption) ?_
              (try simp only [zl4, zl2, zl3, Act.put, zl1, zl5, zl6])
              refine wpAnyH_take (i := 12) (v := undef) rfl (by kernel_rfl) (by kernel_rfl) (by kernel_rfl) (fun _ _ _ h => h) (Or.inr ⟨by rfl, rfl⟩) (by assumption) ?_
              (try simp only [zl4, zl2, zl3, Act.put, zl1, zl5, zl6])
              refine wpAnyH_take (i := 13) (v := undef) rfl (by kernel_rfl) (by kernel_rfl) (by kernel_rfl) (fun _ _ _ h => h) (Or.inr ⟨by rfl, rfl⟩) (by assumption) ?_
              (try simp only [zl4, zl2, zl3, Act.put, zl1, zl5, zl6])
              refine wpAnyH_take (i := 14) (v := ?v74) rfl (by kernel_rfl) (by kernel_rfl) (by kernel_rfl) (fun _ _ _ h => h) (Or.inl ⟨by rfl, ?hy74⟩) (by assumption) ?rest74
              case hy74 => (intro w hSw; (try dsimp only at hSw); go_simp; (try (with_reducible rfl)))
              (try simp only [zl4, zl2, zl3, Act.put, zl1, zl5, zl6])
              refine wpAnyH_take (i := 15) (v := ?v75) rfl (by kernel_rfl) (by kernel_rfl) (by kernel_rfl) (fun _ _ _ h => h) (Or.inl ⟨by rfl, ?hy75⟩) (by assumption) ?rest75
              case hy75 => (intro w hSw; (try dsimp only at hSw); go_simp; (try (with_reducible rfl)))
              (try simp only [zl4, zl2, zl3, Act.put, zl1, zl5, zl6])
              refine wpAnyH_take (i := 16) (v := undef) rfl (by kernel_rfl) (by kernel_rfl) (by kernel_rfl) (fun _ _ _ h => h) (Or.inr ⟨by rfl, rfl⟩) (by assumption) ?_
              (try simp only [zl4, zl2, zl3, Act.put, zl1, zl5, zl6])
              refine wpAnyH_take (i := 17) (v := undef) rfl (by kernel_rfl) (by kernel_rfl) (by kernel_rfl) (fun _ _ _ h => h) (Or.inr ⟨by rfl, rfl⟩) (by assumption) ?_
              (try simp only [zl4, zl2, zl3, Act.put, zl1, zl5, zl6])
              refine wpAnyH_take (i := 18) (v := undef) rfl (by kernel_rfl) (by kernel_rfl) (by kernel_rfl) (fun _ _ _ h => h) (Or.inr ⟨by rfl, rfl⟩) (by assumption) ?_
              (try simp only [zl4, zl2, zl3, Act.put, zl1, zl5, zl6])
              refine wpAnyH_take (i := 19) (v := undef) rfl (by kernel_rfl) (by kernel_rfl) (by kernel_rfl) (fun _ _ _ h => h) (Or.inr ⟨by rfl, rfl⟩) (by assumption) ?_
              (try simp only [zl4, zl2, zl3, Act.put, zl1, zl5, zl6])
              refine wpAnyH_take (i := 20) (v := undef) rfl (by kernel_rfl) (by kernel_rfl) (by kernel_rfl) (fun _ _ _ h => h) (Or.inr ⟨by rfl, rfl⟩) (by assumption) ?_
              (try simp only [zl4, zl2, zl3, Act.put, zl1, zl5, zl6])
              refine wpAnyH_take (i := 21) (v := undef) rfl (by kernel_rfl) (by kernel_rfl) (by kernel_rfl) (fun _ _ _ h => h) (Or.inr ⟨by rfl, rfl⟩) (by assumption) ?_
              (try simp only [zl4, zl2, zl3, Act.put, zl1, zl5, zl6])
              refine wpAnyH_take (i := 22) (v := undef) rfl (by kernel_rfl) (by kernel_rfl) (by kernel_rfl) (fun _ _ _ h => h) (Or.inr ⟨by rfl, rfl⟩) (by assumption) ?_
              (try simp only [zl4, zl2, zl3, Act.put, zl1, zl5, zl6])
              refine wpAnyH_take (i := 23) (v := undef) rfl (by kernel_rfl) (by kernel_rfl) (by kernel_rfl) (fun _ _ _ h => h) (Or.inr ⟨by rfl, rfl⟩) (by assumption) ?_
              (try simp only [zl4, zl2, zl3, Act.put, zl1, zl5, zl6])
              refine wpAnyH_take (i := 24) (v := undef) rfl (by kernel_rfl) (by kernel_rfl) (by kernel_rfl) (fun _ _ _ h => h) (Or.inr ⟨by rfl, rfl⟩) (by assumption) ?_
              (try simp only [zl4, zl2, zl3, Act.put, zl1, zl5, zl6])
              refine wpAnyH_take (i := 25) (v := undef) rfl (by kernel_rfl) (by kernel_rfl) (by kernel_rfl) (fun _ _ _ h => h) (Or.inr ⟨by rfl, rfl⟩) (by assumption) ?_
              (try simp only [zl4, zl2, zl3, Act.put, zl1, zl5, zl6])
              refine wpAnyH_take (i := 26) (v := undef) rfl (by kernel_rfl) (by kernel_rfl) (by kernel_rfl) (fun _ _ _ h => h) (Or.inr ⟨by rfl, rfl⟩) (by assumption) ?_
              (try simp only [zl4, zl2, zl3, Act.put, zl1, zl5, zl6])
              refine wpAnyH_take (i := 27) (v := undef) rfl (by kernel_rfl) (by kernel_rfl) (by kernel_rfl) (fun _ _ _ h => h) (Or.inr ⟨by rfl, rfl⟩) (by assumption) ?_
              (try simp only [zl4, zl2, zl3, Act.put, zl1, zl5, zl6])
              refine wpAnyH_take (i := 28) (v := ?v76) rfl (by kernel_rfl) (by kernel_rfl) (by kernel_rfl) (fun _ _ _ h => h) (Or.inl ⟨by rfl, ?hy76⟩) (by assumption) ?rest76
              case hy76 => (intro w hSw; (try dsimp only at hSw); go_simp; (try (with_reducible rfl)))
              (try simp only [zl4, zl2, zl3, Act.put, zl1, zl5, zl6])
              refine wpAnyH_done (by kernel_rfl) ?_ _
              go_wp2_with (fail)
              go_ret; exact ⟨by rw [HF.out]; try rfl, by first | exact HB.out | exact HB.out.drew | exact pw_below_drewN HB.out _ | exact (pw_below_drewN HB.out _).drew | exact HB.out.drew.drew⟩
            cases e3
            case true =>
              have HF := zA (HR.out.trans (HX.out.trans (show _ = false by simp)))
              refine wp_region_held_drew (S := fun w' => (w'.cell? ⟨g9, 0, none⟩ = some (.string k0) ∧ w'.cell? ⟨g9, 1, none⟩ = some (.string k1) ∧ w'.cell? ⟨g9, 2, none⟩ = some (.int .i64 k2) ∧ w'.cell? ⟨g9, 3, none⟩ = some (.bool k3)) ∧ (Instr.lookup 76 (.map (some gm)) (.int .i64 k2) false).run Try.prog w' = .ok (.bool false) w') (by kernel_rfl) ⟨keep4 (blk_drew B3.out), m2.out ▸ SetM.look (HM.out.drew) hwf⟩ (fun hHeld => ?_)
              refine wpAnyH_take (i := 0) (v := ?v77) rfl (by kernel_rfl) (by kernel_rfl) (by kernel_rfl) (fun _ _ _ h => h) (Or.inl ⟨by rfl, ?hy77⟩) (by assumption) ?rest77
              case hy77 => (intro w hSw; (try dsimp only at hSw); go_simp; (try (with_reducible rfl)))
              (try simp only [zl4, zl2, zl3, Act.put, zl1, zl5, zl6])
              refine wpAnyH_ready (rs := [1]) (by kernel_rfl) (by simp) ?_
              refine AllReadyH.cons rfl (fun K hK => ?_) AllReadyH.nil
              (try simp only [zl4, zl2, zl3])
              go_simp
              go_at_call 59; refine (call_cellOk k0 k1 k2 k3 _ _ hr).mono ?_; rintro e w' ⟨rfl, hb⟩; replace B3 := zA (blk_below (blk_drew B3.out) hb); replace HM := zA (SetM.below (HM.out.drew) hb); replace HO := zA (Kd.R_below (R_drew HO.out) hb); replace HB := zA (bel (HB.out.drew) hb); clear hb hx0 hx1 hx2 hx3; have hx0 := (keep4 B3.out).1; have hx1 := (keep4 B3.out).2.1; have hx2 := (keep4 B3.out).2.2.1; have hx3 := (keep4 B3.out).2.2.2
              refine hK.out _ _ ⟨keep4 (B3.out), m2.out ▸ SetM.look (HM.out) hwf⟩ (fun hHeld => ?_)
              clear hK K
              (try simp only [zl4, zl2, zl3, Act.put, zl1, zl5, zl6])
              refine wpAnyH_take (i := 2) (v := ?v78) rfl (by kernel_rfl) (by kernel_rfl) (by kernel_rfl) (fun _ _ _ h => h) (Or.inl ⟨by rfl, ?hy78⟩) (by assumption) ?rest78
              case hy78 => (intro w hSw; (try dsimp only at hSw); go_simp; (try (with_reducible rfl)))
              (try simp only [zl4, zl2, zl3, Act.put, zl1, zl5, zl6])
              refine wpAnyH_take (i := 3) (v := ?v79) rfl (by kernel_rfl) (by kernel_rfl) (by kernel_rfl) (fun _ _ _ h => h) (Or.inl ⟨by rfl, ?hy79⟩) (by assumption) ?rest79
              case hy79 => (intro w hSw; (try dsimp only at hSw); go_simp; (try (with_reducible rfl)))
              (try simp only [zl4, zl2, zl3, Act.put, zl1, zl5, zl6])
              refine wpAnyH_take (i := 4) (v := ?v80) rfl (by kernel_rfl) (by kernel_rfl) (by kernel_rfl) (fun _ _ _ h => h) (Or.inl ⟨by rfl, ?hy80⟩) (by assumption) ?rest80
              case hy80 => (intro w hSw; (try dsimp only at hSw); go_simp; (try (with_reducible rfl)))
              (try simp only [zl4, zl2, zl3, Act.put, zl1, zl5, zl6])
              refine wpAnyH_take (i := 5) (v := ?v81) rfl (by kernel_rfl) (by kernel_rfl) (by kernel_rfl) (fun _ _ _ h => h) (Or.inl ⟨by rfl, ?hy81⟩) (by assumption) ?rest81
              case hy81 => (intro w hSw; (try dsimp only at hSw); go_simp; (try (with_reducible rfl)))
              (try simp only [zl4, zl2, zl3, Act.put, zl1, zl5, zl6])
              refine wpAnyH_take (i := 6) (v := ?v82) rfl (by kernel_rfl) (by kernel_rfl) (by kernel_rfl) (fun _ _ _ h => h) (Or.inl ⟨by rfl, ?hy82⟩) (by assumption) ?rest82
              case hy82 => (intro w hSw; (try dsimp only at hSw); go_simp; (try (with_reducible rfl)))
              (try simp only [zl4, zl2, zl3, Act.put, zl1, zl5, zl6])
              refine wpAnyH_take (i := 7) (v := ?v83) rfl (by kernel_rfl) (by kernel_rfl) (by kernel_rfl) (fun _ _ _ h => h) (Or.inl ⟨by rfl, ?hy83⟩) (by assumption) ?rest83
              case hy83 => (intro w hSw; (try dsimp only at hSw); go_simp; (try (with_reducible rfl)))
              (try simp only [zl4, zl2, zl3, Act.put, zl1, zl5, zl6])
              refine wpAnyH_take (i := 8) (v := ?v84) rfl (by kernel_rfl) (by kernel_rfl) (by kernel_rfl) (fun _ _ _ h => h) (Or.inl ⟨by rfl, ?hy84⟩) (by assumption) ?rest84
              case hy84 => (intro w hSw; (try dsimp only at hSw); go_simp; (try (with_reducible rfl)))
              (try simp only [zl4, zl2, zl3, Act.put, zl1, zl5, zl6])
              refine wpAnyH_take (i := 9) (v := ?v85) rfl (by kernel_rfl) (by kernel_rfl) (by kernel_rfl) (fun _ _ _ h => h) (Or.inl ⟨by rfl, ?hy85⟩) (by assumption) ?rest85
              case hy85 => (intro w hSw; (try dsimp only at hSw); go_simp; (try (with_reducible rfl)))
              (try simp only [zl4, zl2, zl3, Act.put, zl1, zl5, zl6])
              refine wpAnyH_take (i := 10) (v := ?v86) rfl (by kernel_rfl) (by kernel_rfl) (by kernel_rfl) (fun _ _ _ h => h) (Or.inl ⟨by rfl, ?hy86⟩) (by assumption) ?rest86
              case hy86 => (intro w hSw; (try dsimp only at hSw); go_simp; (try (with_reducible rfl)))
              (try simp only [zl4, zl2, zl3, Act.put, zl1, zl5, zl6])
              refine wpAnyH_take (i := 11) (v := ?v87) rfl (by kernel_rfl) (by kernel_rfl) (by kernel_rfl) (fun _ _ _ h => h) (Or.inl ⟨by rfl, ?hy87⟩) (by assumption) ?rest87
              case hy87 => (intro w hSw; (try dsimp only at hSw); go_simp; (try (with_reducible rfl)))
              (try simp only [zl4, zl2, zl3, Act.put, zl1, zl5, zl6])
              refine wpAnyH_take (i := 12) (v := ?v88) rfl (by kernel_rfl) (by kernel_rfl) (by kernel_rfl) (fun _ _ _ h => h) (Or.inl ⟨by rfl, ?hy88⟩) (by assumption) ?rest88
              case hy88 => (intro w hSw; (try dsimp only at hSw); go_simp; (try (with_reducible rfl)))
              (try simp only [zl4, zl2, zl3, Act.put, zl1, zl5, zl6])
              refine wpAnyH_take (i := 13) (v := ?v89) rfl (by kernel_rfl) (by kernel_rfl) (by kernel_rfl) (fun _ _ _ h => h) (Or.inl ⟨by rfl, ?hy89⟩) (by assumption) ?rest89
              case hy89 => (intro w hSw; (try dsimp only at hSw); go_simp; (try (with_reducible rfl)))
              (try simp only [zl4, zl2, zl3, Act.put, zl1, zl5, zl6])
              refine wpAnyH_take (i := 14) (v := ?v90) rfl (by kernel_rfl) (by kernel_rfl) (by kernel_rfl) (fun _ _ _ h => h) (Or.inl ⟨by rfl, ?hy90⟩) (by assumption) ?rest90
              case hy90 => (intro w hSw; (try dsimp only at hSw); go_simp; (try (with_reducible rfl)))
              (try simp only [zl4, zl2, zl3, Act.put, zl1, zl5, zl6])
              refine wpAnyH_take (i := 15) (v := ?v91) rfl (by kernel_rfl) (by kernel_rfl) (by kernel_rfl) (fun _ _ _ h => h) (Or.inl ⟨by rfl, ?hy91⟩) (by assumption) ?rest91
              case hy91 => (intro w hSw; (try dsimp only at hSw); go_simp; (try (with_reducible rfl)))
              (try simp only [zl4, zl2, zl3, Act.put, zl1, zl5, zl6])
              refine wpAnyH_take (i := 16) (v := undef) rfl (by kernel_rfl) (by kernel_rfl) (by kernel_rfl) (fun _ _ _ h => h) (Or.inr ⟨by rfl, rfl⟩) (by assumption) ?_
              (try simp only [zl4, zl2, zl3, Act.put, zl1, zl5, zl6])
              refine wpAnyH_take (i := 17) (v := undef) rfl (by kernel_rfl) (by kernel_rfl) (by kernel_rfl) (fun _ _ _ h => h) (Or.inr ⟨by rfl, rfl⟩) (by assumption) ?_
              (try simp only [zl4, zl2, zl3, Act.put, zl1, zl5, zl6])
              refine wpAnyH_take (i := 18) (v := undef) rfl (by kernel_rfl) (by kernel_rfl) (by kernel_rfl) (fun _ _ _ h => h) (Or.inr ⟨by rfl, rfl⟩) (by assumption) ?_
              (try simp only [zl4, zl2, zl3, Act.put, zl1, zl5, zl6])
              refine wpAnyH_take (i := 19) (v := undef) rfl (by kernel_rfl) (by kernel_rfl) (by kernel_rfl) (fun _ _ _ h => h) (Or.inr ⟨by rfl, rfl⟩) (by assumption) ?_
              (try simp only [zl4, zl2, zl3, Act.put, zl1, zl5, zl6])
              refine wpAnyH_take (i := 20) (v := undef) rfl (by kernel_rfl) (by kernel_rfl) (by kernel_rfl) (fun _ _ _ h => h) (Or.inr ⟨by rfl, rfl⟩) (by assumption) ?_
              (try simp only [zl4, zl2, zl3, Act.put, zl1, zl5, zl6])
              refine wpAnyH_take (i := 21) (v := undef) rfl (by kernel_rfl) (by kernel_rfl) (by kernel_rfl) (fun _ _ _ h => h) (Or.inr ⟨by rfl, rfl⟩) (by assumption) ?_
              (try simp only [zl4, zl2, zl3, Act.put, zl1, zl5, zl6])
              refine wpAnyH_take (i := 22) (v := undef) rfl (by kernel_rfl) (by kernel_rfl) (by kernel_rfl) (fun _ _ _ h => h) (Or.inr ⟨by rfl, rfl⟩) (by assumption) ?_
              (try simp only [zl4, zl2, zl3, Act.put, zl1, zl5, zl6])
              refine wpAnyH_take (i := 23) (v := undef) rfl (by kernel_rfl) (by kernel_rfl) (by kernel_rfl) (fun _ _ _ h => h) (Or.inr ⟨by rfl, rfl⟩) (by assumption) ?_
              (try simp only [zl4, zl2, zl3, Act.put, zl1, zl5, zl6])
              refine wpAnyH_take (i := 24) (v := undef) rfl (by kernel_rfl) (by kernel_rfl) (by kernel_rfl) (fun _ _ _ h => h) (Or.inr ⟨by rfl, rfl⟩) (by assumption) ?_
              (try simp only [zl4, zl2, zl3, Act.put, zl1, zl5, zl6])
              refine wpAnyH_take (i := 25) (v := undef) rfl (by kernel_rfl) (by kernel_rfl) (by kernel_rfl) (fun _ _ _ h => h) (Or.inr ⟨by rfl, rfl⟩) (by assumption) ?_
              (try simp only [zl4, zl2, zl3, Act.put, zl1, zl5, zl6])
              refine wpAnyH_take (i := 26) (v := undef) rfl (by kernel_rfl) (by kernel_rfl) (by kernel_rfl) (fun _ _ _ h => h) (Or.inr ⟨by rfl, rfl⟩) (by assumption) ?_
              (try simp only [zl4, zl2, zl3, Act.put, zl1, zl5, zl6])
              refine wpAnyH_take (i := 27) (v := undef) rfl (by kernel_rfl) (by kernel_rfl) (by kernel_rfl) (fun _ _ _ h => h) (Or.inr ⟨by rfl, rfl⟩) (by assumption) ?_
              (try simp only [zl4, zl2, zl3, Act.put, zl1, zl5, zl6])
              refine wpAnyH_take (i := 28) (v := ?v92) rfl (by kernel_rfl) (by kernel_rfl) (by kernel_rfl) (fun _ _ _ h => h) (Or.inl ⟨by rfl, ?hy92⟩) (by assumption) ?rest92
              case hy92 => (intro w hSw; (try dsimp only at hSw); go_simp; (try (with_reducible rfl)))
              (try simp only [zl4, zl2, zl3, Act.put, zl1, zl5, zl6])
              refine wpAnyH_done (by kernel_rfl) ?_ _
              go_wp2_with (fail)
              go_ret; exact ⟨by rw [HF.out]; try rfl, by first | exact HB.out | exact HB.out.drew | exact pw_below_drewN HB.out _ | exact (pw_below_drewN HB.out _).drew | exact HB.out.drew.drew⟩
            cases e4
            case false =>
              have HF := zA (HR.out.trans (HX.out.trans (show _ = false by simp)))
              refine wp_region_held_drew (S := fun w' => (w'.cell? ⟨g9, 0, none⟩ = some (.string k0) ∧ w'.cell? ⟨g9, 1, none⟩ = some (.string k1) ∧ w'.cell? ⟨g9, 2, none⟩ = some (.int .i64 k2) ∧ w'.cell? ⟨g9, 3, none⟩ = some (.bool k3)) ∧ (Instr.lookup 76 (.map (some gm)) (.int .i64 k2) false).run Try.prog w' = .ok (.bool false) w' ∧ w'.cell? (ad2.add (i * 4)) = some (.string d0) ∧ w'.cell? ⟨(ad2.add (i * 4)).block, (ad2.add (i * 4)).off + 1, none⟩ = some (.string d1) ∧ w'.cell? ⟨(ad2.add (i * 4)).block, (ad2.add (i * 4)).off + 2, none⟩ = some (.int .i64 d2) ∧ w'.cell? ⟨(ad2.add (i * 4)).block, (ad2.add (i * 4)).off + 3, none⟩ = some (.bool d3)) (by kernel_rfl) ⟨keep4 (blk_drew B3.out), m2.out ▸ SetM.look (HM.out.drew) hwf, elemP.out _ (HB.out.drew)⟩ (fun hHeld => ?_)
              refine wpAnyH_take (i := 0) (v := ?v93) rfl (by kernel_rfl) (by kernel_rfl) (by kernel_rfl) (fun _ _ _ h => h) (Or.inl ⟨by rfl, ?hy93⟩) (by assumption) ?rest93
              case hy93 => (intro w hSw; (try dsimp only at hSw); go_simp; (try (with_reducible rfl)))
              (try simp only [zl4, zl2, zl3, Act.put, zl1, zl5, zl6])
              refine wpAnyH_ready (rs := [1]) (by kernel_rfl) (by simp) ?_
              refine AllReadyH.cons rfl (fun K hK => ?_) AllReadyH.nil
              (try simp only [zl4, zl2, zl3])
              go_simp
              go_at_call 59; refine (call_cellOk k0 k1 k2 k3 _ _ hr).mono ?_; rintro e w' ⟨rfl, hb⟩; replace B3 := zA (blk_below (blk_drew B3.out) hb); replace HM := zA (SetM.below (HM.out.drew) hb); replace HO := zA (Kd.R_below (R_drew HO.out) hb); replace HB := zA (bel (HB.out.drew) hb); clear hb hx0 hx1 hx2 hx3; have hx0 := (keep4 B3.out).1; have hx1 := (keep4 B3.out).2.1; have hx2 := (keep4 B3.out).2.2.1; have hx3 := (keep4 B3.out).2.2.2
              refine hK.out _ _ ⟨keep4 (B3.out), m2.out ▸ SetM.look (HM.out) hwf, elemP.out _ (HB.out)⟩ (fun hHeld => ?_)
              clear hK K
              (try simp only [zl4, zl2, zl3, Act.put, zl1, zl5, zl6])
              refine wpAnyH_take (i := 2) (v := ?v94) rfl (by kernel_rfl) (by kernel_rfl) (by kernel_rfl) (fun _ _ _ h => h) (Or.inl ⟨by rfl, ?hy94⟩) (by assumption) ?rest94
              case hy94 => (intro w hSw; (try dsimp only at hSw); go_simp; (try (with_reducible rfl)))
              (try simp only [zl4, zl2, zl3, Act.put, zl1, zl5, zl6])
              refine wpAnyH_take (i := 3) (v := ?v95) rfl (by kernel_rfl) (by kernel_rfl) (by kernel_rfl) (fun _ _ _ h => h) (Or.inl ⟨by rfl, ?hy95⟩) (by assumption) ?rest95
              case hy95 => (intro w hSw; (try dsimp only at hSw); go_simp; (try (with_reducible rfl)))
              (try simp only [zl4, zl2, zl3, Act.put, zl1, zl5, zl6])
              refine wpAnyH_take (i := 4) (v := ?v96) rfl (by kernel_rfl) (by kernel_rfl) (by kernel_rfl) (fun _ _ _ h => h) (Or.inl ⟨by rfl, ?hy96⟩) (by assumption) ?rest96
              case hy96 => (intro w hSw; (try dsimp only at hSw); go_simp; (try (with_reducible rfl)))
              (try simp only [zl4, zl2, zl3, Act.put, zl1, zl5, zl6])
              refine wpAnyH_take (i := 5) (v := ?v97) rfl (by kernel_rfl) (by kernel_rfl) (by kernel_rfl) (fun _ _ _ h => h) (Or.inl ⟨by rfl, ?hy97⟩) (by assumption) ?rest97
              case hy97 => (intro w hSw; (try dsimp only at hSw); go_simp; (try (with_reducible rfl)))
              (try simp only [zl4, zl2, zl3, Act.put, zl1, zl5, zl6])
              refine wpAnyH_take (i := 6) (v := ?v98) rfl (by kernel_rfl) (by kernel_rfl) (by kernel_rfl) (fun _ _ _ h => h) (Or.inl ⟨by rfl, ?hy98⟩) (by assumption) ?rest98
              case hy98 => (intro w hSw; (try dsimp only at hSw); go_simp; (try (with_reducible rfl)))
              (try simp only [zl4, zl2, zl3, Act.put, zl1, zl5, zl6])
              refine wpAnyH_take (i := 7) (v := ?v99) rfl (by kernel_rfl) (by kernel_rfl) (by kernel_rfl) (fun _ _ _ h => h) (Or.inl ⟨by rfl, ?hy99⟩) (by assumption) ?rest99
              case hy99 => (intro w hSw; (try dsimp only at hSw); go_simp; (try (with_reducible rfl)))
              (try simp only [zl4, zl2, zl3, Act.put, zl1, zl5, zl6])
              refine wpAnyH_take (i := 8) (v := ?v100) rfl (by kernel_rfl) (by kernel_rfl) (by kernel_rfl) (fun _ _ _ h => h) (Or.inl ⟨by rfl, ?hy100⟩) (by assumption) ?rest100
              case hy100 => (intro w hSw; (try dsimp only at hSw); go_simp; (try (with_reducible rfl)))
              (try simp only [zl4, zl2, zl3, Act.put, zl1, zl5, zl6])
              refine wpAnyH_take (i := 9) (v := ?v101) rfl (by kernel_rfl) (by kernel_rfl) (by kernel_rfl) (fun _ _ _ h => h) (Or.inl ⟨by rfl, ?hy101⟩) (by assumption) ?rest101
              case hy101 => (intro w hSw; (try dsimp only at hSw); go_simp; (try (with_reducible rfl)))
              (try simp only [zl4, zl2, zl3, Act.put, zl1, zl5, zl6])
              refine wpAnyH_take (i := 10) (v := ?v102) rfl (by kernel_rfl) (by kernel_rfl) (by kernel_rfl) (fun _ _ _ h => h) (Or.inl ⟨by rfl, ?hy102⟩) (by assumption) ?rest102
              case hy102 => (intro w hSw; (try dsimp only at hSw); go_simp; (try (with_reducible rfl)))
              (try simp only [zl4, zl2, zl3, Act.put, zl1, zl5, zl6])
              refine wpAnyH_take (i := 11) (v := ?v103) rfl (by kernel_rfl) (by kernel_rfl) (by kernel_rfl) (fun _ _ _ h => h) (Or.inl ⟨by rfl, ?hy103⟩) (by assumption) ?rest103
              case hy103 => (intro w hSw; (try dsimp only at hSw); go_simp; (try (with_reducible rfl)))
              (try simp only [zl4, zl2, zl3, Act.put, zl1, zl5, zl6])
              refine wpAnyH_take (i := 12) (v := ?v104) rfl (by kernel_rfl) (by kernel_rfl) (by kernel_rfl) (fun _ _ _ h => h) (Or.inl ⟨by rfl, ?hy104⟩) (by assumption) ?rest104
              case hy104 => (intro w hSw; (try dsimp only at hSw); go_simp; (try (with_reducible rfl)))
              (try simp only [zl4, zl2, zl3, Act.put, zl1, zl5, zl6])
              refine wpAnyH_take (i := 13) (v := ?v105) rfl (by kernel_rfl) (by kernel_rfl) (by kernel_rfl) (fun _ _ _ h => h) (Or.inl ⟨by rfl, ?hy105⟩) (by assumption) ?rest105
              case hy105 => (intro w hSw; (try dsimp only at hSw); go_simp; (try (with_reducible rfl)))
              (try simp only [zl4, zl2, zl3, Act.put, zl1, zl5, zl6])
              refine wpAnyH_take (i := 14) (v := ?v106) rfl (by kernel_rfl) (by kernel_rfl) (by kernel_rfl) (fun _ _ _ h => h) (Or.inl ⟨by rfl, ?hy106⟩) (by assumption) ?rest106
              case hy106 => (intro w hSw; (try dsimp only at hSw); go_simp; (try (with_reducible rfl)))
              (try simp only [zl4, zl2, zl3, Act.put, zl1, zl5, zl6])
              refine wpAnyH_take (i := 15) (v := ?v107) rfl (by kernel_rfl) (by kernel_rfl) (by kernel_rfl) (fun _ _ _ h => h) (Or.inl ⟨by rfl, ?hy107⟩) (by assumption) ?rest107
              case hy107 => (intro w hSw; (try dsimp only at hSw); go_simp; (try (with_reducible rfl)))
              (try simp only [zl4, zl2, zl3, Act.put, zl1, zl5, zl6])
              refine wpAnyH_take (i := 16) (v := ?v108) rfl (by kernel_rfl) (by kernel_rfl) (by kernel_rfl) (fun _ _ _ h => h) (Or.inl ⟨by rfl, ?hy108⟩) (by assumption) ?rest108
              case hy108 => (intro w hSw; (try dsimp only at hSw); go_simp; (try (with_reducible rfl)))
              (try simp only [zl4, zl2, zl3, Act.put, zl1, zl5, zl6])
              refine wpAnyH_take (i := 17) (v := ?v109) rfl (by kernel_rfl) (by kernel_rfl) (by kernel_rfl) (fun _ _ _ h => h) (Or.inl ⟨by rfl, ?hy109⟩) (by assumption) ?rest109
              case hy109 => (intro w hSw; (try dsimp only at hSw); go_simp; (try (with_reducible rfl)))
              (try simp only [zl4, zl2, zl3, Act.put, zl1, zl5, zl6])
              refine wpAnyH_take (i := 18) (v := ?v110) rfl (by kernel_rfl) (by kernel_rfl) (by kernel_rfl) (fun _ _ _ h => h) (Or.inl ⟨by rfl, ?hy110⟩) (by assumption) ?rest110
              case hy110 => (intro w hSw; (try dsimp only at hSw); go_simp; (try (with_reducible rfl)))
              (try simp only [zl4, zl2, zl3, Act.put, zl1, zl5, zl6])
              refine wpAnyH_take (i := 19) (v := ?v111) rfl (by kernel_rfl) (by kernel_rfl) (by kernel_rfl) (fun _ _ _ h => h) (Or.inl ⟨by rfl, ?hy111⟩) (by assumption) ?rest111
              case hy111 => (intro w hSw; (try dsimp only at hSw); go_simp; (try (with_reducible rfl)))
              (try simp only [zl4, zl2, zl3, Act.put, zl1, zl5, zl6])
              refine wpAnyH_take (i := 20) (v := ?v112) rfl (by kernel_rfl) (by kernel_rfl) (by kernel_rfl) (fun _ _ _ h => h) (Or.inl ⟨by rfl, ?hy112⟩) (by assumption) ?rest112
              case hy112 => (intro w hSw; (try dsimp only at hSw); go_simp; (try (with_reducible rfl)))
              (try simp only [zl4, zl2, zl3, Act.put, zl1, zl5, zl6])
              refine wpAnyH_take (i := 21) (v := ?v113) rfl (by kernel_rfl) (by kernel_rfl) (by kernel_rfl) (fun _ _ _ h => h) (Or.inl ⟨by rfl, ?hy113⟩) (by assumption) ?rest113
              case hy113 => (intro w hSw; (try dsimp only at hSw); go_simp; (try (with_reducible rfl)))
              (try simp only [zl4, zl2, zl3, Act.put, zl1, zl5, zl6])
              refine wpAnyH_take (i := 22) (v := ?v114) rfl (by kernel_rfl) (by kernel_rfl) (by kernel_rfl) (fun _ _ _ h => h) (Or.inl ⟨by rfl, ?hy114⟩) (by assumption) ?rest114
              case hy114 => (intro w hSw; (try dsimp only at hSw); go_simp; (try (with_reducible rfl)))
              (try simp only [zl4, zl2, zl3, Act.put, zl1, zl5, zl6])
              refine wpAnyH_take (i := 23) (v := ?v115) rfl (by kernel_rfl) (by kernel_rfl) (by kernel_rfl) (fun _ _ _ h => h) (Or.inl ⟨by rfl, ?hy115⟩) (by assumption) ?rest115
              case hy115 => (intro w hSw; (try dsimp only at hSw); go_simp; (try (with_reducible rfl)))
              (try simp only [zl4, zl2, zl3, Act.put, zl1, zl5, zl6])
              refine wpAnyH_take (i := 24) (v := ?v116) rfl (by kernel_rfl) (by kernel_rfl) (by kernel_rfl) (fun _ _ _ h => h) (Or.inl ⟨by rfl, ?hy116⟩) (by assumption) ?rest116
              case hy116 => (intro w hSw; (try dsimp only at hSw); go_simp; (try (with_reducible rfl)))
              (try simp only [zl4, zl2, zl3, Act.put, zl1, zl5, zl6])
              refine wpAnyH_ready (rs := [25]) (by kernel_rfl) (by simp) ?_
              refine AllReadyH.cons rfl (fun K hK => ?_) AllReadyH.nil
              (try simp only [zl4, zl2, zl3])
              go_simp
              go_at_call 60; refine (call_order d0 d1 d2 d3 k0 k1 k2 k3 _ _ hord hd2 hk2).mono ?_; rintro e w' ⟨rfl, hb⟩; replace B3 := zA (blk_below (B3.out) hb); replace HM := zA (SetM.below (HM.out) hb); replace HO := zA (Kd.R_below (HO.out) hb); replace HB := zA (bel (HB.out) hb); clear hb hx0 hx1 hx2 hx3; have hx0 := (keep4 B3.out).1; have hx1 := (keep4 B3.out).2.1; have hx2 := (keep4 B3.out).2.2.1; have hx3 := (keep4 B3.out).2.2.2
              refine hK.out _ _ ⟨keep4 (B3.out), m2.out ▸ SetM.look (HM.out) hwf, elemP.out _ (HB.out)⟩ (fun hHeld => ?_)
              clear hK K
              (try simp only [zl4, zl2, zl3, Act.put, zl1, zl5, zl6])
              refine wpAnyH_take (i := 26) (v := ?v117) rfl (by kernel_rfl) (by kernel_rfl) (by kernel_rfl) (fun _ _ _ h => h) (Or.inl ⟨by rfl, ?hy117⟩) (by assumption) ?rest117
              case hy117 => (intro w hSw; (try dsimp only at hSw); go_simp; (try (with_reducible rfl)))
              (try simp only [zl4, zl2, zl3, Act.put, zl1, zl5, zl6])
              refine wpAnyH_take (i := 27) (v := ?v118) rfl (by kernel_rfl) (by kernel_rfl) (by kernel_rfl) (fun _ _ _ h => h) (Or.inl ⟨by rfl, ?hy118⟩) (by assumption) ?rest118
              case hy118 => (intro w hSw; (try dsimp only at hSw); go_simp; (try (with_reducible rfl)))
              (try simp only [zl4, zl2, zl3, Act.put, zl1, zl5, zl6])
              refine wpAnyH_take (i := 28) (v := ?v119) rfl (by kernel_rfl) (by kernel_rfl) (by kernel_rfl) (fun _ _ _ h => h) (Or.inl ⟨by rfl, ?hy119⟩) (by assumption) ?rest119
              case hy119 => (intro w hSw; (try dsimp only at hSw); go_simp; (try (with_reducible rfl)))
              (try simp only [zl4, zl2, zl3, Act.put, zl1, zl5, zl6])
              refine wpAnyH_done (by kernel_rfl) ?_ _
              go_wp2_with (fail)
              go_ret; exact ⟨by rw [HF.out]; try rfl, by first | exact HB.out | exact HB.out.drew | exact pw_below_drewN HB.out _ | exact (pw_below_drewN HB.out _).drew | exact HB.out.drew.drew⟩
            have hP : Aside0 (∀ i c0 c1 c2 c3, k + 1 = i + 1 → (hi : i < y.length) → y[i] = (⟨c0, c1, c2, c3⟩ : Cel) → 1 ≤ c2 ∧ c2 ≤ 400) := ⟨fun i _ _ _ _ h hi e => by
              have hik : i = k := by omega
              subst hik
              have h2 := hye.out.symm.trans e
              injection h2 with _ _ h3 _
              rw [← h3]
              exact cell_in hr⟩
            have HX2 : Aside0 (restC l (k2 :: S) (if k2 < b then k2 else b) (prc y (k + 1)) (y.drop (k + 1)) (X.drop (j + 1)) = R) := ⟨HX.out.symm ▸ (by simp)⟩
            refine wp_region_held_drew (S := fun w' => (w'.cell? ⟨g9, 0, none⟩ = some (.string k0) ∧ w'.cell? ⟨g9, 1, none⟩ = some (.string k1) ∧ w'.cell? ⟨g9, 2, none⟩ = some (.int .i64 k2) ∧ w'.cell? ⟨g9, 3, none⟩ = some (.bool k3)) ∧ (Instr.lookup 76 (.map (some gm)) (.int .i64 k2) false).run Try.prog w' = .ok (.bool false) w' ∧ w'.cell? (ad2.add (i * 4)) = some (.string d0) ∧ w'.cell? ⟨(ad2.add (i * 4)).block, (ad2.add (i * 4)).off + 1, none⟩ = some (.string d1) ∧ w'.cell? ⟨(ad2.add (i * 4)).block, (ad2.add (i * 4)).off + 2, none⟩ = some (.int .i64 d2) ∧ w'.cell? ⟨(ad2.add (i * 4)).block, (ad2.add (i * 4)).off + 3, none⟩ = some (.bool d3)) (by kernel_rfl) ⟨keep4 (blk_drew B3.out), m2.out ▸ SetM.look (HM.out.drew) hwf, elemP.out _ (HB.out.drew)⟩ (fun hHeld => ?_)
            refine wpAnyH_take (i := 0) (v := ?v120) rfl (by kernel_rfl) (by kernel_rfl) (by kernel_rfl) (fun _ _ _ h => h) (Or.inl ⟨by rfl, ?hy120⟩) (by assumption) ?rest120
            case hy120 => (intro w hSw; (try dsimp only at hSw); go_simp; (try (with_reducible rfl)))
            (try simp only [zl4, zl2, zl3, Act.put, zl1, zl5, zl6])
            refine wpAnyH_ready (rs := [1]) (by kernel_rfl) (by simp) ?_
            refine AllReadyH.cons rfl (fun K hK => ?_) AllReadyH.nil
            (try simp only [zl4, zl2, zl3])
            go_simp
            go_at_call 59; refine (call_cellOk k0 k1 k2 k3 _ _ hr).mono ?_; rintro e w' ⟨rfl, hb⟩; replace B3 := zA (blk_below (blk_drew B3.out) hb); replace HM := zA (SetM.below (HM.out.drew) hb); replace HO := zA (Kd.R_below (R_drew HO.out) hb); replace HB := zA (bel (HB.out.drew) hb); clear hb hx0 hx1 hx2 hx3; have hx0 := (keep4 B3.out).1; have hx1 := (keep4 B3.out).2.1; have hx2 := (keep4 B3.out).2.2.1; have hx3 := (keep4 B3.out).2.2.2
            refine hK.out _ _ ⟨keep4 (B3.out), m2.out ▸ SetM.look (HM.out) hwf, elemP.out _ (HB.out)⟩ (fun hHeld => ?_)
            clear hK K
            (try simp only [zl4, zl2, zl3, Act.put, zl1, zl5, zl6])
            refine wpAnyH_take (i := 2) (v := ?v121) rfl (by kernel_rfl) (by kernel_rfl) (by kernel_rfl) (fun _ _ _ h => h) (Or.inl ⟨by rfl, ?hy121⟩) (by assumption) ?rest121
            case hy121 => (intro w hSw; (try dsimp only at hSw); go_simp; (try (with_reducible rfl)))
            (try simp only [zl4, zl2, zl3, Act.put, zl1, zl5, zl6])
            refine wpAnyH_take (i := 3) (v := ?v122) rfl (by kernel_rfl) (by kernel_rfl) (by kernel_rfl) (fun _ _ _ h => h) (Or.inl ⟨by rfl, ?hy122⟩) (by assumption) ?rest122
            case hy122 => (intro w hSw; (try dsimp only at hSw); go_simp; (try (with_reducible rfl)))
            (try simp only [zl4, zl2, zl3, Act.put, zl1, zl5, zl6])
            refine wpAnyH_take (i := 4) (v := ?v123) rfl (by kernel_rfl) (by kernel_rfl) (by kernel_rfl) (fun _ _ _ h => h) (Or.inl ⟨by rfl, ?hy123⟩) (by assumption) ?rest123
            case hy123 => (intro w hSw; (try dsimp only at hSw); go_simp; (try (with_reducible rfl)))
            (try simp only [zl4, zl2, zl3, Act.put, zl1, zl5, zl6])
            refine wpAnyH_take (i := 5) (v := ?v124) rfl (by kernel_rfl) (by kernel_rfl) (by kernel_rfl) (fun _ _ _ h => h) (Or.inl ⟨by rfl, ?hy124⟩) (by assumption) ?rest124
            case hy124 => (intro w hSw; (try dsimp only at hSw); go_simp; (try (with_reducible rfl)))
            (try simp only [zl4, zl2, zl3, Act.put, zl1, zl5, zl6])
            refine wpAnyH_take (i := 6) (v := ?v125) rfl (by kernel_rfl) (by kernel_rfl) (by kernel_rfl) (fun _ _ _ h => h) (Or.inl ⟨by rfl, ?hy125⟩) (by assumption) ?rest125
            case hy125 => (intro w hSw; (try dsimp only at hSw); go_simp; (try (with_reducible rfl)))
            (try simp only [zl4, zl2, zl3, Act.put, zl1, zl5, zl6])
            refine wpAnyH_take (i := 7) (v := ?v126) rfl (by kernel_rfl) (by kernel_rfl) (by kernel_rfl) (fun _ _ _ h => h) (Or.inl ⟨by rfl, ?hy126⟩) (by assumption) ?rest126
            case hy126 => (intro w hSw; (try dsimp only at hSw); go_simp; (try (with_reducible rfl)))
            (try simp only [zl4, zl2, zl3, Act.put, zl1, zl5, zl6])
            refine wpAnyH_take (i := 8) (v := ?v127) rfl (by kernel_rfl) (by kernel_rfl) (by kernel_rfl) (fun _ _ _ h => h) (Or.inl ⟨by rfl, ?hy127⟩) (by assumption) ?rest127
            case hy127 => (intro w hSw; (try dsimp only at hSw); go_simp; (try (with_reducible rfl)))
            (try simp only [zl4, zl2, zl3, Act.put, zl1, zl5, zl6])
            refine wpAnyH_take (i := 9) (v := ?v128) rfl (by kernel_rfl) (by kernel_rfl) (by kernel_rfl) (fun _ _ _ h => h) (Or.inl ⟨by rfl, ?hy128⟩) (by assumption) ?rest128
            case hy128 => (intro w hSw; (try dsimp only at hSw); go_simp; (try (with_reducible rfl)))
            (try simp only [zl4, zl2, zl3, Act.put, zl1, zl5, zl6])
            refine wpAnyH_take (i := 10) (v := ?v129) rfl (by kernel_rfl) (by kernel_rfl) (by kernel_rfl) (fun _ _ _ h => h) (Or.inl ⟨by rfl, ?hy129⟩) (by assumption) ?rest129
            case hy129 => (intro w hSw; (try dsimp only at hSw); go_simp; (try (with_reducible rfl)))
            (try simp only [zl4, zl2, zl3, Act.put, zl1, zl5, zl6])
            refine wpAnyH_take (i := 11) (v := ?v130) rfl (by kernel_rfl) (by kernel_rfl) (by kernel_rfl) (fun _ _ _ h => h) (Or.inl ⟨by rfl, ?hy130⟩) (by assumption) ?rest130
            case hy130 => (intro w hSw; (try dsimp only at hSw); go_simp; (try (with_reducible rfl)))
            (try simp only [zl4, zl2, zl3, Act.put, zl1, zl5, zl6])
            refine wpAnyH_take (i := 12) (v := ?v131) rfl (by kernel_rfl) (by kernel_rfl) (by kernel_rfl) (fun _ _ _ h => h) (Or.inl ⟨by rfl, ?hy131⟩) (by assumption) ?rest131
            case hy131 => (intro w hSw; (try dsimp only at hSw); go_simp; (try (with_reducible rfl)))
            (try simp only [zl4, zl2, zl3, Act.put, zl1, zl5, zl6])
            refine wpAnyH_take (i := 13) (v := ?v132) rfl (by kernel_rfl) (by kernel_rfl) (by kernel_rfl) (fun _ _ _ h => h) (Or.inl ⟨by rfl, ?hy132⟩) (by assumption) ?rest132
            case hy132 => (intro w hSw; (try dsimp only at hSw); go_simp; (try (with_reducible rfl)))
            (try simp only [zl4, zl2, zl3, Act.put, zl1, zl5, zl6])
            refine wpAnyH_take (i := 14) (v := ?v133) rfl (by kernel_rfl) (by kernel_rfl) (by kernel_rfl) (fun _ _ _ h => h) (Or.inl ⟨by rfl, ?hy133⟩) (by assumption) ?rest133
            case hy133 => (intro w hSw; (try dsimp only at hSw); go_simp; (try (with_reducible rfl)))
            (try simp only [zl4, zl2, zl3, Act.put, zl1, zl5, zl6])
            refine wpAnyH_take (i := 15) (v := ?v134) rfl (by kernel_rfl) (by kernel_rfl) (by kernel_rfl) (fun _ _ _ h => h) (Or.inl ⟨by rfl, ?hy134⟩) (by assumption) ?rest134
            case hy134 => (intro w hSw; (try dsimp only at hSw); go_simp; (try (with_reducible rfl)))
            (try simp only [zl4, zl2, zl3, Act.put, zl1, zl5, zl6])
            refine wpAnyH_take (i := 16) (v := ?v135) rfl (by kernel_rfl) (by kernel_rfl) (by kernel_rfl) (fun _ _ _ h => h) (Or.inl ⟨by rfl, ?hy135⟩) (by assumption) ?rest135
            case hy135 => (intro w hSw; (try dsimp only at hSw); go_simp; (try (with_reducible rfl)))
            (try simp only [zl4, zl2, zl3, Act.put, zl1, zl5, zl6])
            refine wpAnyH_take (i := 17) (v := ?v136) rfl (by kernel_rfl) (by kernel_rfl) (by kernel_rfl) (fun _ _ _ h => h) (Or.inl ⟨by rfl, ?hy136⟩) (by assumption) ?rest136
            case hy136 => (intro w hSw; (try dsimp only at hSw); go_simp; (try (with_reducible rfl)))
            (try simp only [zl4, zl2, zl3, Act.put, zl1, zl5, zl6])
            refine wpAnyH_take (i := 18) (v := ?v137) rfl (by kernel_rfl) (by kernel_rfl) (by kernel_rfl) (fun _ _ _ h => h) (Or.inl ⟨by rfl, ?hy137⟩) (by assumption) ?rest137
            case hy137 => (intro w hSw; (try dsimp only at hSw); go_simp; (try (with_reducible rfl)))
            (try simp only [zl4, zl2, zl3, Act.put, zl1, zl5, zl6])
            refine wpAnyH_take (i := 19) (v := ?v138) rfl (by kernel_rfl) (by kernel_rfl) (by kernel_rfl) (fun _ _ _ h => h) (Or.inl ⟨by rfl, ?hy138⟩) (by assumption) ?rest138
            case hy138 => (intro w hSw; (try dsimp only at hSw); go_simp; (try (with_reducible rfl)))
            (try simp only [zl4, zl2, zl3, Act.put, zl1, zl5, zl6])
            refine wpAnyH_take (i := 20) (v := ?v139) rfl (by kernel_rfl) (by kernel_rfl) (by kernel_rfl) (fun _ _ _ h => h) (Or.inl ⟨by rfl, ?hy139⟩) (by assumption) ?rest139
            case hy139 => (intro w hSw; (try dsimp only at hSw); go_simp; (try (with_reducible rfl)))
            (try simp only [zl4, zl2, zl3, Act.put, zl1, zl5, zl6])
            refine wpAnyH_take (i := 21) (v := ?v140) rfl (by kernel_rfl) (by kernel_rfl) (by kernel_rfl) (fun _ _ _ h => h) (Or.inl ⟨by rfl, ?hy140⟩) (by assumption) ?rest140
            case hy140 => (intro w hSw; (try dsimp only at hSw); go_simp; (try (with_reducible rfl)))
            (try simp only [zl4, zl2, zl3, Act.put, zl1, zl5, zl6])
            refine wpAnyH_take (i := 22) (v := ?v141) rfl (by kernel_rfl) (by kernel_rfl) (by kernel_rfl) (fun _ _ _ h => h) (Or.inl ⟨by rfl, ?hy141⟩) (by assumption) ?rest141
            case hy141 => (intro w hSw; (try dsimp only at hSw); go_simp; (try (with_reducible rfl)))
            (try simp only [zl4, zl2, zl3, Act.put, zl1, zl5, zl6])
            refine wpAnyH_take (i := 23) (v := ?v142) rfl (by kernel_rfl) (by kernel_rfl) (by kernel_rfl) (fun _ _ _ h => h) (Or.inl ⟨by rfl, ?hy142⟩) (by assumption) ?rest142
            case hy142 => (intro w hSw; (try dsimp only at hSw); go_simp; (try (with_reducible rfl)))
            (try simp only [zl4, zl2, zl3, Act.put, zl1, zl5, zl6])
            refine wpAnyH_take (i := 24) (v := ?v143) rfl (by kernel_rfl) (by kernel_rfl) (by kernel_rfl) (fun _ _ _ h => h) (Or.inl ⟨by rfl, ?hy143⟩) (by assumption) ?rest143
            case hy143 => (intro w hSw; (try dsimp only at hSw); go_simp; (try (with_reducible rfl)))
            (try simp only [zl4, zl2, zl3, Act.put, zl1, zl5, zl6])
            refine wpAnyH_ready (rs := [25]) (by kernel_rfl) (by simp) ?_
            refine AllReadyH.cons rfl (fun K hK => ?_) AllReadyH.nil
            (try simp only [zl4, zl2, zl3])
            go_simp
            go_at_call 60; refine (call_order d0 d1 d2 d3 k0 k1 k2 k3 _ _ hord hd2 hk2).mono ?_; rintro e w' ⟨rfl, hb⟩; replace B3 := zA (blk_below (B3.out) hb); replace HM := zA (SetM.below (HM.out) hb); replace HO := zA (Kd.R_below (HO.out) hb); replace HB := zA (bel (HB.out) hb); clear hb hx0 hx1 hx2 hx3; have hx0 := (keep4 B3.out).1; have hx1 := (keep4 B3.out).2.1; have hx2 := (keep4 B3.out).2.2.1; have hx3 := (keep4 B3.out).2.2.2
            refine hK.out _ _ ⟨keep4 (B3.out), m2.out ▸ SetM.look (HM.out) hwf, elemP.out _ (HB.out)⟩ (fun hHeld => ?_)
            clear hK K
            (try simp only [zl4, zl2, zl3, Act.put, zl1, zl5, zl6])
            refine wpAnyH_take (i := 26) (v := ?v144) rfl (by kernel_rfl) (by kernel_rfl) (by kernel_rfl) (fun _ _ _ h => h) (Or.inl ⟨by rfl, ?hy144⟩) (by assumption) ?rest144
            case hy144 => (intro w hSw; (try dsimp only at hSw); go_simp; (try (with_reducible rfl)))
            (try simp only [zl4, zl2, zl3, Act.put, zl1, zl5, zl6])
            refine wpAnyH_take (i := 27) (v := ?v145) rfl (by kernel_rfl) (by kernel_rfl) (by kernel_rfl) (fun _ _ _ h => h) (Or.inl ⟨by rfl, ?hy145⟩) (by assumption) ?rest145
            case hy145 => (intro w hSw; (try dsimp only at hSw); go_simp; (try (with_reducible rfl)))
            (try simp only [zl4, zl2, zl3, Act.put, zl1, zl5, zl6])
            refine wpAnyH_take (i := 28) (v := ?v146) rfl (by kernel_rfl) (by kernel_rfl) (by kernel_rfl) (fun _ _ _ h => h) (Or.inl ⟨by rfl, ?hy146⟩) (by assumption) ?rest146
            case hy146 => (intro w hSw; (try dsimp only at hSw); go_simp; (try (with_reducible rfl)))
            (try simp only [zl4, zl2, zl3, Act.put, zl1, zl5, zl6])
            refine wpAnyH_done (by kernel_rfl) ?_ _
            by_cases hq : k2 < b
            case pos =>
              rw [if_pos hq] at HX2
              go_wp2_with (at_mapUpdate; refine set_store rfl (.tmp 94) (.tmp 96) (.const (.bool true)) rfl gm S rfl (by first | exact HM.out | exact HM.out.drew | exact HM.out.drewN _) (by unfold maxLen; omega) k2 hwf rfl rfl ?_; intro w' hm' hg'; replace HM := zA hm'; replace HO := zA (Kd.R_grown (by first | exact HO.out) hg' (fun k (hk : k ≠ gm) h => hk (by injection h))); replace B3 := zA ((hg'.block g9 (blk_lt (by (with_reducible repeat (first | refine blk_drewN ?_ _ | refine blk_drew ?_)); exact B3.out)) (fun h => hne.out (by injection h))).trans (by (with_reducible repeat (first | refine blk_drewN ?_ _ | refine blk_drew ?_)); exact B3.out)); replace HB := zA (Below.grown (by first | exact HB.out | exact HB.out.drew | exact pw_below_drewN HB.out _ | exact (pw_below_drewN HB.out _).drew | exact HB.out.drew.drew) hg' (show Below w.heap.size w _ from (by first | exact HB.out | exact HB.out.drew | exact pw_below_drewN HB.out _ | exact (pw_below_drewN HB.out _).drew | exact HB.out.drew.drew)).size (fun k hk => by injection hk with hk; subst hk; exact hgm.out)); clear hm' hg' hx0 hx1 hx2 hx3; have hx0 := (keep4 B3.out).1; have hx1 := (keep4 B3.out).2.1; have hx2 := (keep4 B3.out).2.2.1; have hx3 := (keep4 B3.out).2.2.2)
              go_roundg (y.length - k)
              case measure => omega
              case rel => exact ⟨k + 1, k2 :: S, k2, ⟨by omega, by omega⟩, rfl, by go_num, by simp; omega, ⟨HX2.out, hP.out⟩, ⟨HM.out⟩, ⟨HO.out⟩, ⟨by first | exact HB.out | exact HB.out.drew | exact pw_below_drewN HB.out _ | exact (pw_below_drewN HB.out _).drew | exact HB.out.drew.drew⟩⟩
            case neg =>
              rw [if_neg hq] at HX2
              go_wp2_with (at_mapUpdate; refine set_store rfl (.tmp 94) (.tmp 96) (.const (.bool true)) rfl gm S rfl (by first | exact HM.out | exact HM.out.drew | exact HM.out.drewN _) (by unfold maxLen; omega) k2 hwf rfl rfl ?_; intro w' hm' hg'; replace HM := zA hm'; replace HO := zA (Kd.R_grown (by first | exact HO.out) hg' (fun k (hk : k ≠ gm) h => hk (by injection h))); replace B3 := zA ((hg'.block g9 (blk_lt (by (with_reducible repeat (first | refine blk_drewN ?_ _ | refine blk_drew ?_)); exact B3.out)) (fun h => hne.out (by injection h))).trans (by (with_reducible repeat (first | refine blk_drewN ?_ _ | refine blk_drew ?_)); exact B3.out)); replace HB := zA (Below.grown (by first | exact HB.out | exact HB.out.drew | exact pw_below_drewN HB.out _ | exact (pw_below_drewN HB.out _).drew | exact HB.out.drew.drew) hg' (show Below w.heap.size w _ from (by first | exact HB.out | exact HB.out.drew | exact pw_below_drewN HB.out _ | exact (pw_below_drewN HB.out _).drew | exact HB.out.drew.drew)).size (fun k hk => by injection hk with hk; subst hk; exact hgm.out)); clear hm' hg' hx0 hx1 hx2 hx3; have hx0 := (keep4 B3.out).1; have hx1 := (keep4 B3.out).2.1; have hx2 := (keep4 B3.out).2.2.1; have hx3 := (keep4 B3.out).2.2.2)
              go_roundg (y.length - k)
              case measure => omega
              case rel => exact ⟨k + 1, k2 :: S, b, ⟨by omega, by omega⟩, rfl, by go_num, by simp; omega, ⟨HX2.out, hP.out⟩, ⟨HM.out⟩, ⟨HO.out⟩, ⟨by first | exact HB.out | exact HB.out.drew | exact pw_below_drewN HB.out _ | exact (pw_below_drewN HB.out _).drew | exact HB.out.drew.drew⟩⟩
end Go.Proofs.Ythffllegmkolgaa.TreeK
