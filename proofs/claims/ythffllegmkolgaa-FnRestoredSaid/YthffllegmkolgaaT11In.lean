/- The reference's l17In, called: a cell is put where it stands. -/
import Derived.Test.YthffllegmkolgaaT11TreeSort
import Derived.Test.YthffllegmkolgaaT11LookPure
import Derived.Test.YthffllegmkolgaaT11TreeCalls
import Derived.Test.YthffllegmkolgaaT11CopyK
import Derived.BigQuiet
import Derived.Deep.RegionHeld3
import Derived.StillTailTactics
namespace Go.Proofs.Ythffllegmkolgaa.TreeK
open Go.RowKit Go.Proofs.YthffllegmkolgaaW.PrintWords Go.Proofs.YthffllegmkolgaaW.PrintLast Go.Proofs.YthffllegmkolgaaW.PrintMore Go.Proofs.Ythffllegmkolgaa.QTree Go.Proofs.Ythffllegmkolgaa.SortKit
set_option linter.unusedSimpArgs false
set_option linter.unusedVariables false
theorem insC_at {c : Cel} : ∀ {l : List Cel} {j : Nat}, j ≤ l.length → (∀ x ∈ l.take j, aheadB x c = true) → (∀ x ∈ l[j]?, aheadB x c = false) → insC c l = l.take j ++ c :: l.drop j
  | [], j, hj, _, _ => by simp [insC]
  | x :: xs, 0, _, _, h => by
    have := h x (by simp)
    simp [insC, this]
  | x :: xs, j + 1, hj, ht, h => by
    have h1 := ht x (by simp)
    rw [insC, if_pos h1, insC_at (j := j) (by simpa using hj) (fun y hy => ht y (by simp [hy])) (by simpa using h)]
    simp
theorem shift_ins (l : List Cel) (z c : Cel) (j : Nat) (hj : j ≤ l.length) : (shifted (l ++ [z]) j).set j c = l.take j ++ c :: l.drop j := by
  unfold shifted
  have e1 : (l ++ [z]).length - (j + 1) = l.length - j := by simp
  have e2 : ((l ++ [z]).drop j).take (l.length - j) = l.drop j := by
    rw [List.drop_append_of_le_length hj, List.take_append_of_le_length (by simp), List.take_of_length_le (by simp)]
  rw [e1, e2]
  have e3 : ((l ++ [z]).take (j + 1)).length = j + 1 := by simp; omega
  have e4 : ((l ++ [z]).take (j + 1)).take j = l.take j := by
    rw [List.take_take, Nat.min_eq_left (by omega), List.take_append_of_le_length hj]
  apply List.ext_getElem?
  intro i
  rw [List.getElem?_set]
  by_cases hi : j = i
  · subst hi
    rw [if_pos rfl, if_pos (by rw [List.length_append, e3]; omega), List.getElem?_append_right (by rw [List.length_take]; omega)]
    simp [Nat.min_eq_left hj]
  · rw [if_neg hi]
    by_cases h2 : i < j
    · rw [List.getElem?_append_left (by rw [e3]; omega), List.getElem?_append_left (by rw [List.length_take]; omega)]
      conv => rhs; rw [← e4, List.getElem?_take, if_pos h2]
    · rw [List.getElem?_append_right (by rw [e3]; omega), e3, List.getElem?_append_right (by rw [List.length_take]; omega)]
      simp only [List.length_take, Nat.min_eq_left hj]
      obtain ⟨m, rfl⟩ : ∃ m, i = j + 1 + m := ⟨i - (j + 1), by omega⟩
      rw [show j + 1 + m - (j + 1) = m by omega, show j + 1 + m - j = m + 1 by omega]
      rfl
theorem keepC {w : World} {g : Nat} {v0 v1 v2 v3 : Value} {t : TypeId} (h : w.heap[g]? = some (.cells #[v0, v1, v2, v3] t (0, 0))) : w.cell? ⟨g, 0, none⟩ = some v0 ∧ w.cell? ⟨g, 1, none⟩ = some v1 ∧ w.cell? ⟨g, 2, none⟩ = some v2 ∧ w.cell? ⟨g, 3, none⟩ = some v3 :=
  ⟨(blk_cell h 0).trans rfl, (blk_cell h 1).trans rfl, (blk_cell h 2).trans rfl, (blk_cell h 3).trans rfl⟩
theorem setCells4 (w : World) (g o : Nat) (a b c d : Value) : w.setCells g o [a, b, c, d] = (((w.setCell ⟨g, o, none⟩ a).setCell ⟨g, o + 1, none⟩ b).setCell ⟨g, o + 2, none⟩ c).setCell ⟨g, o + 3, none⟩ d := rfl
theorem flatM {w w' : World} {base base' : Nat} {ok ok' : Nat → Prop} {x : Cel} {cs : List Value} (h : k48.M w base ok x cs) : k48.M w' base' ok' x cs := by rw [k48_openM h]; exact k48_mkM _ _ _ x
theorem call_ahead (a0 a1 : ByteArray) (a2 : Int) (a3 : Bool) (b0 b1 : ByteArray) (b2 : Int) (b3 : Bool) (r : Bool) (w : World) (h : aheadB ⟨a0, a1, a2, a3⟩ ⟨b0, b1, b2, b3⟩ = r) :
    Calls Try.prog 95 #[.agg #[.string a0, .string a1, .int .i64 a2, .bool a3], .agg #[.string b0, .string b1, .int .i64 b2, .bool b3]] w fun e w' => e = .returned (.bool r) ∧ Below w.heap.size w w' :=
  spec_l17Ahead.calls a0 a1 a2 a3 b0 b1 b2 b3 r w ((ahead_f ⟨a0, a1, a2, a3⟩ ⟨b0, b1, b2, b3⟩).trans (by rw [h]))
set_option maxHeartbeats 3200000 in
set_option maxRecDepth 100000 in
theorem call_in (P0_ : Nat → Prop) (u : Value) (l0 : List Cel) (c : Cel) (w0 w : World) (hB : Below w0.heap.size w0 w) (ho0 : Kd.R k48 48 w w0.heap.size P0_ u l0) (hl : l0.length ≤ 1000000000) :
    Calls Try.prog 91 #[u, .agg #[.string c.f0, .string c.f1, .int .i64 c.f2, .bool c.f3]] w fun e w' => ∃ v0_ : Value, e = .returned v0_ ∧ Kd.R k48 48 w' w0.heap.size (fun k_ => (P0_ k_ ∨ w.heap.size ≤ k_)) v0_ (insC c l0) ∧ Below w0.heap.size w0 w' ∧ Kept w w' (fun k_ => P0_ k_) := by
  obtain ⟨c0, c1, c2, c3⟩ := c
  have HO := zA (Kd.R_mono (Kd.R_bound ho0) (ok' := fun k_ => (P0_ k_ ∨ w.heap.size ≤ k_) ∧ k_ ≠ w.heap.size) (fun k hk => ⟨.inl hk.1, fun h => absurd hk.2.2.1 (by omega)⟩))
  have HB := zA hB
  have HK := zA (Kept.refl w (fun k_ => P0_ k_))
  have HW := zA hB.size
  obtain ⟨A, cap, rfl, hcap, _⟩ := Kd.R_reads ho0
  clear hB ho0
  simp only []
  go_enter Try.func91, Try.ntmps91
  go_wp2
  have B3 := zA (blk_new w (.cells #[.string c0, .string c1, .int .i64 c2, .bool c3] 48))
  have hb := below_alloc (Below.refl w.heap.size w) (.cells #[.string c0, .string c1, .int .i64 c2, .bool c3] 48)
  replace HO := zA (Kd.R_below HO.out hb)
  replace HB := zA (below_then HB.out HW.out hb)
  replace HK := zA (HK.out.below hb)
  clear hb
  generalize w.alloc (.cells #[.string c0, .string c1, .int .i64 c2, .bool c3] 48) = W1 at *
  obtain ⟨gb, hgb1⟩ : ∃ gb, gb = w.heap.size := ⟨_, rfl⟩
  have hgb : Aside0 (w.heap.size ≤ gb) := ⟨by rw [hgb1]; exact Nat.le_refl _⟩
  rw [← hgb1] at B3
  replace HO := zA (Kd.R_mono HO.out (ok' := fun k_ => (P0_ k_ ∨ w.heap.size ≤ k_) ∧ k_ ≠ gb) (fun k hk => ⟨hk.1, by rw [hgb1]; exact hk.2⟩))
  simp only [← hgb1]
  clear hgb1
  go_loopg [5] (l0.length + 1) (fun kq v5 wr => ∃ j : Nat, (j + kq = l0.length + 1 ∧ j ≤ l0.length) ∧ v5 = .int .i64 (j : Int) ∧ Aside0 (∀ x ∈ l0.take j, aheadB x ⟨c0, c1, c2, c3⟩ = true) ∧ Aside0 (Kd.R k48 48 wr w0.heap.size (fun k_ => (P0_ k_ ∨ w.heap.size ≤ k_) ∧ k_ ≠ gb) (.slice A l0.length cap) l0) ∧ Aside0 (wr.heap[gb]? = some (.cells #[.string c0, .string c1, .int .i64 c2, .bool c3] 48 (0, 0))) ∧ Aside0 (Below w0.heap.size w0 wr) ∧ Aside0 (Kept w wr (fun k_ => P0_ k_)))
  case atStart => exact ⟨0, ⟨by omega, Nat.zero_le _⟩, rfl, ⟨by simp⟩, ⟨HO.out⟩, ⟨B3.out⟩, ⟨HB.out⟩, ⟨HK.out⟩⟩
  case round =>
    clear HO B3 HB HK
    obtain ⟨j, hj, rfl, HA, HO, B3, HB, HK⟩ := hrel
    by_cases hlt : j < l0.length
    case pos =>
      obtain ⟨⟨k0, k1, k2, k3⟩, hye⟩ : ∃ c : Cel, l0[j] = c := ⟨_, rfl⟩
      obtain ⟨ad, ee, g0, g1, g2, g3⟩ := elemC (Kd.R_reads' HO.out).2.2 (Below.refl _ _) hlt hye
      have HE := zA ee
      clear ee
      have elemP : Aside0 (∀ W' : World, Below wr.heap.size wr W' → W'.cell? (ad.add (j * 4)) = some (.string k0) ∧ W'.cell? ⟨(ad.add (j * 4)).block, (ad.add (j * 4)).off + 1, none⟩ = some (.string k1) ∧ W'.cell? ⟨(ad.add (j * 4)).block, (ad.add (j * 4)).off + 2, none⟩ = some (.int .i64 k2) ∧ W'.cell? ⟨(ad.add (j * 4)).block, (ad.add (j * 4)).off + 3, none⟩ = some (.bool k3)) := ⟨fun W' hb => by
        obtain ⟨ad2, ee, g0, g1, g2, g3⟩ := elemC (Kd.R_reads' HO.out).2.2 hb hlt hye
        cases HE.out.symm.trans ee
        exact ⟨g0, g1, g2, g3⟩⟩
      obtain ⟨e1, hr⟩ : ∃ e1, aheadB ⟨k0, k1, k2, k3⟩ ⟨c0, c1, c2, c3⟩ = e1 := ⟨_, rfl⟩
      replace hye := zA hye
      clear g0 g1 g2 g3
      have hd1 : decide ((j : Int) < (l0.length : Int)) = true := decide_eq_true (by omega)
      have hd2 : decide (j < l0.length) = true := decide_eq_true hlt
      have HY := zA (Below.refl wr.heap.size wr)
      go_upto_region 2 with (fail)
      go_cut [17] (fun v17 wc => v17 = .bool e1 ∧ Aside0 (Kd.R k48 48 wc w0.heap.size (fun k_ => (P0_ k_ ∨ w.heap.size ≤ k_) ∧ k_ ≠ gb) (.slice A l0.length cap) l0) ∧ Aside0 (wc.heap[gb]? = some (.cells #[.string c0, .string c1, .int .i64 c2, .bool c3] 48 (0, 0))) ∧ Aside0 (Below w0.heap.size w0 wc) ∧ Aside0 (Kept w wc (fun k_ => P0_ k_)))
      case first =>
        obtain rfl := HE.out
        go_region_held3 (fun w' => (w'.cell? (ad.add (j * 4)) = some (.string k0) ∧ w'.cell? ⟨(ad.add (j * 4)).block, (ad.add (j * 4)).off + 1, none⟩ = some (.string k1) ∧ w'.cell? ⟨(ad.add (j * 4)).block, (ad.add (j * 4)).off + 2, none⟩ = some (.int .i64 k2) ∧ w'.cell? ⟨(ad.add (j * 4)).block, (ad.add (j * 4)).off + 3, none⟩ = some (.bool k3)) ∧ (w'.cell? ⟨gb, 0, none⟩ = some (.string c0) ∧ w'.cell? ⟨gb, 1, none⟩ = some (.string c1) ∧ w'.cell? ⟨gb, 2, none⟩ = some (.int .i64 c2) ∧ w'.cell? ⟨gb, 3, none⟩ = some (.bool c3))) (exact ⟨elemP.out _ (by first | exact HY.out | exact HY.out.drew | exact below_drew1 HY.out), keepC (by (with_reducible repeat (first | refine blk_drewN ?_ _ | refine blk_drew ?_)); exact B3.out)⟩) ((go_at_call 95; refine (call_ahead k0 k1 k2 k3 c0 c1 c2 c3 e1 _ hr).mono ?_; rintro e w' ⟨rfl, hb⟩; replace B3 := zA (blk_below (blk_drew B3.out) hb); replace HO := zA (Kd.R_below (Kd.R_drew HO.out) hb); replace HB := zA (below_then (below_drew1 HB.out) (show w0.heap.size ≤ _ from (HB.out.size)) hb); replace HK := zA (HK.out.drew.below hb); replace HY := zA (below_then (below_drew1 HY.out) (show wr.heap.size ≤ _ from HY.out.size) hb); clear hb))
        all_goals (go_wp2_with (fail); go_meet; (case rel => exact ⟨rfl, ⟨by (with_reducible repeat (first | apply Kd.R_alloc | apply Kd.R_drewN | apply Kd.R_drew)); exact HO.out⟩, ⟨by (with_reducible repeat (first | refine blk_drewN ?_ _ | refine blk_drew ?_)); exact B3.out⟩, ⟨by repeat (first | (with_reducible first | exact HB.out | apply below_alloc | apply pw_below_drewN | apply below_drew1) | exact HB.out)⟩, ⟨by first | exact HK.out | exact HK.out.drewN _⟩⟩))
      clear HO B3 HB HK
      obtain ⟨rfl, HO, B3, HB, HK⟩ := hcut
      cases e1
      case true =>
        have HA2 : Aside0 (∀ x ∈ l0.take (j + 1), aheadB x ⟨c0, c1, c2, c3⟩ = true) := ⟨by
          intro x hx
          rw [List.take_succ_eq_append_getElem hlt] at hx
          rcases List.mem_append.1 hx with h | h
          · exact HA.out x h
          · rw [List.mem_singleton.1 h, hye.out]; exact hr⟩
        go_wp2_with (fail)
        go_roundg (l0.length - j)
        case measure => omega
        case rel => exact ⟨j + 1, ⟨by omega, by omega⟩, by go_num, ⟨HA2.out⟩, ⟨by (with_reducible repeat (first | apply Kd.R_alloc | apply Kd.R_drewN | apply Kd.R_drew)); exact HO.out⟩, ⟨by (with_reducible repeat (first | refine blk_drewN ?_ _ | refine blk_drew ?_)); exact B3.out⟩, ⟨by repeat (first | (with_reducible first | exact HB.out | apply below_alloc | apply pw_below_drewN | apply below_drew1) | exact HB.out)⟩, ⟨by first | exact HK.out | exact HK.out.drewN _⟩⟩
      case false =>
        have hstop : ∀ x ∈ l0[j]?, aheadB x ⟨c0, c1, c2, c3⟩ = false := by
          intro x hx
          rw [List.getElem?_eq_getElem hlt, hye.out] at hx
          cases hx
          exact hr
        clear hye hr elemP HY
        have HI := zA (insC_at (c := ⟨c0, c1, c2, c3⟩) hj.2 HA.out hstop)
        clear HA hstop hd1 hd2
        have hkw := zA HK.out.1
        go_wp2_with ((with_reducible refine gate_builtin (b := .append) (xs := #[.tmp 20, .tmp 22]) rfl ?_); at_builtin; refine Kd.R_append k48 (w0 := w0) w0.heap.size rfl (.tmp 20) (.tmp 22) 28 48 (.agg #[(.string ⟨#[]⟩), (.string ⟨#[]⟩), (.int .i64 0), (.bool false)]) 48 rfl Try.underlying28 info48 rfl (by decide) (by omega) (.slice A l0.length cap) l0 z48 [.string ⟨#[]⟩, .string ⟨#[]⟩, .int .i64 0, .bool false] (fun k_ => (P0_ k_ ∨ w.heap.size ≤ k_) ∧ k_ ≠ gb) (fun _ => False) rfl rfl ?aP (fun _ hk => hk.elim) ?aF ?aO ?aB ?aS ?aL ?_; (case aP => exact k48_mkM _ _ _ z48); (case aB => exact (by repeat (first | (with_reducible first | exact HB.out | apply below_alloc | apply pw_below_drewN | apply below_drew1) | exact HB.out))); (case aF => exact (fun k_ hk => ⟨.inr (Nat.le_trans hkw.out hk), fun h => absurd (blk_lt B3.out) (Nat.not_lt.2 (h ▸ hk))⟩)); (case aO => exact (by (with_reducible repeat (first | apply Kd.R_alloc | apply Kd.R_drewN | apply Kd.R_drew)); exact HO.out)); (case aS => exact (show w0.heap.size ≤ _ from (HB.out.size))); (case aL => omega); intro v1 w5 ho hb hg hat; have HO2 := zA ho; have HB2 := zA hb; have HK2 := zA (Kept.of_grown hg (by first | exact HK.out | exact HK.out.drewN _ | exact HK.out.alloc _) (fun k e => (HO.out.1 k e).1)); have B2 := zA (blk_grown (show _ = some _ from (by first | exact B3.out | exact blk_drewN B3.out _ | exact blk_alloc B3.out _)) hg (fun h => (HO.out.1 gb h.symm).2 rfl)); clear ho hb hg hat HO HB HK B3)
        obtain ⟨X, hX⟩ : ∃ X, X = l0 ++ [z48] := ⟨_, rfl⟩
        rw [← hX] at HO2
        have hXl := zA (show X.length = l0.length + 1 by rw [hX]; simp)
        obtain ⟨g, cap2, rfl, hg1, hg2, _⟩ := Kd.R_form HO2.out (by have := hXl.out; omega)
        have hcp : X.length ≤ cap2 := (Kd.R_reads' HO2.out).2.1
        have hcx : X.length ≤ 9223372036854775807 := by have := hXl.out; omega
        have wj : IntKind.i64.wrap ((j : Int) + 1) = (j : Int) + 1 := (i64_w _).trans (by unfold wrap64; omega)
        obtain ⟨i0, hi0, hzz⟩ := Option.map_eq_some_iff.1 info48
        simp only [Prod.mk.injEq] at hzz
        obtain ⟨_, hz1, _⟩ := hzz
        obtain ⟨dv, hdv⟩ : ∃ dv : Value, dv = .slice (if cap2 = j + 1 then some ⟨g, 0, none⟩ else (some (⟨g, 0, none⟩ : Addr)).map (·.add ((j + 1) * 4))) (X.length - (j + 1)) (cap2 - (j + 1)) := ⟨_, rfl⟩
        obtain ⟨sv, hsv⟩ : ∃ sv : Value, sv = .slice (if cap2 = j then some ⟨g, 0, none⟩ else (some (⟨g, 0, none⟩ : Addr)).map (·.add (j * 4))) (X.length - j) (cap2 - j) := ⟨_, rfl⟩
        have hcut1 := cut_from (P := Try.prog) 28 48 .i64 Try.underlying28 hi0 4 hz1 (some ⟨g, 0, none⟩) X.length cap2 ((j : Int) + 1) (by omega) (by have := hXl.out; omega)
        have hcut2 := cut_from (P := Try.prog) 28 48 .i64 Try.underlying28 hi0 4 hz1 (some ⟨g, 0, none⟩) X.length cap2 (j : Int) (by omega) (by have := hXl.out; omega)
        rw [show ((j : Int) + 1).toNat = j + 1 by omega, ← hdv] at hcut1
        rw [Int.toNat_natCast, ← hsv] at hcut2
        replace hdv := zA hdv
        replace hsv := zA hsv
        replace hX := zA hX
        have hjX : j < X.length := by have := hXl.out; omega
        have hi4 : (Try.prog.info? 48).map (·.size) = some 4 := by kernel_rfl
        clear hi0 hz1
        go_still_tail 7, (by kernel_rfl)
        refine wpList_shift rfl (.tmp 27) (.tmp 30) 28 rfl flatM (Kd.R_drew HO2.out) hjX (by decide) Try.underlying28 hi4 hdv.out hsv.out rfl rfl ?_
        intro k6 w6 hR hG
        have HP := zA (HO2.out.1 g rfl)
        have HO := zA hR
        have HB := zA (pw_below_grown (show Below w0.heap.size w0 _ from HB2.out.drew) (some g) (show w0.heap.size ≤ _ from HB2.out.size) hG (fun k hk => by injection hk with hk; exact hk ▸ hg1))
        have HK := zA (Kept.of_grown hG HK2.out.drew (fun k hk => by injection hk with hk; exact hk ▸ HP.out.1))
        have B3 := zA (blk_grown (blk_drew B2.out) hG (fun h => by injection h with h; exact HP.out.2 h.symm))
        clear hR hG HO2 HB2 HK2 B2 hcut1 hcut2
        have hx0 := (keepC B3.out).1
        have hx1 := (keepC B3.out).2.1
        have hx2 := (keepC B3.out).2.2.1
        have hx3 := (keepC B3.out).2.2.2
        obtain ⟨cO, hcO, hmO, hcO1, hcO2⟩ := Kd.R_elem HO.out z48 ((j : Nat) : Int) (by omega) (by have := hjX; omega)
        obtain rfl := k48_openM hmO
        have hy0 : w6.cell? ⟨g, j * 4, none⟩ = some _ := hcO1 0 _ rfl
        have hy1 : w6.cell? ⟨g, j * 4 + 1, none⟩ = some _ := hcO1 1 _ rfl
        have hy2 : w6.cell? ⟨g, j * 4 + 2, none⟩ = some _ := hcO1 2 _ rfl
        have hy3 : w6.cell? ⟨g, j * 4 + 3, none⟩ = some _ := hcO1 3 _ rfl
        have hf0 : w6.frozen? ⟨g, j * 4, none⟩ = false := hcO2 0
        have hf1 : w6.frozen? ⟨g, j * 4 + 1, none⟩ = false := hcO2 1
        have hf2 : w6.frozen? ⟨g, j * 4 + 2, none⟩ = false := hcO2 2
        have hf3 : w6.frozen? ⟨g, j * 4 + 3, none⟩ = false := hcO2 3
        have hseg0 := (Kd.R_seg (d := k48) HO.out ((j : Nat) : Int) (by omega) (by have := hjX; omega) (seg := [.string c0, .string c1, .int .i64 c2, .bool c3]) (j := 0) hcO hcO1 (Nat.le_refl 4) (x' := ⟨c0, c1, c2, c3⟩) (okp := fun _ => False) (show k48.M _ _ _ _ _ from k48_mkM _ _ _ (⟨c0, c1, c2, c3⟩ : Cel)) (fun _ h => h.elim))
        rw [Int.toNat_natCast, show j * k48.sz + 0 = j * 4 from rfl, setCells4] at hseg0
        have hseg := zA hseg0
        clear hseg0
        have HT : Aside0 ((shifted X j).set j ⟨c0, c1, c2, c3⟩ = insC ⟨c0, c1, c2, c3⟩ l0) := ⟨by rw [hX.out, shift_ins l0 _ _ _ (by omega)]; exact HI.out.symm⟩
        clear hcO hcO1 hcO2 hmO
        go_wp2_with (fail)
        go_ret
        refine ⟨_, rfl, ?_, ?_, ?_⟩
        · have h := hseg.out.1
          rw [HT.out] at h
          exact Kd.R_mono (show Kd.R _ _ _ _ (fun k_ => (P0_ k_ ∨ w.heap.size ≤ k_) ∧ k_ ≠ gb) _ _ from h) (fun k hk => hk.1)
        · exact pw_below_grown HB.out (some g) HB.out.size hseg.out.2 (fun k hk => by injection hk with hk; exact hk ▸ hg1)
        · exact Kept.of_grown hseg.out.2 HK.out (fun k hk => by injection hk with hk; exact hk ▸ HP.out.1)
    case neg =>
      obtain rfl : j = l0.length := by omega
      have hd1 : decide ((l0.length : Int) < (l0.length : Int)) = false := decide_eq_false (by omega)
      have hd2 : decide (l0.length < l0.length) = false := decide_eq_false (by omega)
      go_upto_region 2 with (fail)
      go_quiet (fail)
      have hstop : ∀ x ∈ l0[l0.length]?, aheadB x ⟨c0, c1, c2, c3⟩ = false := by simp
      have HI := zA (insC_at (c := ⟨c0, c1, c2, c3⟩) (Nat.le_refl _) HA.out hstop)
      clear HA hstop hd1 hd2
      have hkw := zA HK.out.1
      go_wp2_with ((with_reducible refine gate_builtin (b := .append) (xs := #[.tmp 20, .tmp 22]) rfl ?_); at_builtin; refine Kd.R_append k48 (w0 := w0) w0.heap.size rfl (.tmp 20) (.tmp 22) 28 48 (.agg #[(.string ⟨#[]⟩), (.string ⟨#[]⟩), (.int .i64 0), (.bool false)]) 48 rfl Try.underlying28 info48 rfl (by decide) (by omega) (.slice A l0.length cap) l0 z48 [.string ⟨#[]⟩, .string ⟨#[]⟩, .int .i64 0, .bool false] (fun k_ => (P0_ k_ ∨ w.heap.size ≤ k_) ∧ k_ ≠ gb) (fun _ => False) rfl rfl ?aP (fun _ hk => hk.elim) ?aF ?aO ?aB ?aS ?aL ?_; (case aP => exact k48_mkM _ _ _ z48); (case aB => exact (by repeat (first | (with_reducible first | exact HB.out | apply below_alloc | apply pw_below_drewN | apply below_drew1) | exact HB.out))); (case aF => exact (fun k_ hk => ⟨.inr (Nat.le_trans hkw.out hk), fun h => absurd (blk_lt B3.out) (Nat.not_lt.2 (h ▸ hk))⟩)); (case aO => exact (by (with_reducible repeat (first | apply Kd.R_alloc | apply Kd.R_drewN | apply Kd.R_drew)); exact HO.out)); (case aS => exact (show w0.heap.size ≤ _ from (HB.out.size))); (case aL => omega); intro v1 w5 ho hb hg hat; have HO2 := zA ho; have HB2 := zA hb; have HK2 := zA (Kept.of_grown hg (by first | exact HK.out | exact HK.out.drewN _ | exact HK.out.alloc _) (fun k e => (HO.out.1 k e).1)); have B2 := zA (blk_grown (show _ = some _ from (by first | exact B3.out | exact blk_drewN B3.out _ | exact blk_alloc B3.out _)) hg (fun h => (HO.out.1 gb h.symm).2 rfl)); clear ho hb hg hat HO HB HK B3)
      obtain ⟨X, hX⟩ : ∃ X, X = l0 ++ [z48] := ⟨_, rfl⟩
      rw [← hX] at HO2
      have hXl := zA (show X.length = l0.length + 1 by rw [hX]; simp)
      obtain ⟨g, cap2, rfl, hg1, hg2, _⟩ := Kd.R_form HO2.out (by have := hXl.out; omega)
      have hcp : X.length ≤ cap2 := (Kd.R_reads' HO2.out).2.1
      have hcx : X.length ≤ 9223372036854775807 := by have := hXl.out; omega
      have wj : IntKind.i64.wrap ((l0.length : Int) + 1) = (l0.length : Int) + 1 := (i64_w _).trans (by unfold wrap64; omega)
      obtain ⟨i0, hi0, hzz⟩ := Option.map_eq_some_iff.1 info48
      simp only [Prod.mk.injEq] at hzz
      obtain ⟨_, hz1, _⟩ := hzz
      obtain ⟨dv, hdv⟩ : ∃ dv : Value, dv = .slice (if cap2 =  l0.length + 1 then some ⟨g, 0, none⟩ else (some (⟨g, 0, none⟩ : Addr)).map (·.add ((l0.length + 1) * 4))) (X.length - (l0.length + 1)) (cap2 - (l0.length + 1)) := ⟨_, rfl⟩
      obtain ⟨sv, hsv⟩ : ∃ sv : Value, sv = .slice (if cap2 = l0.length then some ⟨g, 0, none⟩ else (some (⟨g, 0, none⟩ : Addr)).map (·.add (l0.length * 4))) (X.length - l0.length) (cap2 - l0.length) := ⟨_, rfl⟩
      have hcut1 := cut_from (P := Try.prog) 28 48 .i64 Try.underlying28 hi0 4 hz1 (some ⟨g, 0, none⟩) X.length cap2 ((l0.length : Int) + 1) (by omega) (by have := hXl.out; omega)
      have hcut2 := cut_from (P := Try.prog) 28 48 .i64 Try.underlying28 hi0 4 hz1 (some ⟨g, 0, none⟩) X.length cap2 (l0.length : Int) (by omega) (by have := hXl.out; omega)
      rw [show ((l0.length : Int) + 1).toNat =  l0.length + 1 by omega, ← hdv] at hcut1
      rw [Int.toNat_natCast, ← hsv] at hcut2
      replace hdv := zA hdv
      replace hsv := zA hsv
      replace hX := zA hX
      have hjX : l0.length < X.length := by have := hXl.out; omega
      have hi4 : (Try.prog.info? 48).map (·.size) = some 4 := by kernel_rfl
      clear hi0 hz1
      go_still_tail 7, (by kernel_rfl)
      refine wpList_shift rfl (.tmp 27) (.tmp 30) 28 rfl flatM (Kd.R_drew HO2.out) hjX (by decide) Try.underlying28 hi4 hdv.out hsv.out rfl rfl ?_
      intro k6 w6 hR hG
      have HP := zA (HO2.out.1 g rfl)
      have HO := zA hR
      have HB := zA (pw_below_grown (show Below w0.heap.size w0 _ from HB2.out.drew) (some g) (show w0.heap.size ≤ _ from HB2.out.size) hG (fun k hk => by injection hk with hk; exact hk ▸ hg1))
      have HK := zA (Kept.of_grown hG HK2.out.drew (fun k hk => by injection hk with hk; exact hk ▸ HP.out.1))
      have B3 := zA (blk_grown (blk_drew B2.out) hG (fun h => by injection h with h; exact HP.out.2 h.symm))
      clear hR hG HO2 HB2 HK2 B2 hcut1 hcut2
      have hx0 := (keepC B3.out).1
      have hx1 := (keepC B3.out).2.1
      have hx2 := (keepC B3.out).2.2.1
      have hx3 := (keepC B3.out).2.2.2
      obtain ⟨cO, hcO, hmO, hcO1, hcO2⟩ := Kd.R_elem HO.out z48 ((l0.length : Nat) : Int) (by omega) (by have := hjX; omega)
      obtain rfl := k48_openM hmO
      have hy0 : w6.cell? ⟨g, l0.length * 4, none⟩ = some _ := hcO1 0 _ rfl
      have hy1 : w6.cell? ⟨g, l0.length * 4 + 1, none⟩ = some _ := hcO1 1 _ rfl
      have hy2 : w6.cell? ⟨g, l0.length * 4 + 2, none⟩ = some _ := hcO1 2 _ rfl
      have hy3 : w6.cell? ⟨g, l0.length * 4 + 3, none⟩ = some _ := hcO1 3 _ rfl
      have hf0 : w6.frozen? ⟨g, l0.length * 4, none⟩ = false := hcO2 0
      have hf1 : w6.frozen? ⟨g, l0.length * 4 + 1, none⟩ = false := hcO2 1
      have hf2 : w6.frozen? ⟨g, l0.length * 4 + 2, none⟩ = false := hcO2 2
      have hf3 : w6.frozen? ⟨g, l0.length * 4 + 3, none⟩ = false := hcO2 3
      have hseg0 := (Kd.R_seg (d := k48) HO.out ((l0.length : Nat) : Int) (by omega) (by have := hjX; omega) (seg := [.string c0, .string c1, .int .i64 c2, .bool c3]) (j := 0) hcO hcO1 (Nat.le_refl 4) (x' := ⟨c0, c1, c2, c3⟩) (okp := fun _ => False) (show k48.M _ _ _ _ _ from k48_mkM _ _ _ (⟨c0, c1, c2, c3⟩ : Cel)) (fun _ h => h.elim))
      rw [Int.toNat_natCast, show l0.length * k48.sz + 0 = l0.length * 4 from rfl, setCells4] at hseg0
      have hseg := zA hseg0
      clear hseg0
      have HT : Aside0 ((shifted X l0.length).set l0.length ⟨c0, c1, c2, c3⟩ = insC ⟨c0, c1, c2, c3⟩ l0) := ⟨by rw [hX.out, shift_ins l0 _ _ _ (by omega)]; exact HI.out.symm⟩
      clear hcO hcO1 hcO2 hmO
      go_wp2_with (fail)
      go_ret
      refine ⟨_, rfl, ?_, ?_, ?_⟩
      · have h := hseg.out.1
        rw [HT.out] at h
        exact Kd.R_mono (show Kd.R _ _ _ _ (fun k_ => (P0_ k_ ∨ w.heap.size ≤ k_) ∧ k_ ≠ gb) _ _ from h) (fun k hk => hk.1)
      · exact pw_below_grown HB.out (some g) HB.out.size hseg.out.2 (fun k hk => by injection hk with hk; exact hk ▸ hg1)
      · exact Kept.of_grown hseg.out.2 HK.out (fun k hk => by injection hk with hk; exact hk ▸ HP.out.1)
end Go.Proofs.Ythffllegmkolgaa.TreeK
