/- The reference's Scan, called. -/
import Derived.Test.YthffllegmkolgaaT10ParMark
import Derived.Test.YthffllegmkolgaaT10In
import Derived.Test.YthffllegmkolgaaT10TreeOwn
import Derived.Test.YthffllegmkolgaaT10FlPure
import Derived.Laws.Cover1
import Derived.BigQuiet
namespace Go.Proofs.Ythffllegmkolgaa.TreeK
open Go.RowKit Go.Proofs.YthffllegmkolgaaW.PrintWords Go.Proofs.YthffllegmkolgaaW.PrintLast Go.Proofs.YthffllegmkolgaaW.PrintMore Go.Proofs.Ythffllegmkolgaa.QTree Go.Proofs.Ythffllegmkolgaa.EvKit Go.Proofs.Ythffllegmkolgaa.GTree
set_option linter.unusedSimpArgs false
set_option linter.unusedVariables false
set_option linter.unnecessarySimpa false
theorem info_pairS : (Try.prog.info? TP).map (fun i => (i.zero, i.size, i.bytes)) = some (some (.agg #[.string ⟨#[]⟩, .string ⟨#[]⟩]), 2, 32) := by kernel_rfl
theorem srt_take {X : List Cel} {j : Nat} {c : Cel} (hj : j < X.length) (he : X[j] = c) : insC c (srt (X.take j)) = srt (X.take (j + 1)) := by
  unfold srt
  rw [List.take_succ_eq_append_getElem hj, he]
  unfold srtOn
  rw [List.foldl_append]; rfl
theorem srt_take_len (X : List Cel) (j : Nat) : (srt (X.take j)).length ≤ X.length := by
  rw [(srt_perm _).length_eq, List.length_take]; omega
theorem scan_same {X all : List Cel} {fr til : ByteArray} {seq : Int} {j : Nat} {c p : Cel} (hj : j < all.length) (hc : all[j] = c) (h0 : 0 < j) (hp : all[j - 1]? = some p) (he : p.f0.toList = c.f0.toList) : scanAt X all fr til seq j = none := by
  unfold scanAt keyAt
  rw [List.getElem?_eq_getElem hj, hc, hp]
  simp only [Option.map_some]
  rw [if_pos (.inl ⟨h0, by rw [he]⟩)]
theorem scan_out {X all : List Cel} {fr til : ByteArray} {seq : Int} {j : Nat} {c : Cel} (hj : j < all.length) (hc : all[j] = c) (hi : inR fr til c.f0 = false) : scanAt X all fr til seq j = none := by
  unfold scanAt
  rw [List.getElem?_eq_getElem hj, hc]
  simp only []
  rw [if_pos (.inr hi)]
theorem scan_got {X all : List Cel} {fr til : ByteArray} {seq : Int} {j : Nat} {c : Cel} (hj : j < all.length) (hc : all[j] = c) (hp : ∀ p, 0 < j → all[j - 1]? = some p → p.f0.toList ≠ c.f0.toList) (hi : inR fr til c.f0 = true) {a : ByteArray} {ok : Bool} (hl : lookR X c.f0 seq = (a, ok)) :
    scanAt X all fr til seq j = if ok = true then some ⟨c.f0, a⟩ else none := by
  unfold scanAt keyAt
  rw [List.getElem?_eq_getElem hj, hc]
  simp only []
  rw [if_neg, hl]
  rw [not_or]
  refine ⟨?_, by rw [hi]; simp⟩
  rintro ⟨h0, h⟩
  have h1 : j - 1 < all.length := by omega
  rw [List.getElem?_eq_getElem h1] at h
  exact hp _ h0 (List.getElem?_eq_getElem h1) (by simpa using h)
set_option maxHeartbeats 3200000 in
set_option maxRecDepth 100000 in
theorem scan_spec (A B : Option Addr) (c d : Nat) (x : Tre) (fr til : ByteArray) (seq : Int) (w : World) (h : TreeC w x A c B d) (s : sm_Tree x) :
    Calls Try.prog 46 #[.agg #[.slice A x.f0.length c, .slice B x.f1.length d, .int .i64 x.f2, .int .i64 x.f3], .string fr, .string til, .int .i64 seq] w fun e w' => ∃ v0 : Value, e = .returned v0 ∧ KP.R TP w' w.heap.size (fun _ => True) v0 (scanX x fr til seq) ∧ Below w.heap.size w w' := by
  have T1 : ∀ V : World, Below w.heap.size w V → _ := fun V hb => call_tree_spec A B c d x V (h.below hb) s
  have L1 : ∀ (key : ByteArray) (V : World), Below w.heap.size w V → _ := fun key V hb => call_look_spec A B c d x key seq V (h.below hb) s
  have A1 : trB x = true → ∀ V : World, Below w.heap.size w V → Calls Try.prog 56 #[.agg #[.slice A x.f0.length c, .slice B x.f1.length d, .int .i64 x.f2, .int .i64 x.f3]] V fun e w' => ∃ v0_ : Value, e = .returned v0_ ∧ KC.R TC w' V.heap.size (fun _ => True) v0_ (x.f0 ++ x.f1.flatten) ∧ Below V.heap.size V w' := fun ht V hb => by
    obtain ⟨k, hk⟩ := Ev.rounds (all_ev x.f0 x.f1 x.f2 x.f3 s.1.1 (fun y hy => (s.2.1.2 y hy).1) (tree_lens ht))
    exact spec_l17All.calls k A c _ B d _ _ _ _ V (h.below hb).1.2 h.1.1 (h.below hb).2.2 h.2.1 hk
  have HLK : trB x = true → ∀ key, lookX x key seq = lookR (x.f0 ++ x.f1.flatten) key seq := fun ht key => by unfold lookX; rw [if_pos ht]
  have HN : trB x = true → (allC x).length ≤ 400 := fun ht => (all_facts ht).1
  have HR : scanX x fr til seq = if trB x = true then scanR (allC x) fr til seq else [] := rfl
  obtain ⟨t, ht⟩ : ∃ t, trB x = t := ⟨_, rfl⟩
  rw [ht] at T1 A1 HLK HN HR
  obtain ⟨R, hR⟩ : ∃ R, R = scanX x fr til seq := ⟨_, rfl⟩
  obtain ⟨X, hX⟩ : ∃ X, X = x.f0 ++ x.f1.flatten := ⟨_, rfl⟩
  have hXa : allC x = X := hX.symm
  rw [hXa] at HN HR
  rw [← hR] at HR ⊢
  simp only [← hX] at A1 HLK
  replace T1 := zA T1
  replace L1 := zA L1
  replace A1 := zA A1
  replace HLK := zA HLK
  replace HN := zA HN
  replace HR := zA HR
  clear h s hX hXa ht hR
  go_enter Try.func46, Try.ntmps46
  go_upto_region 1 with (fail)
  have B1 := zA (blk_new w (.cells #[.slice A x.f0.length c, .slice B x.f1.length d, .int .i64 x.f2, .int .i64 x.f3] 31))
  have HB := zA (bel_alloc w (.cells #[.slice A x.f0.length c, .slice B x.f1.length d, .int .i64 x.f2, .int .i64 x.f3] 31))
  obtain ⟨g1, hg1⟩ : ∃ g1, g1 = w.heap.size := ⟨_, rfl⟩
  rw [← hg1] at B1
  have HG1 := zA (Nat.le_of_eq hg1.symm)
  rw [← hg1]
  clear hg1
  generalize w.alloc (.cells #[.slice A x.f0.length c, .slice B x.f1.length d, .int .i64 x.f2, .int .i64 x.f3] 31) = W1 at B1 HB ⊢
  go_upto_region 2 with ((with_reducible refine gate_dst (N := 17) rfl ?_); refine Kd.R_lit KP _ TP ?hg (N := 17) ?hd (xs := ([] : List Par)) (inner := []) (ok := fun _ => True) (okp := fun _ => True) ?hr ?hp (fun _ hk => hk) trivial (Below.refl _ _) (Nat.le_refl _) (by simp) ?_; (case hd => rfl); (case hg => rfl); (case hr => first | (go_simp; done) | (go_simp; rfl)); (case hp => exact (Reps.none _ _)); intro vL wL hoL hb hg_ hnew_; clear hg_ hnew_; have RO : Aside0 (KP.R TP wL w.heap.size (fun _ => True) vL []) := ⟨Kd.R_lower hoL HB.out.size⟩; replace B1 := zA (blk_below B1.out hb); replace HB := zA (bel HB.out hb); clear hoL hb)
  obtain ⟨A9, c9, rfl⟩ := Kd.R_slice RO.out
  obtain ⟨hx0, hx1, hx2, hx3⟩ := keep4 B1.out
  cases t
  case false =>
    obtain rfl : R = [] := by simpa using HR.out
    go_wp2_with (go_at_call 16; refine (T1.out _ (by repeat (first | (with_reducible exact HB.out) | apply pw_below_drewN))).mono ?_; rintro e w' ⟨rfl, hb⟩; replace RO := zA (Kd.R_below RO.out hb); replace HB := zA (bel (by repeat (first | (with_reducible exact HB.out) | apply pw_below_drewN)) hb); clear hb)
    go_ret
    exact ⟨_, rfl, Kd.R_mono RO.out (fun _ _ => trivial), by repeat (first | (with_reducible exact HB.out) | apply pw_below_drewN)⟩
  replace HR : Aside0 (R = scanR X fr til seq) := ⟨by simpa using HR.out⟩
  replace A1 := zA (A1.out rfl)
  replace HLK := zA (HLK.out rfl)
  replace HN := zA (HN.out rfl)
  go_upto_region 4 with (go_at_call 16; refine (T1.out _ (by repeat (first | (with_reducible exact HB.out) | apply pw_below_drewN))).mono ?_; rintro e w' ⟨rfl, hb⟩; replace B1 := zA (blk_below B1.out hb); replace RO := zA (Kd.R_below RO.out hb); replace HB := zA (bel (by repeat (first | (with_reducible exact HB.out) | apply pw_below_drewN)) hb); clear hb hx0 hx1 hx2 hx3)
  obtain ⟨M, hM⟩ : ∃ M, M = w'.heap.size := ⟨_, rfl⟩
  replace RO := zA (Kd.R_mono (Kd.R_bound RO.out) (ok' := fun k => k < M) (fun k h => by rw [hM]; exact h.2.2.1))
  have HMG : Aside0 (g1 < M ∧ w.heap.size ≤ M) := ⟨by rw [hM]; exact ⟨blk_lt B1.out, HB.out.size⟩⟩
  have HMV := zA (Nat.le_of_eq hM)
  clear hM T1
  go_upto_region 5 with ((with_reducible refine gate_dst (N := 22) rfl ?_); refine Kd.R_lit KC _ TC ?hg (N := 22) ?hd (xs := ([] : List Cel)) (inner := []) (ok := fun _ => True) (okp := fun _ => True) ?hr ?hp (fun _ hk => hk) trivial (Below.refl _ _) (Nat.le_refl _) (by simp) ?_; (case hd => rfl); (case hg => rfl); (case hr => first | (go_simp; done) | (go_simp; rfl)); (case hp => exact (Reps.none _ _)); intro vL wL hoL hb hg_ hnew_; clear hg_ hnew_; have RA : Aside0 (KC.R TC wL w.heap.size (fun k => M ≤ k) vL (srt (X.take 0))) := ⟨Kd.R_lower (Kd.R_mono (Kd.R_bound hoL) (fun k h => Nat.le_trans HMV.out h.2.1)) (show Below w.heap.size w _ from (by repeat (first | (with_reducible exact HB.out) | apply pw_below_drewN))).size⟩; have HMS : Aside0 (M ≤ wL.heap.size) := ⟨Nat.le_trans HMV.out hb.size⟩; replace B1 := zA (blk_below (by (with_reducible repeat (first | refine blk_drewN ?_ _ | refine blk_drew ?_)); exact B1.out) hb); replace RO := zA (Kd.R_below (by (with_reducible repeat (first | apply Kd.R_drewN | apply Kd.R_drew)); exact RO.out) hb); replace HB := zA (bel (by repeat (first | (with_reducible exact HB.out) | apply pw_below_drewN)) hb); clear hoL hb)
  obtain ⟨M2, hM2⟩ : ∃ M2, M2 = wL.heap.size := ⟨_, rfl⟩
  replace RA := zA (Kd.R_mono (Kd.R_bound RA.out) (ok' := fun k => M ≤ k ∧ k < M2) (fun k h => ⟨h.1, by rw [hM2]; exact h.2.2.1⟩))
  have HM2 : Aside0 (M ≤ M2) := ⟨by rw [hM2]; exact HMS.out⟩
  have HMV2 := zA (Nat.le_of_eq hM2)
  clear hM2 HMV HMS
  obtain ⟨hx0, hx1, hx2, hx3⟩ := keep4 B1.out
  go_upto_region 6 with (go_at_call 56; refine (A1.out _ (by repeat (first | (with_reducible exact HB.out) | apply pw_below_drewN))).mono ?_; rintro e w5 ⟨v5, rfl, hR, hb⟩; have RX := zA (Kd.R_lower (Kd.R_mono (Kd.R_bound hR) (ok' := fun k => M2 ≤ k ∧ k < w5.heap.size) (fun k h => ⟨Nat.le_trans HMV2.out h.2.1, h.2.2.1⟩)) (show Below w.heap.size w _ from (by repeat (first | (with_reducible exact HB.out) | apply pw_below_drewN))).size); have HN0 : Aside0 (M2 ≤ w5.heap.size) := ⟨Nat.le_trans HMV2.out hb.size⟩; replace B1 := zA (blk_below B1.out hb); replace RO := zA (Kd.R_below RO.out hb); replace RA := zA (Kd.R_below RA.out hb); replace HB := zA (bel (by repeat (first | (with_reducible exact HB.out) | apply pw_below_drewN)) hb); clear hR hb hx0 hx1 hx2 hx3 HMV2)
  obtain ⟨A5, c5, rfl⟩ := Kd.R_slice RX.out
  obtain ⟨N, hN⟩ : ∃ N, N = w5.heap.size := ⟨_, rfl⟩
  rw [← hN] at HN0
  simp only [← hN] at RX
  have HNV := zA (Nat.le_of_eq hN)
  clear hN
  replace RA : Aside0 (KC.R TC w5 w.heap.size (fun k => (M ≤ k ∧ k < M2) ∨ N ≤ k) vL (srt (X.take 0))) := ⟨Kd.R_mono RA.out (fun k hk => .inl hk)⟩
  go_wp2
  go_loopg [10, 12] (X.length + 1) (fun kq v10 v12 wr => ∃ (j : Nat), (j + kq = X.length + 1 ∧ j ≤ X.length) ∧ v12 = .int .i64 (j : Int) ∧ Aside0 (KC.R TC wr w.heap.size (fun k => (M ≤ k ∧ k < M2) ∨ N ≤ k) v10 (srt (X.take j))) ∧ Aside0 (blkT wr g1 (.slice A x.f0.length c) (.slice B x.f1.length d) x.f2 x.f3) ∧ Aside0 (KP.R TP wr w.heap.size (fun k => k < M) (.slice A9 0 c9) []) ∧ Aside0 (KC.R TC wr w.heap.size (fun k => M2 ≤ k ∧ k < N) (.slice A5 X.length c5) X) ∧ Aside0 (Below w.heap.size w wr ∧ N ≤ wr.heap.size))
  case atStart => exact ⟨0, ⟨by omega, Nat.zero_le _⟩, rfl, ⟨by first | exact RA.out | exact Kd.R_drewN RA.out _⟩, ⟨by first | exact B1.out | exact blk_drewN B1.out _⟩, ⟨by first | exact RO.out | exact Kd.R_drewN RO.out _⟩, ⟨by first | exact RX.out | exact Kd.R_drewN RX.out _⟩, ⟨by first | exact ⟨HB.out, HNV.out⟩ | exact ⟨pw_below_drewN HB.out _, HNV.out⟩⟩⟩
  case round =>
    clear RA B1 RO RX HB HNV
    obtain ⟨j, hj, rfl, RA, B1, RO, RX, HB⟩ := hrel
    by_cases hlt : j < X.length
    case pos =>
      obtain ⟨y, hy⟩ : ∃ y, X[j] = y := ⟨_, rfl⟩
      have HTF := zA (srt_take hlt hy)
      have HTL := zA (srt_take_len X j)
      obtain ⟨⟨k0, k1, k2, k3⟩, hye⟩ : ∃ c : Cel, y = c := ⟨_, rfl⟩
      obtain ⟨ad2, ee, e0, e1, e2, e3⟩ := elemC (Kd.R_reads' RX.out).2.2 (Below.refl _ _) hlt (hy.trans hye)
      cases ee
      rw [hye] at HTF
      clear hy hye
      have hw : wrap64 ((j : Int) + 1) = (j : Int) + 1 := w64 (by omega) (by have := HN.out; omega)
      go_wp2_with (go_at_call 91; refine (call_in (fun k => (M ≤ k ∧ k < M2) ∨ N ≤ k) _ (srt (X.take j)) ⟨k0, k1, k2, k3⟩ w _ HB.out.1 RA.out (by have h1 := HTL.out; have h2 := HN.out; omega)).mono ?_; rintro e w8 ⟨v8, rfl, hR, hb, hkp⟩; rw [HTF.out] at hR; replace RA := zA (Kd.R_mono hR (ok' := fun k => (M ≤ k ∧ k < M2) ∨ N ≤ k) (fun k h => by have := HB.out.2; omega)); replace B1 := zA (blk_kept B1.out hkp (fun h => by have h1 := HMG.out; have h2 := HM2.out; have h3 := HN0.out; omega)); replace RO := zA (Kd.R_kept RO.out hkp (fun k h h' => by have h1 := HMG.out; have h2 := HM2.out; have h3 := HN0.out; omega)); replace RX := zA (Kd.R_kept RX.out hkp (fun k h h' => by have h1 := HMG.out; have h2 := HM2.out; have h3 := HN0.out; omega)); replace HB := zA (And.intro hb (Nat.le_trans HB.out.2 hkp.1)); clear hR hb hkp e0 e1 e2 e3)
      go_roundg (X.length - j)
      case measure => omega
      case rel => exact ⟨j + 1, ⟨by omega, by omega⟩, by go_num, RA, B1, RO, RX, HB⟩
    obtain rfl : j = X.length := by omega
    clear RX
    rw [List.take_length] at RA
    obtain ⟨l, hl⟩ : ∃ l, l = srt X := ⟨_, rfl⟩
    rw [← hl] at RA
    have HR2 : Aside0 (R = scanN X l fr til seq l.length) := ⟨by rw [HR.out, scanR, hl]⟩
    have HLL : Aside0 (l.length ≤ 400) := ⟨by rw [hl, (srt_perm _).length_eq]; exact HN.out⟩
    clear hl HR HN
    obtain ⟨A7, c7, rfl⟩ := Kd.R_slice RA.out
    obtain ⟨N2, hN2⟩ : ∃ N2, N2 = wr.heap.size := ⟨_, rfl⟩
    have HNN : Aside0 (N ≤ N2 ∧ w.heap.size ≤ N2) := ⟨by rw [hN2]; exact ⟨HB.out.2, HB.out.1.size⟩⟩
    have HNV := zA (Nat.le_of_eq hN2)
    replace RA := zA (Kd.R_mono (Kd.R_bound RA.out) (ok' := fun k => M ≤ k ∧ k < N2) (fun k h => by have h1 := h.2.2.1; have h2 := h.1; have h3 := HM2.out; have h4 := HN0.out; omega))
    replace RO : Aside0 (KP.R TP wr w.heap.size (fun k => k < M ∨ N2 ≤ k) (.slice A9 0 c9) (scanN X l fr til seq 0)) := ⟨Kd.R_mono RO.out (fun k hk => .inl hk)⟩
    replace HB := zA HB.out.1
    clear hN2
    go_wp2
    go_loopg [9, 13] (l.length + 1) (fun kq v9 v13 wr => ∃ (j : Nat), (j + kq = l.length + 1 ∧ j ≤ l.length) ∧ v13 = .int .i64 (j : Int) ∧ Aside0 (KP.R TP wr w.heap.size (fun k => k < M ∨ N2 ≤ k) v9 (scanN X l fr til seq j)) ∧ Aside0 (blkT wr g1 (.slice A x.f0.length c) (.slice B x.f1.length d) x.f2 x.f3) ∧ Aside0 (KC.R TC wr w.heap.size (fun k => M ≤ k ∧ k < N2) (.slice A7 l.length c7) l) ∧ Aside0 (Below w.heap.size w wr ∧ N2 ≤ wr.heap.size))
    case atStart => exact ⟨0, ⟨by omega, Nat.zero_le _⟩, rfl, ⟨by first | exact RO.out | exact Kd.R_drewN RO.out _⟩, ⟨by first | exact B1.out | exact blk_drewN B1.out _⟩, ⟨by first | exact RA.out | exact Kd.R_drewN RA.out _⟩, ⟨by first | exact ⟨HB.out, HNV.out⟩ | exact ⟨pw_below_drewN HB.out _, HNV.out⟩⟩⟩
    case round =>
      clear RA B1 RO HB HNV
      obtain ⟨j, hj, rfl, RO, B1, RA, HB⟩ := hrel
      by_cases hlt : j < l.length
      case neg =>
        obtain rfl : j = l.length := by omega
        obtain ⟨A8, c8, rfl⟩ := Kd.R_slice RO.out
        go_wp2
        go_ret
        rw [HR2.out]
        exact ⟨_, rfl, Kd.R_mono RO.out (fun _ _ => trivial), HB.out.1⟩
      obtain ⟨a, ha⟩ : ∃ a, a = scanN X l fr til seq j := ⟨_, rfl⟩
      have HSU := zA (scanN_succ X l fr til seq j)
      have HSL := zA (scanN_len X l fr til seq j)
      rw [← ha] at RO HSU HSL
      clear ha
      obtain ⟨⟨k0, k1, k2, k3⟩, hye⟩ : ∃ c : Cel, l[j] = c := ⟨_, rfl⟩
      obtain ⟨ad2, ee, e0, e1, e2, e3⟩ := elemC (Kd.R_reads' RA.out).2.2 (Below.refl _ _) hlt hye
      subst ee
      have HYE := zA hye
      clear hye
      have hw : wrap64 ((j : Int) + 1) = (j : Int) + 1 := w64 (by omega) (by have := HLL.out; omega)
      obtain ⟨a1, h1⟩ : ∃ b, Op.bytesLess k0.toList fr.toList = b := ⟨_, rfl⟩
      obtain ⟨a2, h2⟩ : ∃ b, Op.bytesLess k0.toList til.toList = b := ⟨_, rfl⟩
      have HI : Aside0 (inR fr til k0 = (!a1 && a2)) := ⟨by unfold inR; rw [h1, h2]⟩
      obtain ⟨⟨r0, r1⟩, hr⟩ : ∃ r, lookX x k0 seq = r := ⟨_, rfl⟩
      have HLR : Aside0 (lookR X k0 seq = (r0, r1)) := ⟨(HLK.out k0).symm.trans hr⟩
      have L2 : Aside0 (∀ V : World, Below w.heap.size w V → _) := ⟨fun V hb => L1.out k0 V hb⟩
      rw [hr] at L2
      clear hr
      by_cases h0 : 0 < j
      case neg =>
        have q0 : decide ((0 : Int) < (j : Int)) = false := decide_eq_false (by omega)
        have q00 : ¬ (0 : Int) < (j : Int) := by omega
        have HP : Aside0 (∀ p, 0 < j → l[j - 1]? = some p → p.f0.toList ≠ k0.toList) := ⟨fun p h => absurd h h0⟩
        clear h0
        cases a1
        case true =>
          have HM : Aside0 (scanN X l fr til seq (j + 1) = a) := ⟨by rw [HSU.out, scan_out hlt HYE.out (HI.out.trans rfl)]; simp⟩
          go_wp2_with (fail)
          go_roundg (l.length - j)
          case measure => omega
          case rel => exact ⟨j + 1, ⟨by omega, by omega⟩, by go_num, ⟨by rw [HM.out]; first | exact RO.out | exact Kd.R_drewN RO.out _⟩, ⟨by first | exact B1.out | exact blk_drewN B1.out _⟩, ⟨by first | exact RA.out | exact Kd.R_drewN RA.out _⟩, ⟨by first | exact HB.out | exact ⟨pw_below_drewN HB.out.1 _, HB.out.2⟩⟩⟩
        cases a2
        case false =>
          have HM : Aside0 (scanN X l fr til seq (j + 1) = a) := ⟨by rw [HSU.out, scan_out hlt HYE.out (HI.out.trans rfl)]; simp⟩
          go_wp2_with (fail)
          go_roundg (l.length - j)
          case measure => omega
          case rel => exact ⟨j + 1, ⟨by omega, by omega⟩, by go_num, ⟨by rw [HM.out]; first | exact RO.out | exact Kd.R_drewN RO.out _⟩, ⟨by first | exact B1.out | exact blk_drewN B1.out _⟩, ⟨by first | exact RA.out | exact Kd.R_drewN RA.out _⟩, ⟨by first | exact HB.out | exact ⟨pw_below_drewN HB.out.1 _, HB.out.2⟩⟩⟩
        have HGOT := zA (scan_got hlt HYE.out HP.out (HI.out.trans rfl) HLR.out)
        obtain ⟨hx0, hx1, hx2, hx3⟩ := keep4 B1.out
        cases r1
        case false =>
          have HM : Aside0 (scanN X l fr til seq (j + 1) = a) := ⟨by rw [HSU.out, HGOT.out]; simp⟩
          go_wp2_with (go_at_call 20; refine (L2.out _ (by repeat (first | (with_reducible exact HB.out.1) | apply pw_below_drewN))).mono ?_; rintro e w8 ⟨rfl, hb⟩; replace RO := zA (Kd.R_below RO.out hb); replace B1 := zA (blk_below B1.out hb); replace RA := zA (Kd.R_below RA.out hb); replace HB := zA (And.intro (bel HB.out.1 hb) (Nat.le_trans HB.out.2 hb.size)); clear hb)
          go_roundg (l.length - j)
          case measure => omega
          case rel => exact ⟨j + 1, ⟨by omega, by omega⟩, by go_num, ⟨by rw [HM.out]; first | exact RO.out | exact Kd.R_drewN RO.out _⟩, ⟨by first | exact B1.out | exact blk_drewN B1.out _⟩, ⟨by first | exact RA.out | exact Kd.R_drewN RA.out _⟩, ⟨by first | exact HB.out | exact ⟨pw_below_drewN HB.out.1 _, HB.out.2⟩⟩⟩
        have HM : Aside0 (scanN X l fr til seq (j + 1) = a ++ [⟨k0, r0⟩]) := ⟨by rw [HSU.out, HGOT.out]; simp⟩
        go_wp2_with (first | (go_at_call 20; refine (L2.out _ (by repeat (first | (with_reducible exact HB.out.1) | apply pw_below_drewN))).mono ?_; rintro e w8 ⟨rfl, hb⟩; replace RO := zA (Kd.R_below RO.out hb); replace B1 := zA (blk_below B1.out hb); replace RA := zA (Kd.R_below RA.out hb); replace HB := zA (And.intro (bel HB.out.1 hb) (Nat.le_trans HB.out.2 hb.size)); clear hb) | ((with_reducible refine gate_builtin (b := .append) (xs := #[.tmp 78, .tmp 82]) rfl ?_); at_builtin; refine Kd.R_append KP (w0 := w) w.heap.size rfl (.tmp 78) (.tmp 82) 63 TP (.agg #[(.string ⟨#[]⟩), (.string ⟨#[]⟩)]) 32 rfl Try.underlying63 info_pairS rfl (by decide) (by omega) u9 a ⟨k0, r0⟩ [.string k0, .string r0] (fun k => k < M ∨ N2 ≤ k) (fun _ => False) rfl rfl ?aP (fun _ hk => hk.elim) ?aF ?aO ?aB ?aS ?aL ?_; (case aP => exact k105_mkM _ _ _ (⟨k0, r0⟩ : Par)); (case aF => exact (fun k hk => .inr (Nat.le_trans HB.out.2 hk))); (case aO => exact (by (with_reducible repeat (first | apply Kd.R_alloc | apply Kd.R_drewN | apply Kd.R_drew)); exact RO.out)); (case aB => exact (by repeat (first | (with_reducible exact HB.out.1) | apply below_alloc | apply pw_below_drewN))); (case aS => exact HB.out.1.size); (case aL => have h1 := HSL.out; have h2 := HLL.out; omega); intro v7 w9 ho hb hg hat; rw [← HM.out] at ho; obtain ⟨A10, c10, rfl⟩ := Kd.R_slice ho; have hne : ∀ k, M ≤ k → k < N2 → some k ≠ u9.ownBlock := (fun k h3 h4 he => by rcases (show k < M ∨ N2 ≤ k from RO.out.1 k he.symm) with h5 | h5 <;> omega); replace RA := zA (Kd.R_grown RA.out hg (fun k hk => hne k hk.1 hk.2)); replace B1 := zA (blk_grown B1.out hg (by first | exact Kd.R_ne RO.out B1.out (by decide) | exact fun h => Kd.R_ne RO.out B1.out (by decide) h.symm)); replace RO := zA ho; replace HB := zA (And.intro hb (Nat.le_trans HB.out.2 hg.size)); clear ho hb hg hat hne))
        go_roundg (l.length - j)
        case measure => omega
        case rel => exact ⟨j + 1, ⟨by omega, by omega⟩, by go_num, ⟨by first | exact RO.out | exact Kd.R_drewN RO.out _⟩, ⟨by first | exact B1.out | exact blk_drewN B1.out _⟩, ⟨by first | exact RA.out | exact Kd.R_drewN RA.out _⟩, ⟨by first | exact HB.out | exact ⟨pw_below_drewN HB.out.1 _, HB.out.2⟩⟩⟩
      obtain ⟨i, hi⟩ : ∃ i : Nat, j = i + 1 := ⟨j - 1, by omega⟩
      have hit : i < l.length := by omega
      have wj : wrap64 ((j : Int) - 1) = (i : Int) := by unfold wrap64; have := HLL.out; omega
      obtain ⟨⟨p0, p1, p2, p3⟩, hpe⟩ : ∃ c : Cel, l[i] = c := ⟨_, rfl⟩
      obtain ⟨ad3, ee, f0, f1, f2, f3⟩ := elemC (Kd.R_reads' RA.out).2.2 (Below.refl _ _) hit hpe
      have ee' := Option.some.inj ee
      subst ee'
      clear ee
      have MP : Aside0 (l[j - 1]? = some ⟨p0, p1, p2, p3⟩) := ⟨by rw [show j - 1 = i by omega, List.getElem?_eq_getElem hit, hpe]⟩
      clear hpe
      have q0 : decide ((0 : Int) < (j : Int)) = true := decide_eq_true (by omega)
      have q2 : (0 : Int) < (j : Int) := by omega
      have q4 : (i : Int) < (l.length : Int) := by omega
      have H0 := zA h0
      replace hi := zA hi
      clear h0
      obtain ⟨a3, h5⟩ : ∃ b, (p0.toList == k0.toList) = b := ⟨_, rfl⟩
      cases a3
      case true =>
        have HM : Aside0 (scanN X l fr til seq (j + 1) = a) := ⟨by rw [HSU.out, scan_same hlt HYE.out H0.out MP.out (by simpa using h5)]; simp⟩
        go_wp2_with (fail)
        go_roundg (l.length - j)
        case measure => omega
        case rel => exact ⟨j + 1, ⟨by omega, by omega⟩, by go_num, ⟨by rw [HM.out]; first | exact RO.out | exact Kd.R_drewN RO.out _⟩, ⟨by first | exact B1.out | exact blk_drewN B1.out _⟩, ⟨by first | exact RA.out | exact Kd.R_drewN RA.out _⟩, ⟨by first | exact HB.out | exact ⟨pw_below_drewN HB.out.1 _, HB.out.2⟩⟩⟩
      have HP : Aside0 (∀ p, 0 < j → l[j - 1]? = some p → p.f0.toList ≠ k0.toList) := ⟨fun p _ hp => by rw [MP.out] at hp; injection hp with hp; subst hp; intro h; simp at h5; exact h5 h⟩
      cases a1
      case true =>
        have HM : Aside0 (scanN X l fr til seq (j + 1) = a) := ⟨by rw [HSU.out, scan_out hlt HYE.out (HI.out.trans rfl)]; simp⟩
        go_wp2_with (fail)
        go_roundg (l.length - j)
        case measure => omega
        case rel => exact ⟨j + 1, ⟨by omega, by omega⟩, by go_num, ⟨by rw [HM.out]; first | exact RO.out | exact Kd.R_drewN RO.out _⟩, ⟨by first | exact B1.out | exact blk_drewN B1.out _⟩, ⟨by first | exact RA.out | exact Kd.R_drewN RA.out _⟩, ⟨by first | exact HB.out | exact ⟨pw_below_drewN HB.out.1 _, HB.out.2⟩⟩⟩
      cases a2
      case false =>
        have HM : Aside0 (scanN X l fr til seq (j + 1) = a) := ⟨by rw [HSU.out, scan_out hlt HYE.out (HI.out.trans rfl)]; simp⟩
        go_wp2_with (fail)
        go_roundg (l.length - j)
        case measure => omega
        case rel => exact ⟨j + 1, ⟨by omega, by omega⟩, by go_num, ⟨by rw [HM.out]; first | exact RO.out | exact Kd.R_drewN RO.out _⟩, ⟨by first | exact B1.out | exact blk_drewN B1.out _⟩, ⟨by first | exact RA.out | exact Kd.R_drewN RA.out _⟩, ⟨by first | exact HB.out | exact ⟨pw_below_drewN HB.out.1 _, HB.out.2⟩⟩⟩
      have HGOT := zA (scan_got hlt HYE.out HP.out (HI.out.trans rfl) HLR.out)
      obtain ⟨hx0, hx1, hx2, hx3⟩ := keep4 B1.out
      cases r1
      case false =>
        have HM : Aside0 (scanN X l fr til seq (j + 1) = a) := ⟨by rw [HSU.out, HGOT.out]; simp⟩
        go_wp2_with (go_at_call 20; refine (L2.out _ (by repeat (first | (with_reducible exact HB.out.1) | apply pw_below_drewN))).mono ?_; rintro e w8 ⟨rfl, hb⟩; replace RO := zA (Kd.R_below RO.out hb); replace B1 := zA (blk_below B1.out hb); replace RA := zA (Kd.R_below RA.out hb); replace HB := zA (And.intro (bel HB.out.1 hb) (Nat.le_trans HB.out.2 hb.size)); clear hb)
        go_roundg (l.length - j)
        case measure => omega
        case rel => exact ⟨j + 1, ⟨by omega, by omega⟩, by go_num, ⟨by rw [HM.out]; first | exact RO.out | exact Kd.R_drewN RO.out _⟩, ⟨by first | exact B1.out | exact blk_drewN B1.out _⟩, ⟨by first | exact RA.out | exact Kd.R_drewN RA.out _⟩, ⟨by first | exact HB.out | exact ⟨pw_below_drewN HB.out.1 _, HB.out.2⟩⟩⟩
      have HM : Aside0 (scanN X l fr til seq (j + 1) = a ++ [⟨k0, r0⟩]) := ⟨by rw [HSU.out, HGOT.out]; simp⟩
      go_wp2_with (first | (go_at_call 20; refine (L2.out _ (by repeat (first | (with_reducible exact HB.out.1) | apply pw_below_drewN))).mono ?_; rintro e w8 ⟨rfl, hb⟩; replace RO := zA (Kd.R_below RO.out hb); replace B1 := zA (blk_below B1.out hb); replace RA := zA (Kd.R_below RA.out hb); replace HB := zA (And.intro (bel HB.out.1 hb) (Nat.le_trans HB.out.2 hb.size)); clear hb) | ((with_reducible refine gate_builtin (b := .append) (xs := #[.tmp 78, .tmp 82]) rfl ?_); at_builtin; refine Kd.R_append KP (w0 := w) w.heap.size rfl (.tmp 78) (.tmp 82) 63 TP (.agg #[(.string ⟨#[]⟩), (.string ⟨#[]⟩)]) 32 rfl Try.underlying63 info_pairS rfl (by decide) (by omega) u9 a ⟨k0, r0⟩ [.string k0, .string r0] (fun k => k < M ∨ N2 ≤ k) (fun _ => False) rfl rfl ?aP (fun _ hk => hk.elim) ?aF ?aO ?aB ?aS ?aL ?_; (case aP => exact k105_mkM _ _ _ (⟨k0, r0⟩ : Par)); (case aF => exact (fun k hk => .inr (Nat.le_trans HB.out.2 hk))); (case aO => exact (by (with_reducible repeat (first | apply Kd.R_alloc | apply Kd.R_drewN | apply Kd.R_drew)); exact RO.out)); (case aB => exact (by repeat (first | (with_reducible exact HB.out.1) | apply below_alloc | apply pw_below_drewN))); (case aS => exact HB.out.1.size); (case aL => have h1 := HSL.out; have h2 := HLL.out; omega); intro v7 w9 ho hb hg hat; rw [← HM.out] at ho; obtain ⟨A10, c10, rfl⟩ := Kd.R_slice ho; have hne : ∀ k, M ≤ k → k < N2 → some k ≠ u9.ownBlock := (fun k h3 h4 he => by rcases (show k < M ∨ N2 ≤ k from RO.out.1 k he.symm) with h5 | h5 <;> omega); replace RA := zA (Kd.R_grown RA.out hg (fun k hk => hne k hk.1 hk.2)); replace B1 := zA (blk_grown B1.out hg (by first | exact Kd.R_ne RO.out B1.out (by decide) | exact fun h => Kd.R_ne RO.out B1.out (by decide) h.symm)); replace RO := zA ho; replace HB := zA (And.intro hb (Nat.le_trans HB.out.2 hg.size)); clear ho hb hg hat hne))
      go_roundg (l.length - j)
      case measure => omega
      case rel => exact ⟨j + 1, ⟨by omega, by omega⟩, by go_num, ⟨by first | exact RO.out | exact Kd.R_drewN RO.out _⟩, ⟨by first | exact B1.out | exact blk_drewN B1.out _⟩, ⟨by first | exact RA.out | exact Kd.R_drewN RA.out _⟩, ⟨by first | exact HB.out | exact ⟨pw_below_drewN HB.out.1 _, HB.out.2⟩⟩⟩
end Go.Proofs.Ythffllegmkolgaa.TreeK
