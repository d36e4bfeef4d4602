/- The program's Scan, called. -/
import Derived.Test.YthffllegmkolgaaT10SlSort
import Derived.Test.YthffllegmkolgaaT10RngV
import Derived.Test.YthffllegmkolgaaT10TreeOwn
import Derived.BigQuiet
import Derived.Laws.Cover1
namespace Go.Proofs.Ythffllegmkolgaa.TreeK
open Go.RowKit Go.Proofs.YthffllegmkolgaaW.PrintWords Go.Proofs.YthffllegmkolgaaW.PrintLast Go.Proofs.YthffllegmkolgaaW.PrintMore Go.Proofs.Ythffllegmkolgaa.QTree Go.Proofs.Ythffllegmkolgaa.EvKit Go.Proofs.Ythffllegmkolgaa.GTree Go.Proofs.Ythffllegmkolgaa.MapKit
set_option linter.unusedSimpArgs false
set_option linter.unusedVariables false
set_option linter.unnecessarySimpa false
theorem set_grown (W : World) (g j : Nat) (v : Value) : W.grownBy (W.setCell ⟨g, j, none⟩ v) (some g) :=
  ⟨rfl, rfl, rfl, by simp [World.setCell], fun i _ hi => Below.heap_setCell W ⟨g, j, none⟩ v i (fun h => hi (by rw [h]))⟩
theorem info_pair : (Try.prog.info? TP).map (fun i => (i.zero, i.size, i.bytes)) = some (some (.agg #[.string ⟨#[]⟩, .string ⟨#[]⟩]), 2, 32) := by kernel_rfl
theorem seenF_some {seq : Int} {X : List Cel} {k : List UInt8} {v : Value} (h : seenF seq X (.string k) = some v) : ∃ c, seenC seq X k = some c ∧ v = celV c := by
  unfold seenF at h
  obtain ⟨c, hc, rfl⟩ := Option.map_eq_some_iff.1 h
  exact ⟨c, hc, rfl⟩
theorem map_ne {w : World} {b n g : Nat} {f : Lit → Option Value} {cs : Array Value} {t : TypeId} {fr : Nat × Nat} (h : MapV Try.prog 9 w b n f) (hg : w.heap[g]? = some (.cells cs t fr)) : b ≠ g := by
  obtain ⟨D, ⟨es, clock, hb, _⟩, _⟩ := h
  intro e
  rw [e, hg] at hb
  cases hb
set_option maxHeartbeats 3200000 in
set_option maxRecDepth 100000 in
theorem scan_impl (A B : Option Addr) (c d : Nat) (x : Tre) (fr til : ByteArray) (seq : Int) (w : World) (h : TreeC w x A c B d) (s : sm_Tree x) :
    Calls Try.prog 47 #[.agg #[.slice A x.f0.length c, .slice B x.f1.length d, .int .i64 x.f2, .int .i64 x.f3], .string fr, .string til, .int .i64 seq] w fun e w' => ∃ v0 : Value, e = .returned v0 ∧ KP.R TP w' w.heap.size (fun _ => True) v0 (scanX x fr til seq) ∧ Below w.heap.size w w' := by
  have T1 : ∀ V : World, Below w.heap.size w V → _ := fun V hb => call_tree_impl A B c d x V (h.below hb) s
  have S1 : trB x = true → ∀ V : World, Below w.heap.size w V → _ := fun ht V hb => call_seen A B c d x.f0 x.f1 x.f2 x.f3 seq V (h.below hb).1.2 h.1.1 (h.below hb).2.2 h.2.1 (tree_len8 s ht) (tree_cells ht)
  have HN : trB x = true → noTie (allC x) = true ∧ (allC x).length ≤ 400 := fun ht => ⟨noTie_all ht, (all_facts ht).1⟩
  have HR : scanX x fr til seq = if trB x = true then scanR (allC x) fr til seq else [] := rfl
  obtain ⟨t, ht⟩ : ∃ t, trB x = t := ⟨_, rfl⟩
  rw [ht] at T1 S1 HN HR
  obtain ⟨R, hR⟩ : ∃ R, R = scanX x fr til seq := ⟨_, rfl⟩
  obtain ⟨X, hX⟩ : ∃ X, X = x.f0 ++ x.f1.flatten := ⟨_, rfl⟩
  have hXa : allC x = X := hX.symm
  rw [hXa] at HN HR
  rw [← hR] at HR ⊢
  simp only [← hX] at S1
  replace T1 := zA T1
  replace S1 := zA S1
  replace HN := zA HN
  replace HR := zA HR
  clear h s hX hXa ht hR
  have hmf : ∀ (fn : Fn) (first cap : Array Value) (w : World), (Instr.makeFunc fn first cap).run Try.prog w = .ok (.func fn first cap) w := fun _ _ _ _ => rfl
  go_enter Try.func47, Try.ntmps47
  go_upto_region 1 with (fail)
  have BK := zA (blk_new w (.cells #[.slice A x.f0.length c, .slice B x.f1.length d, .int .i64 x.f2, .int .i64 x.f3] 31))
  have HB := zA (bel_alloc w (.cells #[.slice A x.f0.length c, .slice B x.f1.length d, .int .i64 x.f2, .int .i64 x.f3] 31))
  obtain ⟨g1, hg1⟩ : ∃ g1, g1 = w.heap.size := ⟨_, rfl⟩
  rw [← hg1] at BK
  have HG1 := zA (Nat.le_of_eq hg1.symm)
  rw [← hg1]
  clear hg1
  generalize w.alloc (.cells #[.slice A x.f0.length c, .slice B x.f1.length d, .int .i64 x.f2, .int .i64 x.f3] 31) = W1 at BK HB ⊢
  obtain ⟨hx0, hx1, hx2, hx3⟩ := keep4 BK.out
  cases t
  case false =>
    obtain rfl : R = [] := by simpa using HR.out
    go_wp2_with (go_at_call 18; refine (T1.out _ (by repeat (first | (with_reducible exact HB.out) | apply pw_below_drewN))).mono ?_; rintro e w' ⟨rfl, hb⟩; replace HB := zA (bel (by repeat (first | (with_reducible exact HB.out) | apply pw_below_drewN)) hb); clear hb)
    go_ret
    exact ⟨_, rfl, Kd.R_nil _ _ _ _ _, by repeat (first | (with_reducible exact HB.out) | apply pw_below_drewN)⟩
  replace HR : Aside0 (R = scanR X fr til seq) := ⟨by simpa using HR.out⟩
  replace S1 := zA (S1.out rfl)
  replace HN := zA (HN.out rfl)
  go_upto_region 4 with (go_at_call 18; refine (T1.out _ (by repeat (first | (with_reducible exact HB.out) | apply pw_below_drewN))).mono ?_; rintro e w' ⟨rfl, hb⟩; replace BK := zA (blk_below BK.out hb); replace HB := zA (bel (by repeat (first | (with_reducible exact HB.out) | apply pw_below_drewN)) hb); clear hb hx0 hx1 hx2 hx3)
  have BO := zA (blk_new w' (.cells #[.slice none 0 0] 63))
  have hb := bel_alloc w' (.cells #[.slice none 0 0] 63)
  have HGO : Aside0 (w.heap.size ≤ w'.heap.size) := ⟨HB.out.size⟩
  replace BK := zA (blk_below BK.out hb)
  replace HB := zA (bel HB.out hb)
  clear hb T1
  generalize w'.alloc (.cells #[.slice none 0 0] 63) = W2 at BO BK HB ⊢
  generalize w'.heap.size = gO at BO HGO ⊢
  obtain ⟨hx0, hx1, hx2, hx3⟩ := keep4 BK.out
  go_upto_region 5 with (first
    | (go_at_call 62; refine (S1.out _ (by repeat (first | (with_reducible exact HB.out) | apply pw_below_drewN))).mono ?_; rintro e w5 ⟨b5, n5, rfl, hm, hb, hn5⟩; have HM := zA hm; have HN5 := zA hn5; replace BO := zA (blk_below BO.out hb); have HBG := zA (map_ne hm BO.out); replace HB := zA (bel (by repeat (first | (with_reducible exact HB.out) | apply pw_below_drewN)) hb); clear hm hn5 hb hx0 hx1 hx2 hx3 BK)
    | (at_range; refine MapV.range HM.out (Maps.string_keyed Try.underlying9) Try.underlying81 rfl _ rfl rfl ?_; intro w6 left0 cnt0 hr hl0 hc0 hb hz; have HR0 := zA hr; have HL0 := zA hl0; have HC0 := zA hc0; have HLT : Aside0 (b5 < w5.heap.size ∧ gO < w5.heap.size ∧ w.heap.size ≤ w5.heap.size) := ⟨HM.out.lt, blk_lt BO.out, HB.out.size⟩; replace BO := zA (blk_below BO.out hb); replace HB := zA (bel HB.out hb); have HN6 := zA (show w6.heap.size = w5.heap.size + 1 from hz); clear hr hl0 hc0 hb hz HM; generalize w5.heap.size = r5 at HR0 HLT HN6 ⊢; go_frame))
  obtain ⟨N, hN⟩ : ∃ N, N = r5 + 1 := ⟨_, rfl⟩
  have HNL : Aside0 (b5 < N ∧ gO < N ∧ r5 < N ∧ gO ≠ r5 ∧ w.heap.size ≤ N ∧ w.heap.size ≤ r5 ∧ N ≤ w6.heap.size ∧ b5 ≠ gO ∧ w.heap.size ≤ gO) := ⟨by have h1 := HLT.out; have h2 := HN6.out; have h3 := HBG.out; have h4 := HGO.out; omega⟩
  clear hN HLT HN6 HBG HGO
  go_loopg [10] (cnt0 + 1) (fun kq v10 wr => ∃ (left : Lit → Bool) (cnt : Nat) (ps : List Par) (v : Value), Aside0 (kq = cnt + 1) ∧ Aside0 (RngV Try.prog 9 wr b5 r5 n5 (seenF seq X) left cnt) ∧ Aside0 (Gath (seenC seq X) fr til left ps) ∧ Aside0 (ps.length + cnt ≤ 400) ∧ Aside0 (wr.heap[gO]? = some (.cells #[v] 63 (0, 0))) ∧ Aside0 (KP.R TP wr w.heap.size (fun k => N ≤ k) v ps) ∧ Aside0 (Below w.heap.size w wr ∧ N ≤ wr.heap.size))
  case atStart =>
    refine ⟨left0, cnt0, [], .slice none 0 0, ⟨rfl⟩, ⟨by first | exact HR0.out | exact HR0.out.drewN _⟩, ⟨Gath.start (fun k => ?_)⟩, ⟨?_⟩, ⟨by first | exact BO.out | exact blk_drewN BO.out _⟩, ⟨Kd.R_nil _ _ _ _ _⟩, ⟨by first | exact HB.out | exact pw_below_drewN HB.out _, HNL.out.2.2.2.2.2.2.1⟩⟩
    · rw [HL0.out k]; unfold seenF; simp
    · have h1 := HC0.out; have h2 := HN5.out; have h3 := HN.out.2; simp only [List.length_nil]; omega
  case round =>
    clear HR0 HL0 HC0 BO HB
    obtain ⟨left, cnt, ps, v, hkq, HR5, HGA, HCN, BO, HO, HB⟩ := hrel
    have hy0 : wr.cell? ⟨gO, 0, none⟩ = some v := (blk_cell BO.out 0).trans rfl
    go_wp2_with (at_next; refine RngV.next HR5.out (Maps.string_keyed Try.underlying9) Try.underlying9 rfl _ rfl rfl ?_ ?_)
    · -- nothing is left: the row is sorted and handed back
      intro hl0
      have HL := zA hl0
      clear hl0
      go_wp2_with (go_at_call 92; refine (sort_pairs (fun k => N ≤ k) v ps gO w _ HB.out.1 HO.out BO.out (by have := HCN.out; omega)).mono ?_; rintro e w9 ⟨rfl, l', hs, hR, hb, hkp⟩; replace BO := zA (blk_kept BO.out hkp (by have := HNL.out; omega)); replace HB := zA hb; replace HO := zA hR; have HS := zA hs; clear hb hR hs hkp hy0; have hy0 : w9.cell? ⟨gO, 0, none⟩ = some v := (blk_cell BO.out 0).trans rfl)
      go_ret
      have e1 : l' = R := by rw [HR.out]; exact HGA.out.done HL.out HN.out.1 HS.out.1 HS.out.2
      rw [← e1]
      exact ⟨_, rfl, Kd.R_mono HO.out (fun _ _ => trivial), HB.out⟩
    · -- an entry has come
      intro s v9 w2 cnt2 hs hlk hf hR2 hlt hg2 hs2 hen
      obtain ⟨⟨c0, c1, c2, c3⟩, hc, rfl⟩ := seenF_some hf
      have HRN := zA hR2
      have HSK := zA hs
      have HLK := zA hlk
      have HCC := zA hc
      have HLT := zA hlt
      have hkp : ∀ k, N ≤ k → some r5 ≠ some k := fun k hk h => by injection h with h; have := HNL.out; omega
      replace BO := zA (blk_grown BO.out hg2 (fun h => by injection h with h; have := HNL.out; omega))
      replace HO := zA (Kd.R_grown HO.out hg2 (fun k hk h => hkp k hk h.symm))
      replace HB := zA (And.intro (Below.grown HB.out.1 hg2 HB.out.1.size (fun k hk => by injection hk with hk; have := HNL.out; omega)) (Nat.le_trans HB.out.2 hg2.size))
      clear hs hlk hf hR2 hlt hg2 hs2 hc hkp hy0 HR5
      unfold celV at hen
      show wpList _ _ _ _ _ _
      unfold celV
      go_upto_region 7 with (fail)
      have B3 := zA (blk_new w2 (.cells #[.string c0, .string c1, .int .i64 c2, .bool c3] 48))
      have hb := bel_alloc w2 (.cells #[.string c0, .string c1, .int .i64 c2, .bool c3] 48)
      replace HRN := zA (HRN.out.below hb)
      replace BO := zA (blk_below BO.out hb)
      replace HO := zA (Kd.R_below HO.out hb)
      replace HB := zA (And.intro (bel HB.out.1 hb) (Nat.le_trans HB.out.2 hb.size))
      clear hb hen
      generalize w2.alloc (.cells #[.string c0, .string c1, .int .i64 c2, .bool c3] 48) = W3 at B3 HRN BO HO HB ⊢
      generalize w2.heap.size = g9 at B3 ⊢
      obtain ⟨hx0, hx1, hx2, hx3⟩ := keep4 B3.out
      have hy0 : W3.cell? ⟨gO, 0, none⟩ = some v := (blk_cell BO.out 0).trans rfl
      have hkm : Aside0 (cnt2 + 1 < gk) := ⟨by have h1 := hkq.out; have h2 := HLT.out; omega⟩
      have hcn : Aside0 (ps.length + cnt2 ≤ 400 ∧ ps.length + 1 + cnt2 ≤ 400) := ⟨by have h1 := HCN.out; have h2 := HLT.out; omega⟩
      obtain ⟨a1, h1⟩ : ∃ b, Op.bytesLess s.toList fr.toList = b := ⟨_, rfl⟩
      obtain ⟨a2, h2⟩ : ∃ b, Op.bytesLess s.toList til.toList = b := ⟨_, rfl⟩
      have HI : Aside0 (inR fr til s = (!a1 && a2)) := ⟨by unfold inR; rw [h1, h2]⟩
      cases c3
      case true =>
        have HG2 := zA (HGA.out.skip HCC.out (by rintro ⟨h, _⟩; cases h))
        go_wp2_with (fail)
        go_roundg (cnt2 + 1)
        case measure => exact hkm.out
        case rel => exact ⟨_, cnt2, ps, v, ⟨rfl⟩, ⟨by first | exact HRN.out | exact HRN.out.drewN _⟩, HG2, ⟨hcn.out.1⟩, ⟨by first | exact BO.out | exact blk_drewN BO.out _⟩, ⟨by first | exact HO.out | exact Kd.R_drewN HO.out _⟩, ⟨by first | exact HB.out | exact ⟨pw_below_drewN HB.out.1 _, HB.out.2⟩⟩⟩
      cases a1
      case true =>
        have HG2 := zA (HGA.out.skip HCC.out (by rintro ⟨_, h⟩; rw [HI.out] at h; cases h))
        go_wp2_with (fail)
        go_roundg (cnt2 + 1)
        case measure => exact hkm.out
        case rel => exact ⟨_, cnt2, ps, v, ⟨rfl⟩, ⟨by first | exact HRN.out | exact HRN.out.drewN _⟩, HG2, ⟨hcn.out.1⟩, ⟨by first | exact BO.out | exact blk_drewN BO.out _⟩, ⟨by first | exact HO.out | exact Kd.R_drewN HO.out _⟩, ⟨by first | exact HB.out | exact ⟨pw_below_drewN HB.out.1 _, HB.out.2⟩⟩⟩
      cases a2
      case false =>
        have HG2 := zA (HGA.out.skip HCC.out (by rintro ⟨_, h⟩; rw [HI.out] at h; cases h))
        go_wp2_with (fail)
        go_roundg (cnt2 + 1)
        case measure => exact hkm.out
        case rel => exact ⟨_, cnt2, ps, v, ⟨rfl⟩, ⟨by first | exact HRN.out | exact HRN.out.drewN _⟩, HG2, ⟨hcn.out.1⟩, ⟨by first | exact BO.out | exact blk_drewN BO.out _⟩, ⟨by first | exact HO.out | exact Kd.R_drewN HO.out _⟩, ⟨by first | exact HB.out | exact ⟨pw_below_drewN HB.out.1 _, HB.out.2⟩⟩⟩
      obtain ⟨ps2, hps2⟩ : ∃ y, y = ps ++ [(⟨s, c1⟩ : Par)] := ⟨_, rfl⟩
      have HG2 := zA (HGA.out.push HLK.out HCC.out rfl (HI.out.trans rfl))
      rw [← hps2] at HG2
      have HPL : Aside0 (ps2.length + cnt2 ≤ 400) := ⟨by rw [hps2, List.length_append]; exact hcn.out.2⟩
      replace hps2 := zA hps2
      go_wp2_with ((with_reducible refine gate_builtin (b := .append) (xs := #[.tmp 37, .tmp 42]) rfl ?_); at_builtin; refine Kd.R_append KP (w0 := w) w.heap.size rfl (.tmp 37) (.tmp 42) 63 TP (.agg #[(.string ⟨#[]⟩), (.string ⟨#[]⟩)]) 32 rfl Try.underlying63 info_pair rfl (by decide) (by omega) v ps ⟨s, c1⟩ [.string s, .string c1] (fun k => N ≤ k) (fun _ => False) rfl rfl ?aP (fun _ hk => hk.elim) ?aF ?aO ?aB ?aS ?aL ?_; (case aP => exact k105_mkM _ _ _ (⟨s, c1⟩ : Par)); (case aF => exact (fun k hk => Nat.le_trans HB.out.2 hk)); (case aO => exact (by (with_reducible repeat (first | apply Kd.R_alloc | apply Kd.R_drewN | apply Kd.R_drew)); exact HO.out)); (case aB => exact (by repeat (first | (with_reducible exact HB.out.1) | apply below_alloc | apply pw_below_drewN))); (case aS => exact HB.out.1.size); (case aL => have h1 := HCN.out; omega); intro v7 w9 ho hb hg hat; rw [← hps2.out] at ho; obtain ⟨A7, c7, rfl⟩ := Kd.R_slice ho; have hne : ∀ k, k < N → some k ≠ v.ownBlock := (fun k hk he => Nat.not_lt_of_le (HO.out.1 k he.symm) hk); replace BO := zA (blk_grown BO.out hg (hne _ HNL.out.2.1)); replace HRN := zA (HRN.out.kept hg (hne _ HNL.out.1) (hne _ HNL.out.2.2.1)); replace HO := zA ho; replace HB := zA (And.intro hb (Nat.le_trans HB.out.2 hg.size)); clear ho hb hg hat hne hx0 hx1 hx2 hx3 B3 hy0; have hy0 : w9.cell? ⟨gO, 0, none⟩ = some v := (blk_cell BO.out 0).trans rfl; have hfz := blk_frozen BO.out 0)
      have hsg := set_grown w9 gO 0 (.slice A7 ps2.length c7)
      replace HRN := zA (HRN.out.kept hsg (fun h => by injection h with h; exact HNL.out.2.2.2.2.2.2.2.1 h) (fun h => by injection h with h; exact HNL.out.2.2.2.1 h.symm))
      replace HO := zA (Kd.R_far (p := ⟨gO, 0, none⟩) HO.out (fun k hk h => by have := HNL.out; simp only at h; omega) (.slice A7 ps2.length c7))
      replace HB := zA (And.intro (below_set (j := 0) (v := (.slice A7 ps2.length c7)) HB.out.1 HNL.out.2.2.2.2.2.2.2.2) (Nat.le_trans HB.out.2 hsg.size))
      replace BO := zA (blk_put BO.out 0 (.slice A7 ps2.length c7) (cs' := #[(.slice A7 ps2.length c7)]) rfl)
      clear hsg
      go_roundg (cnt2 + 1)
      case measure => exact hkm.out
      case rel => exact ⟨_, cnt2, _, _, ⟨rfl⟩, HRN, HG2, HPL, BO, HO, HB⟩
end Go.Proofs.Ythffllegmkolgaa.TreeK
