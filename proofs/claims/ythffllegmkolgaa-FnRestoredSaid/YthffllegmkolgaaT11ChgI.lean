/- Joined: AtSort, ChgI. -/
import Derived.Test.YthffllegmkolgaaT11CelSort
import Derived.Test.YthffllegmkolgaaT11Del
import Derived.Test.YthffllegmkolgaaT11Seen
namespace Go.Proofs.Ythffllegmkolgaa.TreeK
open Go.RowKit Go.Proofs.YthffllegmkolgaaW.PrintWords Go.Proofs.YthffllegmkolgaaW.PrintLast Go.Proofs.YthffllegmkolgaaW.PrintMore Go.Proofs.Ythffllegmkolgaa.QTree Go.Sort
set_option linter.unusedSimpArgs false
set_option linter.unusedVariables false
set_option maxHeartbeats 800000 in
theorem at_exact (a b : Cel) (w : World) (ha : 1 ≤ a.f2 ∧ a.f2 ≤ 400) (hb : 1 ≤ b.f2 ∧ b.f2 ≤ 400) :
    Calls Try.prog 77 #[.agg (encC a).toArray, .agg (encC b).toArray] w fun e w' => e = .returned (.int .i64 (a.f2 - b.f2)) ∧ ∃ q os, w' = grow (w.drewN q) os := by
  obtain ⟨a0, a1, a2, a3⟩ := a
  obtain ⟨b0, b1, b2, b3⟩ := b
  simp only [encC]
  simp only [] at ha hb
  have wr1 : wrap64 (a2 - b2) = a2 - b2 := by unfold wrap64; omega
  go_enter Try.func77, Try.ntmps77
  go_wp2
  go_ret
  exact ⟨by first | rfl | (rw [wr1]; rfl), 0, _, by rw [alloc_eq_grow, alloc_eq_grow, grow_grow]; rfl⟩
theorem ltOf_at (a b : CelR) : ltOf (fun x y : CelR => x.1.f2 - y.1.f2) a b = decide (a.1.f2 < b.1.f2) := by
  unfold Go.Proofs.ltOf
  rw [Bool.eq_iff_iff]; simp; omega
theorem atR_swo : SWO (ltOf fun x y : CelR => x.1.f2 - y.1.f2) where
  irrefl x := by rw [ltOf_at]; simp
  trans x y z h1 h2 := by rw [ltOf_at] at *; simp at *; omega
  ntrans x y z h1 h2 := by rw [ltOf_at] at *; simp at *; omega
theorem sort_at (P0_ : Nat → Prop) (u : Value) (l0 : List Cel) (w0 w : World) (hB : Below w0.heap.size w0 w) (ho0 : Kd.R k48 48 w w0.heap.size P0_ u l0) (hin : ∀ c ∈ l0, 1 ≤ c.f2 ∧ c.f2 ≤ 400) (hn : l0.Pairwise (fun a b => a.f2 ≠ b.f2)) (hl : l0.length < 4611686018427387904) :
    Calls Try.prog 73 #[u, .func (.func 77) #[] #[]] w fun e w' => e = .returned (.tuple #[]) ∧ ∃ l', (l'.Pairwise (fun a b => a.f2 < b.f2) ∧ l'.Perm l0) ∧ Kd.R k48 48 w' w0.heap.size P0_ u l' ∧ Below w0.heap.size w0 w' ∧ Kept w w' (fun k_ => P0_ k_) := by
  rcases Nat.eq_zero_or_pos l0.length with h0 | hp
  · obtain rfl := List.eq_nil_of_length_eq_zero h0
    obtain ⟨A, c, rfl⟩ := Kd.R_slice ho0
    refine (AnyF.slices_SortFunc_none Lay.laySort A c _ w).mono ?_
    rintro e w' ⟨rfl, rfl⟩
    exact ⟨rfl, [], ⟨List.Pairwise.nil, List.Perm.refl _⟩, ho0, hB, Kept.refl _ _⟩
  · obtain ⟨g, cap, rfl, hg, hgl, cells, hcell⟩ := Kd.R_form ho0 hp
    have hPg : P0_ g := ho0.1 g rfl
    obtain ⟨ys, rfl⟩ : ∃ ys : List CelR, l0 = ys.map (·.1) := ⟨l0.attach.map (fun c => ⟨c.1, hin c.1 c.2⟩), by rw [List.map_map]; exact (List.attach_map_subtype_val l0).symm⟩
    have hR := R_iso.2 ho0
    have hH := SortKit.holdsK_of_R (d := Kd.iso k48 (fun c : CelR => c.1)) (enc := fun c : CelR => encC c.1) (fun _ => rfl) (fun w base ok x cs h => k48_openM h) hR (by decide)
    have eg : ∀ args w, (callFunc 77 args).run Try.prog w = .ok (.enter 77 args) w := enters_of Try.func77 (by kernel_rfl) rfl
    have hcon := AnyQ.slices_SortFunc Lay.laySort 4 Try.isAgg48 Try.sizeOf48 (fun c : CelR => encC c.1) (fun _ => rfl) (fun x v hv => by simp [encC] at hv; rcases hv with rfl | rfl | rfl | rfl <;> rfl) (fun x y : CelR => x.1.f2 - y.1.f2) atR_swo 77 #[] g 0 cap ys.toArray w eg
      (fun m os dk _ x y => at_exact x.1 y.1 _ x.2 y.2) hH hgl (by simpa using hl)
    have hs : ys.toArray.size = (ys.map (·.1)).length := by simp
    rw [hs] at hcon
    refine (show Calls Try.prog 73 _ _ _ from hcon).mono ?_
    rintro e w' ⟨rfl, d', n, os, ⟨hsz, _, hperm⟩, hsort, rfl⟩
    have hlen : d'.toList.length = ys.length := by rw [Array.length_toList, hsz]; simp
    have hR2 := SortKit.R_sorted (d := Kd.iso k48 (fun c : CelR => c.1)) (enc := fun c : CelR => encC c.1) (fun _ => rfl) (fun w base ok x => k48_mkM w base ok x.1) (by decide) hR (xs' := d'.toList) hlen n os
    rw [Array.toArray_toList] at hR2
    have hperm2 : d'.toList.Perm ys := by
      have h1 : d'.extract 0 (ys.map (·.1)).length = d' := by rw [List.length_map, ← hlen, Array.length_toList, Array.extract_size]
      have h2 : ys.toArray.extract 0 (ys.map (·.1)).length = ys.toArray := by rw [← hs, Array.extract_size]
      rw [h1, h2] at hperm
      simpa using hperm
    have hpm : (d'.toList.map (·.1)).Perm (ys.map (·.1)) := hperm2.map _
    have hne : (d'.toList.map (·.1)).Pairwise (fun a b : Cel => a.f2 ≠ b.f2) := (hpm.pairwise_iff (fun {a b} hab he => hab he.symm)).2 hn
    have hout : (d'.toList.map (·.1)).Pairwise (fun a b : Cel => a.f2 < b.f2) := by
      rw [List.pairwise_iff_getElem] at hne ⊢
      intro i j hi hj hij
      have h0 := hne i j hi hj hij
      rw [List.length_map] at hi hj
      have := hsort i j (Nat.zero_le _) hij (by rw [List.length_map, ← hlen]; exact hj)
      rw [getElem!_pos d' i (by simpa using hi), getElem!_pos d' j (by simpa using hj), ltOf_at] at this
      simp only [List.getElem_map, Array.getElem_toList] at h0 ⊢
      simp only [decide_eq_false_iff_not] at this
      omega
    have hRR := R_iso.1 hR2.1
    exact ⟨rfl, _, ⟨hout, hpm⟩, hRR, pw_below_grown hB (some g) (by exact hB.size) hR2.2.2 (fun k hk => by injection hk with hk; exact hk ▸ hg), hR2.2.1.mono (fun k hk => hk ▸ hPg)⟩
end Go.Proofs.Ythffllegmkolgaa.TreeK

namespace Go.Proofs.Ythffllegmkolgaa.TreeK
open Go.RowKit Go.Proofs.YthffllegmkolgaaW.PrintWords Go.Proofs.YthffllegmkolgaaW.PrintLast Go.Proofs.YthffllegmkolgaaW.PrintMore Go.Proofs.Ythffllegmkolgaa.QTree Go.Proofs.Ythffllegmkolgaa.EvKit Go.Proofs.Ythffllegmkolgaa.GTree
set_option linter.unusedSimpArgs false
set_option linter.unusedVariables false
set_option linter.unnecessarySimpa false
set_option maxHeartbeats 800000 in
set_option maxRecDepth 100000 in
theorem changes_impl (A B : Option Addr) (c d : Nat) (x : Tre) (frm : Int) (w : World) (h : TreeC w x A c B d) (sm : sm_Tree x) :
    Calls Try.prog 29 #[.agg #[.slice A x.f0.length c, .slice B x.f1.length d, .int .i64 x.f2, .int .i64 x.f3], .int .i64 frm] w fun e w' => ∃ v0 : Value, e = .returned v0 ∧ KC.R TC w' w.heap.size (fun _ => True) v0 (chgR x frm) ∧ Below w.heap.size w w' := by
  have HM := zA h
  have SM := zA sm
  clear h sm
  have hu31 := Try.underlying31
  have hmf : ∀ (fn : Fn) (first cap : Array Value) (w : World), (Instr.makeFunc fn first cap).run Try.prog w = .ok (.func fn first cap) w := fun _ _ _ _ => rfl
  go_enter Try.func29, Try.ntmps29
  go_upto_region 1 with (fail)
  obtain ⟨W1, hW1⟩ : ∃ W1, W1 = w.alloc (.cells #[.slice A x.f0.length c, .slice B x.f1.length d, .int .i64 x.f2, .int .i64 x.f3] 31) := ⟨_, rfl⟩
  obtain ⟨W, hW⟩ : ∃ W, W = W1.alloc (.cells #[.int .i64 frm] 3) := ⟨_, rfl⟩
  obtain ⟨g1, hg1⟩ : ∃ g1, g1 = w.heap.size := ⟨_, rfl⟩
  obtain ⟨gf, hgf⟩ : ∃ gf, gf = W1.heap.size := ⟨_, rfl⟩
  have hz : W1.heap.size = w.heap.size + 1 := by rw [hW1]; exact Array.size_push _
  have B1 : Aside0 (blkT W g1 (.slice A x.f0.length c) (.slice B x.f1.length d) x.f2 x.f3) := ⟨by rw [hW, hW1, hg1]; exact blk_alloc (blk_new _ _) _⟩
  have BF : Aside0 (W.heap[gf]? = some (.cells #[.int .i64 frm] 3 (0, 0))) := ⟨by rw [hW, hgf]; exact blk_new _ _⟩
  have HB : Aside0 (Below w.heap.size w W) := ⟨by rw [hW, hW1]; exact bel (bel_alloc _ _) (bel_alloc _ _)⟩
  rw [show w.heap.size + 1 = gf by rw [hgf, hz], ← hW1, ← hW, ← hg1]
  clear hW hW1 hg1 hgf hz
  obtain ⟨b10, b11, b12, b13⟩ := keep4 B1.out
  have HC := zA (call_tree_impl A B c d x W (HM.out.below HB.out) SM.out)
  cases ht : trB x
  · have hT : Aside0 (chgR x frm = []) := ⟨by rw [chgR, ht]; simp⟩
    rw [ht] at HC
    clear ht
    go_wp2_with (go_at_call 18; refine HC.out.mono ?_; rintro e w' ⟨rfl, hb⟩; replace HB := zA (bel HB.out hb); clear hb b10 b11 b12 b13)
    go_ret
    rw [hT.out]
    exact ⟨_, rfl, Kd.R_nil _ _ _ _ _, by first | exact HB.out | exact pw_below_drewN HB.out _⟩
  have HF := zA ht
  rw [ht] at HC
  clear ht
  have HA := zA (all_facts HF.out)
  obtain ⟨l, hl⟩ : ∃ l, x.f0 ++ x.f1.flatten = l := ⟨_, rfl⟩
  have HL : Aside0 (allC x = l) := ⟨hl⟩
  rw [HL.out] at HA
  have hlen : (x.f0 ++ x.f1.flatten).length ≤ 8388608 := by rw [hl]; have := HA.out.1; omega
  have CC := fun (V : World) (hb : Below w.heap.size w V) => call_cells A B c d x.f0 x.f1 x.f2 x.f3 V (HM.out.below hb).1.2 (HM.out.below hb).1.1 (HM.out.below hb).2.2 (HM.out.below hb).2.1 hlen
  rw [hl] at CC
  replace CC := zA CC
  clear hl hlen
  obtain ⟨y, hy⟩ : ∃ y, y = l.filter (newB frm) := ⟨_, rfl⟩
  have HY := zA hy
  clear hy
  go_upto_region 4 with (first
    | (go_at_call 18; refine HC.out.mono ?_; rintro e w' ⟨rfl, hb⟩; replace B1 := zA (blk_below B1.out hb); replace BF := zA (blk_below BF.out hb); replace HB := zA (bel HB.out hb); clear hb b10 b11 b12 b13; obtain ⟨b10, b11, b12, b13⟩ := keep4 B1.out)
    | (go_at_call 75; refine (CC.out _ HB.out).mono ?_; rintro e w5 ⟨A5, c5, rfl, hR, hb⟩; have R0 := zA (Kd.R_lower hR HB.out.size); replace BF := zA (blk_below BF.out hb); replace HB := zA (bel HB.out hb); clear hb hR b10 b11 b12 b13)
    | (go_at_call 74; refine (del_cells (fun _ => True) A5 c5 l frm gf w w5 HB.out R0.out (by have := HA.out.1; omega) BF.out).mono ?_; rw [← HY.out]; rintro e w6 ⟨rfl, hR, hb, hkp⟩; replace R0 := zA hR; replace HB := zA hb; clear hR hb hkp BF))
  have HIN : Aside0 (∀ c ∈ y, 1 ≤ c.f2 ∧ c.f2 ≤ 400) := ⟨fun c hc => by rw [HY.out] at hc; have := HA.out.2.2 c (List.mem_filter.1 hc).1; exact ⟨this.1, this.2.1⟩⟩
  have HNE : Aside0 (y.Pairwise (fun a b => a.f2 ≠ b.f2)) := ⟨by rw [HY.out]; exact HA.out.2.1.sublist List.filter_sublist⟩
  have HYL : Aside0 (y.length ≤ 400) := ⟨by rw [HY.out]; exact Nat.le_trans (List.length_filter_le _ _) HA.out.1⟩
  go_wp2_with (go_at_call 73; refine (sort_at (fun _ => True) (.slice A5 y.length c5) y w w6 HB.out R0.out HIN.out HNE.out (by have := HYL.out; omega)).mono ?_; rintro e w9 ⟨rfl, l', hs, hR, hb, hkp⟩; replace HB := zA hb; replace R0 := zA hR; have HS := zA hs; clear hR hb hkp hs)
  go_ret
  have hfin : l' = chgR x frm := chg_one HF.out HS.out.1 (fun c => by
    rw [HS.out.2.mem_iff, HY.out, List.mem_filter, HL.out]
    simp [newB])
  rw [← hfin]
  exact ⟨_, rfl, R0.out, HB.out⟩
end Go.Proofs.Ythffllegmkolgaa.TreeK
