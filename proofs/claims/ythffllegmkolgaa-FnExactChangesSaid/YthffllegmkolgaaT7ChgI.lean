/- The program's Changes, called. -/
import Derived.Test.YthffllegmkolgaaT7Del
import Derived.Test.YthffllegmkolgaaT7AtSort
import Derived.Test.YthffllegmkolgaaT7Seen
namespace Go.Proofs.Ythffllegmkolgaa.TreeK
open Go.RowKit Go.Proofs.YthffllegmkolgaaW.PrintWords Go.Proofs.YthffllegmkolgaaW.PrintLast Go.Proofs.YthffllegmkolgaaW.PrintMore Go.Proofs.Ythffllegmkolgaa.QTree Go.Proofs.Ythffllegmkolgaa.EvKit Go.Proofs.Ythffllegmkolgaa.GTree
set_option linter.unusedSimpArgs false
set_option linter.unusedVariables false
set_option linter.unnecessarySimpa false
set_option maxHeartbeats 800000 in
set_option maxRecDepth 100000 in
theorem changes_impl (A B : Option Addr) (c d : Nat) (x : Tre) (frm : Int) (w : World) (h : TreeC w x A c B d) (sm : sm_Tree x) :
    Calls Try.prog 29 #[.agg #[.slice A x.f0.length c, .slice B x.f1.length d, .int .i64 x.f2, .int .i64 x.f3], .int .i64 frm] w fun e w' => ∃ v0 : Value, e = .returned v0 ∧ KC.R TC w' w.heap.size (fun _ => True) v0 (chgR x frm) ∧ Below w.heap.size w w' := by
  have HM := zA h
  have SM := zA sm
  clear h sm
  have hu31 := Try.underlying31
  have hmf : ∀ (fn : Fn) (first cap : Array Value) (w : World), (Instr.makeFunc fn first cap).run Try.prog w = .ok (.func fn first cap) w := fun _ _ _ _ => rfl
  go_enter Try.func29, Try.ntmps29
  go_upto_region 1 with (fail)
  obtain ⟨W1, hW1⟩ : ∃ W1, W1 = w.alloc (.cells #[.slice A x.f0.length c, .slice B x.f1.length d, .int .i64 x.f2, .int .i64 x.f3] 31) := ⟨_, rfl⟩
  obtain ⟨W, hW⟩ : ∃ W, W = W1.alloc (.cells #[.int .i64 frm] 3) := ⟨_, rfl⟩
  obtain ⟨g1, hg1⟩ : ∃ g1, g1 = w.heap.size := ⟨_, rfl⟩
  obtain ⟨gf, hgf⟩ : ∃ gf, gf = W1.heap.size := ⟨_, rfl⟩
  have hz : W1.heap.size = w.heap.size + 1 := by rw [hW1]; exact Array.size_push _
  have B1 : Aside0 (blkT W g1 (.slice A x.f0.length c) (.slice B x.f1.length d) x.f2 x.f3) := ⟨by rw [hW, hW1, hg1]; exact blk_alloc (blk_new _ _) _⟩
  have BF : Aside0 (W.heap[gf]? = some (.cells #[.int .i64 frm] 3 (0, 0))) := ⟨by rw [hW, hgf]; exact blk_new _ _⟩
  have HB : Aside0 (Below w.heap.size w W) := ⟨by rw [hW, hW1]; exact bel (bel_alloc _ _) (bel_alloc _ _)⟩
  rw [show w.heap.size + 1 = gf by rw [hgf, hz], ← hW1, ← hW, ← hg1]
  clear hW hW1 hg1 hgf hz
  obtain ⟨b10, b11, b12, b13⟩ := keep4 B1.out
  have HC := zA (call_tree_impl A B c d x W (HM.out.below HB.out) SM.out)
  cases ht : trB x
  · have hT : Aside0 (chgR x frm = []) := ⟨by rw [chgR, ht]; simp⟩
    rw [ht] at HC
    clear ht
    go_wp2_with (go_at_call 18; refine HC.out.mono ?_; rintro e w' ⟨rfl, hb⟩; replace HB := zA (bel HB.out hb); clear hb b10 b11 b12 b13)
    go_ret
    rw [hT.out]
    exact ⟨_, rfl, Kd.R_nil _ _ _ _ _, by first | exact HB.out | exact pw_below_drewN HB.out _⟩
  have HF := zA ht
  rw [ht] at HC
  clear ht
  have HA := zA (all_facts HF.out)
  obtain ⟨l, hl⟩ : ∃ l, x.f0 ++ x.f1.flatten = l := ⟨_, rfl⟩
  have HL : Aside0 (allC x = l) := ⟨hl⟩
  rw [HL.out] at HA
  have hlen : (x.f0 ++ x.f1.flatten).length ≤ 8388608 := by rw [hl]; have := HA.out.1; omega
  have CC := fun (V : World) (hb : Below w.heap.size w V) => call_cells A B c d x.f0 x.f1 x.f2 x.f3 V (HM.out.below hb).1.2 (HM.out.below hb).1.1 (HM.out.below hb).2.2 (HM.out.below hb).2.1 hlen
  rw [hl] at CC
  replace CC := zA CC
  clear hl hlen
  obtain ⟨y, hy⟩ : ∃ y, y = l.filter (newB frm) := ⟨_, rfl⟩
  have HY := zA hy
  clear hy
  go_upto_region 4 with (first
    | (go_at_call 18; refine HC.out.mono ?_; rintro e w' ⟨rfl, hb⟩; replace B1 := zA (blk_below B1.out hb); replace BF := zA (blk_below BF.out hb); replace HB := zA (bel HB.out hb); clear hb b10 b11 b12 b13; obtain ⟨b10, b11, b12, b13⟩ := keep4 B1.out)
    | (go_at_call 75; refine (CC.out _ HB.out).mono ?_; rintro e w5 ⟨A5, c5, rfl, hR, hb⟩; have R0 := zA (Kd.R_lower hR HB.out.size); replace BF := zA (blk_below BF.out hb); replace HB := zA (bel HB.out hb); clear hb hR b10 b11 b12 b13)
    | (go_at_call 74; refine (del_cells (fun _ => True) A5 c5 l frm gf w w5 HB.out R0.out (by have := HA.out.1; omega) BF.out).mono ?_; rw [← HY.out]; rintro e w6 ⟨rfl, hR, hb, hkp⟩; replace R0 := zA hR; replace HB := zA hb; clear hR hb hkp BF))
  have HIN : Aside0 (∀ c ∈ y, 1 ≤ c.f2 ∧ c.f2 ≤ 400) := ⟨fun c hc => by rw [HY.out] at hc; have := HA.out.2.2 c (List.mem_filter.1 hc).1; exact ⟨this.1, this.2.1⟩⟩
  have HNE : Aside0 (y.Pairwise (fun a b => a.f2 ≠ b.f2)) := ⟨by rw [HY.out]; exact HA.out.2.1.sublist List.filter_sublist⟩
  have HYL : Aside0 (y.length ≤ 400) := ⟨by rw [HY.out]; exact Nat.le_trans (List.length_filter_le _ _) HA.out.1⟩
  go_wp2_with (go_at_call 73; refine (sort_at (fun _ => True) (.slice A5 y.length c5) y w w6 HB.out R0.out HIN.out HNE.out (by have := HYL.out; omega)).mono ?_; rintro e w9 ⟨rfl, l', hs, hR, hb, hkp⟩; replace HB := zA hb; replace R0 := zA hR; have HS := zA hs; clear hR hb hkp hs)
  go_ret
  have hfin : l' = chgR x frm := chg_one HF.out HS.out.1 (fun c => by
    rw [HS.out.2.mem_iff, HY.out, List.mem_filter, HL.out]
    simp [newB])
  rw [← hfin]
  exact ⟨_, rfl, R0.out, HB.out⟩
end Go.Proofs.Ythffllegmkolgaa.TreeK
