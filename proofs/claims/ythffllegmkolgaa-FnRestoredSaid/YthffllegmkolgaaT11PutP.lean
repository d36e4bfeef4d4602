/- The program's Put and Drop, called. -/
import Derived.Test.YthffllegmkolgaaT11ChangeP
namespace Go.Proofs.Ythffllegmkolgaa.TreeK
open Go.RowKit Go.Proofs.YthffllegmkolgaaW.PrintWords Go.Proofs.YthffllegmkolgaaW.PrintLast Go.Proofs.YthffllegmkolgaaW.PrintMore Go.Proofs.Ythffllegmkolgaa.QTree Go.Proofs.Ythffllegmkolgaa.EvKit Go.Proofs.Ythffllegmkolgaa.GTree
set_option linter.unusedSimpArgs false
set_option linter.unusedVariables false
set_option maxHeartbeats 800000 in
set_option maxRecDepth 100000 in
theorem put_impl (A B : Option Addr) (c d : Nat) (x : Tre) (k v : ByteArray) (w : World) (h : TreeC w x A c B d) (sm : sm_Tree x) :
    Calls Try.prog 45 #[.agg #[.slice A x.f0.length c, .slice B x.f1.length d, .int .i64 x.f2, .int .i64 x.f3], .string k, .string v] w fun e w' => ∃ v0 v1 : Value, e = .returned (.tuple #[.agg #[v0, v1, .int .i64 (chT x ⟨k, v, 0, false⟩).1.f2, .int .i64 (chT x ⟨k, v, 0, false⟩).1.f3], .bool (chT x ⟨k, v, 0, false⟩).2]) ∧ KC.R TC w' w.heap.size (fun _ => True) v0 (chT x ⟨k, v, 0, false⟩).1.f0 ∧ Kd.S KL TL w' w.heap.size (fun k => some k ≠ v0.ownBlock) v1 (chT x ⟨k, v, 0, false⟩).1.f1 ∧ Below w.heap.size w w' := by
  have HM := zA h
  have SM := zA sm
  clear h sm
  generalize hY : chT x ⟨k, v, 0, false⟩ = Y
  obtain ⟨⟨y0, y1, y2, y3⟩, yb⟩ := Y
  have HY := zA hY
  clear hY
  show Calls Try.prog 45 _ w fun e w' => ∃ v0 v1 : Value, e = .returned (.tuple #[.agg #[v0, v1, .int .i64 y2, .int .i64 y3], .bool yb]) ∧ KC.R TC w' w.heap.size (fun _ => True) v0 y0 ∧ Kd.S KL TL w' w.heap.size (fun k => some k ≠ v0.ownBlock) v1 y1 ∧ Below w.heap.size w w'
  have hu31 := Try.underlying31
  have hb1 := bel_alloc w (.cells #[.slice A x.f0.length c, .slice B x.f1.length d, .int .i64 x.f2, .int .i64 x.f3] 31)
  have B1 := zA (blk_new w (.cells #[.slice A x.f0.length c, .slice B x.f1.length d, .int .i64 x.f2, .int .i64 x.f3] 31))
  go_enter Try.func45, Try.ntmps45
  go_upto_region 1 with (fail)
  obtain ⟨W, hW⟩ : ∃ W, W = (w.alloc (.cells #[.slice A x.f0.length c, .slice B x.f1.length d, .int .i64 x.f2, .int .i64 x.f3] 31)).alloc (.cells #[.slice none 0 0, .slice none 0 0, .int .i64 0, .int .i64 0] 31) := ⟨_, rfl⟩
  obtain ⟨g1, hg1⟩ : ∃ g1, g1 = w.heap.size := ⟨_, rfl⟩
  obtain ⟨g2, hg2⟩ : ∃ g2, g2 = w.heap.size + 1 := ⟨_, rfl⟩
  have B2 : Aside0 (blkT W g2 (.slice none 0 0) (.slice none 0 0) 0 0) := ⟨by
    have h := blk_new (w.alloc (.cells #[.slice A x.f0.length c, .slice B x.f1.length d, .int .i64 x.f2, .int .i64 x.f3] 31)) (.cells #[.slice none 0 0, .slice none 0 0, .int .i64 0, .int .i64 0] 31)
    rw [show (w.alloc (.cells #[.slice A x.f0.length c, .slice B x.f1.length d, .int .i64 x.f2, .int .i64 x.f3] 31)).heap.size = g2 from by rw [hg2]; exact Array.size_push _, ← hW] at h
    exact h⟩
  replace B1 : Aside0 (blkT W g1 (.slice A x.f0.length c) (.slice B x.f1.length d) x.f2 x.f3) := ⟨by rw [hW, hg1]; exact blk_alloc B1.out _⟩
  have HB : Aside0 (Below w.heap.size w W) := ⟨by rw [hW]; exact bel hb1 (bel_alloc _ _)⟩
  have HG : Aside0 (w.heap.size ≤ g1 ∧ w.heap.size ≤ g2 ∧ g2 ≠ g1) := ⟨by omega⟩
  rw [← hW, ← hg2, ← hg1]
  clear hW hg1 hg2 hb1
  obtain ⟨b10, b11, b12, b13⟩ := keep4 B1.out
  have HT : Aside0 (TreeC W x A c B d) := ⟨HM.out.below HB.out⟩
  have CI := changed_impl A B c d x k v 0 false W HT.out SM.out
  rw [HY.out] at CI
  replace CI := zA CI
  go_wp2_with (go_at_call 90; refine CI.out.mono ?_; rintro e w' ⟨v0, v1, rfl, hR, hS, hb⟩; have HZ := zA HB.out.size; replace B2 := zA (blk_below B2.out hb); replace HB := zA (bel HB.out hb); have R0 := zA hR; have S0 := zA hS; clear hb hR hS b10 b11 b12 b13 CI; obtain ⟨A7, c7, rfl⟩ := Kd.R_slice R0.out; obtain ⟨B7, d7, rfl⟩ := Kd.S_slice S0.out; obtain ⟨b20, b21, b22, b23⟩ := keep4 B2.out; have cf0 := blk_frozen B2.out 0; have cf1 := blk_frozen B2.out 1; have cf2 := blk_frozen B2.out 2; have cf3 := blk_frozen B2.out 3)
  refine bodyPost_ret (results_ct rfl _ _ g2 31 #[.slice A7 y0.length c7, .slice B7 y1.length d7, .int .i64 y2, .int .i64 y3] (0, 0) _ rfl (put4_blk B2.out) Try.underlying31 rfl (by kernel_rfl)) rfl ?_
  exact ⟨_, _, rfl, Kd.R_lower (put4_R B2.out R0.out) HZ.out, Kd.S_lower (put4_S B2.out S0.out) HZ.out, put4_below HB.out HG.out.2.1⟩
set_option maxHeartbeats 800000 in
set_option maxRecDepth 100000 in
theorem drop_impl (A B : Option Addr) (c d : Nat) (x : Tre) (k : ByteArray) (w : World) (h : TreeC w x A c B d) (sm : sm_Tree x) :
    Calls Try.prog 43 #[.agg #[.slice A x.f0.length c, .slice B x.f1.length d, .int .i64 x.f2, .int .i64 x.f3], .string k] w fun e w' => ∃ v0 v1 : Value, e = .returned (.tuple #[.agg #[v0, v1, .int .i64 (chT x ⟨k, ⟨#[]⟩, 0, true⟩).1.f2, .int .i64 (chT x ⟨k, ⟨#[]⟩, 0, true⟩).1.f3], .bool (chT x ⟨k, ⟨#[]⟩, 0, true⟩).2]) ∧ KC.R TC w' w.heap.size (fun _ => True) v0 (chT x ⟨k, ⟨#[]⟩, 0, true⟩).1.f0 ∧ Kd.S KL TL w' w.heap.size (fun k => some k ≠ v0.ownBlock) v1 (chT x ⟨k, ⟨#[]⟩, 0, true⟩).1.f1 ∧ Below w.heap.size w w' := by
  have HM := zA h
  have SM := zA sm
  clear h sm
  generalize hY : chT x ⟨k, ⟨#[]⟩, 0, true⟩ = Y
  obtain ⟨⟨y0, y1, y2, y3⟩, yb⟩ := Y
  have HY := zA hY
  clear hY
  show Calls Try.prog 43 _ w fun e w' => ∃ v0 v1 : Value, e = .returned (.tuple #[.agg #[v0, v1, .int .i64 y2, .int .i64 y3], .bool yb]) ∧ KC.R TC w' w.heap.size (fun _ => True) v0 y0 ∧ Kd.S KL TL w' w.heap.size (fun k => some k ≠ v0.ownBlock) v1 y1 ∧ Below w.heap.size w w'
  have hu31 := Try.underlying31
  have hb1 := bel_alloc w (.cells #[.slice A x.f0.length c, .slice B x.f1.length d, .int .i64 x.f2, .int .i64 x.f3] 31)
  have B1 := zA (blk_new w (.cells #[.slice A x.f0.length c, .slice B x.f1.length d, .int .i64 x.f2, .int .i64 x.f3] 31))
  go_enter Try.func43, Try.ntmps43
  go_upto_region 1 with (fail)
  obtain ⟨W, hW⟩ : ∃ W, W = (w.alloc (.cells #[.slice A x.f0.length c, .slice B x.f1.length d, .int .i64 x.f2, .int .i64 x.f3] 31)).alloc (.cells #[.slice none 0 0, .slice none 0 0, .int .i64 0, .int .i64 0] 31) := ⟨_, rfl⟩
  obtain ⟨g1, hg1⟩ : ∃ g1, g1 = w.heap.size := ⟨_, rfl⟩
  obtain ⟨g2, hg2⟩ : ∃ g2, g2 = w.heap.size + 1 := ⟨_, rfl⟩
  have B2 : Aside0 (blkT W g2 (.slice none 0 0) (.slice none 0 0) 0 0) := ⟨by
    have h := blk_new (w.alloc (.cells #[.slice A x.f0.length c, .slice B x.f1.length d, .int .i64 x.f2, .int .i64 x.f3] 31)) (.cells #[.slice none 0 0, .slice none 0 0, .int .i64 0, .int .i64 0] 31)
    rw [show (w.alloc (.cells #[.slice A x.f0.length c, .slice B x.f1.length d, .int .i64 x.f2, .int .i64 x.f3] 31)).heap.size = g2 from by rw [hg2]; exact Array.size_push _, ← hW] at h
    exact h⟩
  replace B1 : Aside0 (blkT W g1 (.slice A x.f0.length c) (.slice B x.f1.length d) x.f2 x.f3) := ⟨by rw [hW, hg1]; exact blk_alloc B1.out _⟩
  have HB : Aside0 (Below w.heap.size w W) := ⟨by rw [hW]; exact bel hb1 (bel_alloc _ _)⟩
  have HG : Aside0 (w.heap.size ≤ g1 ∧ w.heap.size ≤ g2 ∧ g2 ≠ g1) := ⟨by omega⟩
  rw [← hW, ← hg2, ← hg1]
  clear hW hg1 hg2 hb1
  obtain ⟨b10, b11, b12, b13⟩ := keep4 B1.out
  have HT : Aside0 (TreeC W x A c B d) := ⟨HM.out.below HB.out⟩
  have CI := changed_impl A B c d x k ⟨#[]⟩ 0 true W HT.out SM.out
  rw [HY.out] at CI
  replace CI := zA CI
  go_wp2_with (go_at_call 90; refine CI.out.mono ?_; rintro e w' ⟨v0, v1, rfl, hR, hS, hb⟩; have HZ := zA HB.out.size; replace B2 := zA (blk_below B2.out hb); replace HB := zA (bel HB.out hb); have R0 := zA hR; have S0 := zA hS; clear hb hR hS b10 b11 b12 b13 CI; obtain ⟨A7, c7, rfl⟩ := Kd.R_slice R0.out; obtain ⟨B7, d7, rfl⟩ := Kd.S_slice S0.out; obtain ⟨b20, b21, b22, b23⟩ := keep4 B2.out; have cf0 := blk_frozen B2.out 0; have cf1 := blk_frozen B2.out 1; have cf2 := blk_frozen B2.out 2; have cf3 := blk_frozen B2.out 3)
  refine bodyPost_ret (results_ct rfl _ _ g2 31 #[.slice A7 y0.length c7, .slice B7 y1.length d7, .int .i64 y2, .int .i64 y3] (0, 0) _ rfl (put4_blk B2.out) Try.underlying31 rfl (by kernel_rfl)) rfl ?_
  exact ⟨_, _, rfl, Kd.R_lower (put4_R B2.out R0.out) HZ.out, Kd.S_lower (put4_S B2.out S0.out) HZ.out, put4_below HB.out HG.out.2.1⟩
end Go.Proofs.Ythffllegmkolgaa.TreeK
