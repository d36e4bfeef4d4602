/- Joined: PutP, PutS, ChOwn. -/
import Derived.Test.YthffllegmkolgaaT3ChangeP
import Derived.Test.YthffllegmkolgaaT3ChangeS
import Derived.Test.YthffllegmkolgaaT3FlOwn
namespace Go.Proofs.Ythffllegmkolgaa.TreeK
open Go.RowKit Go.Proofs.YthffllegmkolgaaW.PrintWords Go.Proofs.YthffllegmkolgaaW.PrintLast Go.Proofs.YthffllegmkolgaaW.PrintMore Go.Proofs.Ythffllegmkolgaa.QTree Go.Proofs.Ythffllegmkolgaa.EvKit Go.Proofs.Ythffllegmkolgaa.GTree
set_option linter.unusedSimpArgs false
set_option linter.unusedVariables false
set_option maxHeartbeats 800000 in
set_option maxRecDepth 100000 in
theorem put_impl (A B : Option Addr) (c d : Nat) (x : Tre) (k v : ByteArray) (w : World) (h : TreeC w x A c B d) (sm : sm_Tree x) :
    Calls Try.prog 45 #[.agg #[.slice A x.f0.length c, .slice B x.f1.length d, .int .i64 x.f2, .int .i64 x.f3], .string k, .string v] w fun e w' => ∃ v0 v1 : Value, e = .returned (.tuple #[.agg #[v0, v1, .int .i64 (chT x ⟨k, v, 0, false⟩).1.f2, .int .i64 (chT x ⟨k, v, 0, false⟩).1.f3], .bool (chT x ⟨k, v, 0, false⟩).2]) ∧ KC.R TC w' w.heap.size (fun _ => True) v0 (chT x ⟨k, v, 0, false⟩).1.f0 ∧ Kd.S KL TL w' w.heap.size (fun k => some k ≠ v0.ownBlock) v1 (chT x ⟨k, v, 0, false⟩).1.f1 ∧ Below w.heap.size w w' := by
  have HM := zA h
  have SM := zA sm
  clear h sm
  generalize hY : chT x ⟨k, v, 0, false⟩ = Y
  obtain ⟨⟨y0, y1, y2, y3⟩, yb⟩ := Y
  have HY := zA hY
  clear hY
  show Calls Try.prog 45 _ w fun e w' => ∃ v0 v1 : Value, e = .returned (.tuple #[.agg #[v0, v1, .int .i64 y2, .int .i64 y3], .bool yb]) ∧ KC.R TC w' w.heap.size (fun _ => True) v0 y0 ∧ Kd.S KL TL w' w.heap.size (fun k => some k ≠ v0.ownBlock) v1 y1 ∧ Below w.heap.size w w'
  have hu31 := Try.underlying31
  have hb1 := bel_alloc w (.cells #[.slice A x.f0.length c, .slice B x.f1.length d, .int .i64 x.f2, .int .i64 x.f3] 31)
  have B1 := zA (blk_new w (.cells #[.slice A x.f0.length c, .slice B x.f1.length d, .int .i64 x.f2, .int .i64 x.f3] 31))
  go_enter Try.func45, Try.ntmps45
  go_upto_region 1 with (fail)
  obtain ⟨W, hW⟩ : ∃ W, W = (w.alloc (.cells #[.slice A x.f0.length c, .slice B x.f1.length d, .int .i64 x.f2, .int .i64 x.f3] 31)).alloc (.cells #[.slice none 0 0, .slice none 0 0, .int .i64 0, .int .i64 0] 31) := ⟨_, rfl⟩
  obtain ⟨g1, hg1⟩ : ∃ g1, g1 = w.heap.size := ⟨_, rfl⟩
  obtain ⟨g2, hg2⟩ : ∃ g2, g2 = w.heap.size + 1 := ⟨_, rfl⟩
  have B2 : Aside0 (blkT W g2 (.slice none 0 0) (.slice none 0 0) 0 0) := ⟨by
    have h := blk_new (w.alloc (.cells #[.slice A x.f0.length c, .slice B x.f1.length d, .int .i64 x.f2, .int .i64 x.f3] 31)) (.cells #[.slice none 0 0, .slice none 0 0, .int .i64 0, .int .i64 0] 31)
    rw [show (w.alloc (.cells #[.slice A x.f0.length c, .slice B x.f1.length d, .int .i64 x.f2, .int .i64 x.f3] 31)).heap.size = g2 from by rw [hg2]; exact Array.size_push _, ← hW] at h
    exact h⟩
  replace B1 : Aside0 (blkT W g1 (.slice A x.f0.length c) (.slice B x.f1.length d) x.f2 x.f3) := ⟨by rw [hW, hg1]; exact blk_alloc B1.out _⟩
  have HB : Aside0 (Below w.heap.size w W) := ⟨by rw [hW]; exact bel hb1 (bel_alloc _ _)⟩
  have HG : Aside0 (w.heap.size ≤ g1 ∧ w.heap.size ≤ g2 ∧ g2 ≠ g1) := ⟨by omega⟩
  rw [← hW, ← hg2, ← hg1]
  clear hW hg1 hg2 hb1
  obtain ⟨b10, b11, b12, b13⟩ := keep4 B1.out
  have HT : Aside0 (TreeC W x A c B d) := ⟨HM.out.below HB.out⟩
  have CI := changed_impl A B c d x k v 0 false W HT.out SM.out
  rw [HY.out] at CI
  replace CI := zA CI
  go_wp2_with (go_at_call 90; refine CI.out.mono ?_; rintro e w' ⟨v0, v1, rfl, hR, hS, hb⟩; have HZ := zA HB.out.size; replace B2 := zA (blk_below B2.out hb); replace HB := zA (bel HB.out hb); have R0 := zA hR; have S0 := zA hS; clear hb hR hS b10 b11 b12 b13 CI; obtain ⟨A7, c7, rfl⟩ := Kd.R_slice R0.out; obtain ⟨B7, d7, rfl⟩ := Kd.S_slice S0.out; obtain ⟨b20, b21, b22, b23⟩ := keep4 B2.out; have cf0 := blk_frozen B2.out 0; have cf1 := blk_frozen B2.out 1; have cf2 := blk_frozen B2.out 2; have cf3 := blk_frozen B2.out 3)
  refine bodyPost_ret (results_ct rfl _ _ g2 31 #[.slice A7 y0.length c7, .slice B7 y1.length d7, .int .i64 y2, .int .i64 y3] (0, 0) _ rfl (put4_blk B2.out) Try.underlying31 rfl (by kernel_rfl)) rfl ?_
  exact ⟨_, _, rfl, Kd.R_lower (put4_R B2.out R0.out) HZ.out, Kd.S_lower (put4_S B2.out S0.out) HZ.out, put4_below HB.out HG.out.2.1⟩
set_option maxHeartbeats 800000 in
set_option maxRecDepth 100000 in
theorem drop_impl (A B : Option Addr) (c d : Nat) (x : Tre) (k : ByteArray) (w : World) (h : TreeC w x A c B d) (sm : sm_Tree x) :
    Calls Try.prog 43 #[.agg #[.slice A x.f0.length c, .slice B x.f1.length d, .int .i64 x.f2, .int .i64 x.f3], .string k] w fun e w' => ∃ v0 v1 : Value, e = .returned (.tuple #[.agg #[v0, v1, .int .i64 (chT x ⟨k, ⟨#[]⟩, 0, true⟩).1.f2, .int .i64 (chT x ⟨k, ⟨#[]⟩, 0, true⟩).1.f3], .bool (chT x ⟨k, ⟨#[]⟩, 0, true⟩).2]) ∧ KC.R TC w' w.heap.size (fun _ => True) v0 (chT x ⟨k, ⟨#[]⟩, 0, true⟩).1.f0 ∧ Kd.S KL TL w' w.heap.size (fun k => some k ≠ v0.ownBlock) v1 (chT x ⟨k, ⟨#[]⟩, 0, true⟩).1.f1 ∧ Below w.heap.size w w' := by
  have HM := zA h
  have SM := zA sm
  clear h sm
  generalize hY : chT x ⟨k, ⟨#[]⟩, 0, true⟩ = Y
  obtain ⟨⟨y0, y1, y2, y3⟩, yb⟩ := Y
  have HY := zA hY
  clear hY
  show Calls Try.prog 43 _ w fun e w' => ∃ v0 v1 : Value, e = .returned (.tuple #[.agg #[v0, v1, .int .i64 y2, .int .i64 y3], .bool yb]) ∧ KC.R TC w' w.heap.size (fun _ => True) v0 y0 ∧ Kd.S KL TL w' w.heap.size (fun k => some k ≠ v0.ownBlock) v1 y1 ∧ Below w.heap.size w w'
  have hu31 := Try.underlying31
  have hb1 := bel_alloc w (.cells #[.slice A x.f0.length c, .slice B x.f1.length d, .int .i64 x.f2, .int .i64 x.f3] 31)
  have B1 := zA (blk_new w (.cells #[.slice A x.f0.length c, .slice B x.f1.length d, .int .i64 x.f2, .int .i64 x.f3] 31))
  go_enter Try.func43, Try.ntmps43
  go_upto_region 1 with (fail)
  obtain ⟨W, hW⟩ : ∃ W, W = (w.alloc (.cells #[.slice A x.f0.length c, .slice B x.f1.length d, .int .i64 x.f2, .int .i64 x.f3] 31)).alloc (.cells #[.slice none 0 0, .slice none 0 0, .int .i64 0, .int .i64 0] 31) := ⟨_, rfl⟩
  obtain ⟨g1, hg1⟩ : ∃ g1, g1 = w.heap.size := ⟨_, rfl⟩
  obtain ⟨g2, hg2⟩ : ∃ g2, g2 = w.heap.size + 1 := ⟨_, rfl⟩
  have B2 : Aside0 (blkT W g2 (.slice none 0 0) (.slice none 0 0) 0 0) := ⟨by
    have h := blk_new (w.alloc (.cells #[.slice A x.f0.length c, .slice B x.f1.length d, .int .i64 x.f2, .int .i64 x.f3] 31)) (.cells #[.slice none 0 0, .slice none 0 0, .int .i64 0, .int .i64 0] 31)
    rw [show (w.alloc (.cells #[.slice A x.f0.length c, .slice B x.f1.length d, .int .i64 x.f2, .int .i64 x.f3] 31)).heap.size = g2 from by rw [hg2]; exact Array.size_push _, ← hW] at h
    exact h⟩
  replace B1 : Aside0 (blkT W g1 (.slice A x.f0.length c) (.slice B x.f1.length d) x.f2 x.f3) := ⟨by rw [hW, hg1]; exact blk_alloc B1.out _⟩
  have HB : Aside0 (Below w.heap.size w W) := ⟨by rw [hW]; exact bel hb1 (bel_alloc _ _)⟩
  have HG : Aside0 (w.heap.size ≤ g1 ∧ w.heap.size ≤ g2 ∧ g2 ≠ g1) := ⟨by omega⟩
  rw [← hW, ← hg2, ← hg1]
  clear hW hg1 hg2 hb1
  obtain ⟨b10, b11, b12, b13⟩ := keep4 B1.out
  have HT : Aside0 (TreeC W x A c B d) := ⟨HM.out.below HB.out⟩
  have CI := changed_impl A B c d x k ⟨#[]⟩ 0 true W HT.out SM.out
  rw [HY.out] at CI
  replace CI := zA CI
  go_wp2_with (go_at_call 90; refine CI.out.mono ?_; rintro e w' ⟨v0, v1, rfl, hR, hS, hb⟩; have HZ := zA HB.out.size; replace B2 := zA (blk_below B2.out hb); replace HB := zA (bel HB.out hb); have R0 := zA hR; have S0 := zA hS; clear hb hR hS b10 b11 b12 b13 CI; obtain ⟨A7, c7, rfl⟩ := Kd.R_slice R0.out; obtain ⟨B7, d7, rfl⟩ := Kd.S_slice S0.out; obtain ⟨b20, b21, b22, b23⟩ := keep4 B2.out; have cf0 := blk_frozen B2.out 0; have cf1 := blk_frozen B2.out 1; have cf2 := blk_frozen B2.out 2; have cf3 := blk_frozen B2.out 3)
  refine bodyPost_ret (results_ct rfl _ _ g2 31 #[.slice A7 y0.length c7, .slice B7 y1.length d7, .int .i64 y2, .int .i64 y3] (0, 0) _ rfl (put4_blk B2.out) Try.underlying31 rfl (by kernel_rfl)) rfl ?_
  exact ⟨_, _, rfl, Kd.R_lower (put4_R B2.out R0.out) HZ.out, Kd.S_lower (put4_S B2.out S0.out) HZ.out, put4_below HB.out HG.out.2.1⟩
end Go.Proofs.Ythffllegmkolgaa.TreeK

namespace Go.Proofs.Ythffllegmkolgaa.TreeK
open Go.RowKit Go.Proofs.YthffllegmkolgaaW.PrintWords Go.Proofs.YthffllegmkolgaaW.PrintLast Go.Proofs.YthffllegmkolgaaW.PrintMore Go.Proofs.Ythffllegmkolgaa.QTree Go.Proofs.Ythffllegmkolgaa.EvKit Go.Proofs.Ythffllegmkolgaa.GTree
set_option linter.unusedSimpArgs false
set_option linter.unusedVariables false
set_option maxHeartbeats 800000 in
set_option maxRecDepth 100000 in
theorem put_spec (A B : Option Addr) (c d : Nat) (x : Tre) (k v : ByteArray) (w : World) (h : TreeC w x A c B d) (sm : sm_Tree x) :
    Calls Try.prog 44 #[.agg #[.slice A x.f0.length c, .slice B x.f1.length d, .int .i64 x.f2, .int .i64 x.f3], .string k, .string v] w fun e w' => ∃ v0 v1 : Value, e = .returned (.tuple #[.agg #[v0, v1, .int .i64 (chT x ⟨k, v, 0, false⟩).1.f2, .int .i64 (chT x ⟨k, v, 0, false⟩).1.f3], .bool (chT x ⟨k, v, 0, false⟩).2]) ∧ KC.R TC w' w.heap.size (fun _ => True) v0 (chT x ⟨k, v, 0, false⟩).1.f0 ∧ Kd.S KL TL w' w.heap.size (fun k => some k ≠ v0.ownBlock) v1 (chT x ⟨k, v, 0, false⟩).1.f1 ∧ Below w.heap.size w w' := by
  have HM := zA h
  have SM := zA sm
  clear h sm
  generalize hY : chT x ⟨k, v, 0, false⟩ = Y
  obtain ⟨⟨y0, y1, y2, y3⟩, yb⟩ := Y
  have HY := zA hY
  clear hY
  show Calls Try.prog 44 _ w fun e w' => ∃ v0 v1 : Value, e = .returned (.tuple #[.agg #[v0, v1, .int .i64 y2, .int .i64 y3], .bool yb]) ∧ KC.R TC w' w.heap.size (fun _ => True) v0 y0 ∧ Kd.S KL TL w' w.heap.size (fun k => some k ≠ v0.ownBlock) v1 y1 ∧ Below w.heap.size w w'
  have hu31 := Try.underlying31
  have hb1 := bel_alloc w (.cells #[.slice A x.f0.length c, .slice B x.f1.length d, .int .i64 x.f2, .int .i64 x.f3] 31)
  have B1 := zA (blk_new w (.cells #[.slice A x.f0.length c, .slice B x.f1.length d, .int .i64 x.f2, .int .i64 x.f3] 31))
  go_enter Try.func44, Try.ntmps44
  go_upto_region 1 with (fail)
  obtain ⟨W, hW⟩ : ∃ W, W = (w.alloc (.cells #[.slice A x.f0.length c, .slice B x.f1.length d, .int .i64 x.f2, .int .i64 x.f3] 31)).alloc (.cells #[.slice none 0 0, .slice none 0 0, .int .i64 0, .int .i64 0] 31) := ⟨_, rfl⟩
  obtain ⟨g1, hg1⟩ : ∃ g1, g1 = w.heap.size := ⟨_, rfl⟩
  obtain ⟨g2, hg2⟩ : ∃ g2, g2 = w.heap.size + 1 := ⟨_, rfl⟩
  have B2 : Aside0 (blkT W g2 (.slice none 0 0) (.slice none 0 0) 0 0) := ⟨by
    have h := blk_new (w.alloc (.cells #[.slice A x.f0.length c, .slice B x.f1.length d, .int .i64 x.f2, .int .i64 x.f3] 31)) (.cells #[.slice none 0 0, .slice none 0 0, .int .i64 0, .int .i64 0] 31)
    rw [show (w.alloc (.cells #[.slice A x.f0.length c, .slice B x.f1.length d, .int .i64 x.f2, .int .i64 x.f3] 31)).heap.size = g2 from by rw [hg2]; exact Array.size_push _, ← hW] at h
    exact h⟩
  replace B1 : Aside0 (blkT W g1 (.slice A x.f0.length c) (.slice B x.f1.length d) x.f2 x.f3) := ⟨by rw [hW, hg1]; exact blk_alloc B1.out _⟩
  have HB : Aside0 (Below w.heap.size w W) := ⟨by rw [hW]; exact bel hb1 (bel_alloc _ _)⟩
  have HG : Aside0 (w.heap.size ≤ g1 ∧ w.heap.size ≤ g2 ∧ g2 ≠ g1) := ⟨by omega⟩
  rw [← hW, ← hg2, ← hg1]
  clear hW hg1 hg2 hb1
  obtain ⟨b10, b11, b12, b13⟩ := keep4 B1.out
  have HT : Aside0 (TreeC W x A c B d) := ⟨HM.out.below HB.out⟩
  have CI := change_spec A B c d x k v 0 false W HT.out SM.out
  rw [HY.out] at CI
  replace CI := zA CI
  go_wp2_with (go_at_call 84; refine CI.out.mono ?_; rintro e w' ⟨v0, v1, rfl, hR, hS, hb⟩; have HZ := zA HB.out.size; replace B2 := zA (blk_below B2.out hb); replace HB := zA (bel HB.out hb); have R0 := zA hR; have S0 := zA hS; clear hb hR hS b10 b11 b12 b13 CI; obtain ⟨A7, c7, rfl⟩ := Kd.R_slice R0.out; obtain ⟨B7, d7, rfl⟩ := Kd.S_slice S0.out; obtain ⟨b20, b21, b22, b23⟩ := keep4 B2.out; have cf0 := blk_frozen B2.out 0; have cf1 := blk_frozen B2.out 1; have cf2 := blk_frozen B2.out 2; have cf3 := blk_frozen B2.out 3)
  refine bodyPost_ret (results_ct rfl _ _ g2 31 #[.slice A7 y0.length c7, .slice B7 y1.length d7, .int .i64 y2, .int .i64 y3] (0, 0) _ rfl (put4_blk B2.out) Try.underlying31 rfl (by kernel_rfl)) rfl ?_
  exact ⟨_, _, rfl, Kd.R_lower (put4_R B2.out R0.out) HZ.out, Kd.S_lower (put4_S B2.out S0.out) HZ.out, put4_below HB.out HG.out.2.1⟩
set_option maxHeartbeats 800000 in
set_option maxRecDepth 100000 in
theorem drop_spec (A B : Option Addr) (c d : Nat) (x : Tre) (k : ByteArray) (w : World) (h : TreeC w x A c B d) (sm : sm_Tree x) :
    Calls Try.prog 42 #[.agg #[.slice A x.f0.length c, .slice B x.f1.length d, .int .i64 x.f2, .int .i64 x.f3], .string k] w fun e w' => ∃ v0 v1 : Value, e = .returned (.tuple #[.agg #[v0, v1, .int .i64 (chT x ⟨k, ⟨#[]⟩, 0, true⟩).1.f2, .int .i64 (chT x ⟨k, ⟨#[]⟩, 0, true⟩).1.f3], .bool (chT x ⟨k, ⟨#[]⟩, 0, true⟩).2]) ∧ KC.R TC w' w.heap.size (fun _ => True) v0 (chT x ⟨k, ⟨#[]⟩, 0, true⟩).1.f0 ∧ Kd.S KL TL w' w.heap.size (fun k => some k ≠ v0.ownBlock) v1 (chT x ⟨k, ⟨#[]⟩, 0, true⟩).1.f1 ∧ Below w.heap.size w w' := by
  have HM := zA h
  have SM := zA sm
  clear h sm
  generalize hY : chT x ⟨k, ⟨#[]⟩, 0, true⟩ = Y
  obtain ⟨⟨y0, y1, y2, y3⟩, yb⟩ := Y
  have HY := zA hY
  clear hY
  show Calls Try.prog 42 _ w fun e w' => ∃ v0 v1 : Value, e = .returned (.tuple #[.agg #[v0, v1, .int .i64 y2, .int .i64 y3], .bool yb]) ∧ KC.R TC w' w.heap.size (fun _ => True) v0 y0 ∧ Kd.S KL TL w' w.heap.size (fun k => some k ≠ v0.ownBlock) v1 y1 ∧ Below w.heap.size w w'
  have hu31 := Try.underlying31
  have hb1 := bel_alloc w (.cells #[.slice A x.f0.length c, .slice B x.f1.length d, .int .i64 x.f2, .int .i64 x.f3] 31)
  have B1 := zA (blk_new w (.cells #[.slice A x.f0.length c, .slice B x.f1.length d, .int .i64 x.f2, .int .i64 x.f3] 31))
  go_enter Try.func42, Try.ntmps42
  go_upto_region 1 with (fail)
  obtain ⟨W, hW⟩ : ∃ W, W = (w.alloc (.cells #[.slice A x.f0.length c, .slice B x.f1.length d, .int .i64 x.f2, .int .i64 x.f3] 31)).alloc (.cells #[.slice none 0 0, .slice none 0 0, .int .i64 0, .int .i64 0] 31) := ⟨_, rfl⟩
  obtain ⟨g1, hg1⟩ : ∃ g1, g1 = w.heap.size := ⟨_, rfl⟩
  obtain ⟨g2, hg2⟩ : ∃ g2, g2 = w.heap.size + 1 := ⟨_, rfl⟩
  have B2 : Aside0 (blkT W g2 (.slice none 0 0) (.slice none 0 0) 0 0) := ⟨by
    have h := blk_new (w.alloc (.cells #[.slice A x.f0.length c, .slice B x.f1.length d, .int .i64 x.f2, .int .i64 x.f3] 31)) (.cells #[.slice none 0 0, .slice none 0 0, .int .i64 0, .int .i64 0] 31)
    rw [show (w.alloc (.cells #[.slice A x.f0.length c, .slice B x.f1.length d, .int .i64 x.f2, .int .i64 x.f3] 31)).heap.size = g2 from by rw [hg2]; exact Array.size_push _, ← hW] at h
    exact h⟩
  replace B1 : Aside0 (blkT W g1 (.slice A x.f0.length c) (.slice B x.f1.length d) x.f2 x.f3) := ⟨by rw [hW, hg1]; exact blk_alloc B1.out _⟩
  have HB : Aside0 (Below w.heap.size w W) := ⟨by rw [hW]; exact bel hb1 (bel_alloc _ _)⟩
  have HG : Aside0 (w.heap.size ≤ g1 ∧ w.heap.size ≤ g2 ∧ g2 ≠ g1) := ⟨by omega⟩
  rw [← hW, ← hg2, ← hg1]
  clear hW hg1 hg2 hb1
  obtain ⟨b10, b11, b12, b13⟩ := keep4 B1.out
  have HT : Aside0 (TreeC W x A c B d) := ⟨HM.out.below HB.out⟩
  have CI := change_spec A B c d x k ⟨#[]⟩ 0 true W HT.out SM.out
  rw [HY.out] at CI
  replace CI := zA CI
  go_wp2_with (go_at_call 84; refine CI.out.mono ?_; rintro e w' ⟨v0, v1, rfl, hR, hS, hb⟩; have HZ := zA HB.out.size; replace B2 := zA (blk_below B2.out hb); replace HB := zA (bel HB.out hb); have R0 := zA hR; have S0 := zA hS; clear hb hR hS b10 b11 b12 b13 CI; obtain ⟨A7, c7, rfl⟩ := Kd.R_slice R0.out; obtain ⟨B7, d7, rfl⟩ := Kd.S_slice S0.out; obtain ⟨b20, b21, b22, b23⟩ := keep4 B2.out; have cf0 := blk_frozen B2.out 0; have cf1 := blk_frozen B2.out 1; have cf2 := blk_frozen B2.out 2; have cf3 := blk_frozen B2.out 3)
  refine bodyPost_ret (results_ct rfl _ _ g2 31 #[.slice A7 y0.length c7, .slice B7 y1.length d7, .int .i64 y2, .int .i64 y3] (0, 0) _ rfl (put4_blk B2.out) Try.underlying31 rfl (by kernel_rfl)) rfl ?_
  exact ⟨_, _, rfl, Kd.R_lower (put4_R B2.out R0.out) HZ.out, Kd.S_lower (put4_S B2.out S0.out) HZ.out, put4_below HB.out HG.out.2.1⟩
end Go.Proofs.Ythffllegmkolgaa.TreeK

namespace Go.Proofs.Ythffllegmkolgaa.TreeK
open Go.RowKit Go.Proofs.YthffllegmkolgaaW.PrintWords Go.Proofs.YthffllegmkolgaaW.PrintLast Go.Proofs.YthffllegmkolgaaW.PrintMore Go.Proofs.Ythffllegmkolgaa.QTree Go.Proofs.Ythffllegmkolgaa.EvKit Go.Proofs.Ythffllegmkolgaa.GTree
set_option linter.unusedSimpArgs false
set_option linter.unusedVariables false
theorem sm_flR (x : Tre) (s : sm_Tree x) (h : trB x = true) : sm_CellSS (flR x.f0 x.f1) := by
  have := sm_flT x s
  rw [flT, if_pos h] at this
  exact this.2.1
theorem sm_chT (x : Tre) (s : sm_Tree x) (c : Cel) (h0 : c.f0.size ≤ 1048576) (h1 : c.f1.size ≤ 1048576) : sm_Tree (chT x c).1 := by
  unfold chT
  by_cases h : trB x = true ∧ chB x.f2 c = true
  · rw [if_pos h]
    have hf := tree_facts h.1
    have hl : (chA x.f0 x.f3).length ≤ 50 := by
      have e1 := (chA_sub x.f0 x.f3).length_le
      have e2 := hf.len
      have e3 := hf.most
      omega
    refine ⟨⟨?_, fun y hy => ?_⟩, ?_, (by have := hf.seq; exact ⟨by show (-9223372036854775808 : Int) ≤ x.f2 + 1; omega, by show x.f2 + 1 ≤ (9223372036854775807 : Int); omega⟩), s.2.2.2⟩
    · show (chM x.f0 x.f2 x.f3 c).length ≤ 1048576
      rw [chM, srt_len, List.length_append, List.length_singleton]; omega
    · have hm := srt_mem hy
      rcases List.mem_append.1 hm with h2 | h2
      · exact s.1.2 y ((chA_sub x.f0 x.f3).subset h2)
      · obtain rfl : y = chC x.f2 c := by simpa using h2
        have := hf.seq
        exact ⟨h0, h1, ⟨by show (-9223372036854775808 : Int) ≤ x.f2 + 1; omega, by show x.f2 + 1 ≤ (9223372036854775807 : Int); omega⟩, trivial⟩
    · show sm_CellSS (chR x.f0 x.f1 x.f3)
      unfold chR
      by_cases hq : (x.f0.length : Int) = x.f3
      · rw [if_pos hq]; exact sm_flR x s h.1
      · rw [if_neg hq]; exact s.2.1
  · rw [if_neg h]
    exact ⟨⟨by simp, fun c hc => by cases hc⟩, ⟨by simp, fun c hc => by cases hc⟩, (by decide : (-9223372036854775808 : Int) ≤ 0 ∧ (0 : Int) ≤ 9223372036854775807), (by decide : (-9223372036854775808 : Int) ≤ 0 ∧ (0 : Int) ≤ 9223372036854775807)⟩
theorem own_of {base : Nat} {W : World} {y : Tre} {b : Bool} {f : FuncId} {args : Array Value} (hb : base ≤ W.heap.size)
    (h : Calls Try.prog f args W fun e w' => ∃ v0 v1 : Value, e = .returned (.tuple #[.agg #[v0, v1, .int .i64 y.f2, .int .i64 y.f3], .bool b]) ∧ KC.R TC w' W.heap.size (fun _ => True) v0 y.f0 ∧ Kd.S KL TL w' W.heap.size (fun k => some k ≠ v0.ownBlock) v1 y.f1 ∧ Below W.heap.size W w') :
    Calls Try.prog f args W fun e w' => ∃ A' c' B' d', e = .returned (.tuple #[.agg #[.slice A' y.f0.length c', .slice B' y.f1.length d', .int .i64 y.f2, .int .i64 y.f3], .bool b]) ∧ Own base w' W.heap.size w'.heap.size y (.slice A' y.f0.length c') (.slice B' y.f1.length d') ∧ Below W.heap.size W w' := by
  refine h.mono ?_
  rintro e w' ⟨v0, v1, rfl, h0, h1, hb'⟩
  have ho := Own.mk_ (x := y) hb h0 h1
  obtain ⟨A', c', B', d', rfl, rfl⟩ := ho.form
  exact ⟨A', c', B', d', rfl, ho, hb'⟩
end Go.Proofs.Ythffllegmkolgaa.TreeK
