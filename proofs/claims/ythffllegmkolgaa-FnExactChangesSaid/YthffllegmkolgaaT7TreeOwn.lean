/- A row of one's own set ahead of rows of one's own; marks on a whole tree. -/
import Derived.Test.YthffllegmkolgaaT7TreeMarkW
import Derived.Test.YthffllegmkolgaaT7CelSort
import Derived.Test.YthffllegmkolgaaT7In
import Derived.Test.YthffllegmkolgaaT7TreeLawKit
import Derived.Test.YthffllegmkolgaaT7QTreex15
namespace Go.Proofs.Ythffllegmkolgaa.TreeK
open Go.RowKit Go.Proofs.YthffllegmkolgaaW.PrintWords Go.Proofs.YthffllegmkolgaaW.PrintLast Go.Proofs.YthffllegmkolgaaW.PrintMore Go.Proofs.Ythffllegmkolgaa.QTree Go.Proofs.Ythffllegmkolgaa.EvKit
set_option linter.unusedSimpArgs false
set_option linter.unusedVariables false
abbrev KC := k48
abbrev KL := Kd.slice 48 k48
abbrev TC : Nat := 48
abbrev TL : Nat := 28
set_option maxHeartbeats 1600000 in
set_option maxRecDepth 100000 in
theorem mark_tree' (u0 u1 : Value) (x : List Cel) (ls : List (List Cel)) (s q : Int) (k : Int) (P0 P1 : Nat → Prop) (w0 w : World) (hB : Below w0.heap.size w0 w) (h0 : KC.R TC w w0.heap.size P0 u0 x) (h1 : Kd.S KL TL w w0.heap.size P1 u1 ls) (hap : ∀ k, P0 k → ¬ P1 k) (hl0 : ∀ k, P0 k → k < w.heap.size) (hl1 : ∀ k, P1 k → k < w.heap.size) (hk : 0 ≤ k) (hl : k + 4 * x.length + 4 * sumL (ls.map List.length) ≤ 100000000000000) :
    Calls Try.prog 32 #[.agg #[u0, u1, .int .i64 s, .int .i64 q], .int .i64 k] w fun e w' => e = .returned (.int .i64 (k + 4 * x.length + 4 * sumL (ls.map List.length))) ∧ KC.R TC w' w0.heap.size P0 u0 (markL k x.length) ∧ Kd.S KL TL w' w0.heap.size (fun k_ => P1 k_ ∨ w.heap.size ≤ k_) u1 (markR (k + 4 * x.length) (ls.map List.length)) ∧ Below w0.heap.size w0 w' ∧ Kept w w' (fun k_ => P0 k_ ∨ P1 k_) := by
  have HP := zA h0.1
  have HAP := zA hap
  have HL0 := zA hl0
  have HL1 := zA hl1
  have HK := zA ((Kept.refl w (fun k_ => P0 k_ ∨ P1 k_)).alloc (.cells #[u0, u1, .int .i64 s, .int .i64 q] 31))
  have HLE := zA ((Below.size (below_alloc (Below.refl w.heap.size w) (.cells #[u0, u1, .int .i64 s, .int .i64 q] 31))))
  have HB := zA (bel hB (bel_alloc w (.cells #[u0, u1, .int .i64 s, .int .i64 q] 31)))
  have H0 := zA (Kd.R_alloc h0 (.cells #[u0, u1, .int .i64 s, .int .i64 q] 31))
  have H1 := zA (Kd.S_alloc h1 (.cells #[u0, u1, .int .i64 s, .int .i64 q] 31))
  have BK := zA (blk_new w (.cells #[u0, u1, .int .i64 s, .int .i64 q] 31))
  obtain ⟨A, c, rfl⟩ := Kd.R_slice h0
  obtain ⟨B, d, rfl⟩ := Kd.S_slice h1
  clear hB h0 h1 hap hl0 hl1
  go_enter Try.func32, Try.ntmps32
  go_upto_region 1 with (fail)
  obtain ⟨g, hgg⟩ : ∃ g, g = w.heap.size := ⟨_, rfl⟩
  rw [← hgg] at BK
  have HG := zA hgg
  generalize hW : w.alloc (.cells #[.slice A x.length c, .slice B ls.length d, .int .i64 s, .int .i64 q] 31) = W at *
  rw [← hgg]
  clear hgg hW
  have hkBK := keep4 BK.out; obtain ⟨BK0, BK1, BK2, BK3⟩ := hkBK
  go_wp2_with (fail)
  refine (mark_cells P0 (.slice A x.length c) x k w0 W HB.out H0.out hk (by omega)).mono ?_; rintro e w2 ⟨rfl, hR, hb, hkp⟩
  have hR1 := Kd.R_mono (Kd.R_tight rfl hR) (fun k_ hk_ => HP.out k_ hk_.symm)
  replace BK := zA (blk_kept BK.out hkp (fun h => by have := HL0.out g h; have := HG.out; omega))
  replace H0 := zA hR1
  replace H1 := zA (Kd.S_kept H1.out hkp (fun k_ h h' => HAP.out k_ h' h))
  replace HK := zA (HK.out.then_ hkp (fun k_ h => .inl (.inl h)))
  replace HB := zA hb
  have HLE2 := zA (Nat.le_trans HLE.out hkp.1)
  clear hR hR1 hb hkp BK0 BK1 BK2 BK3
  have hkBK := keep4 BK.out; obtain ⟨BK0, BK1, BK2, BK3⟩ := hkBK
  go_wp2_with (fail)
  refine (mark_rows P1 (.slice B ls.length d) ls (k + 4 * x.length) w0 w2 HB.out H1.out (by omega) (by omega)).mono ?_; rintro e w3 ⟨rfl, hR, hb, hkp⟩
  replace H0 := zA (Kd.R_kept H0.out hkp (fun k_ h h' => HAP.out k_ h h'))
  replace H1 := zA (Kd.S_mono hR (ok' := fun k_ => P1 k_ ∨ w.heap.size ≤ k_) (fun k_ h => h.imp id (fun h => Nat.le_trans HLE2.out h)))
  replace HK := zA (HK.out.then_ hkp (fun k_ h => .inl (.inr h)))
  replace HB := zA hb
  clear hR hb hkp BK BK0 BK1 BK2 BK3
  go_wp2_with (fail)
  go_ret
  exact ⟨rfl, by first | exact H0.out | exact Kd.R_drewN H0.out _, by first | exact H1.out | exact Kd.S_drewN H1.out _, by first | exact HB.out | exact pw_below_drewN HB.out _, by first | exact HK.out | exact HK.out.drewN _⟩
theorem mark_tree (u0 u1 : Value) (x : List Cel) (ls : List (List Cel)) (s q : Int) (k : Int) (P0 P1 : Nat → Prop) (w0 w : World) (hB : Below w0.heap.size w0 w) (h0 : KC.R TC w w0.heap.size P0 u0 x) (h1 : Kd.S KL TL w w0.heap.size P1 u1 ls) (hap : ∀ k, P0 k → ¬ P1 k) (hk : 0 ≤ k) (hl : k + 4 * x.length + 4 * sumL (ls.map List.length) ≤ 100000000000000) :
    Calls Try.prog 32 #[.agg #[u0, u1, .int .i64 s, .int .i64 q], .int .i64 k] w fun e w' => e = .returned (.int .i64 (k + 4 * x.length + 4 * sumL (ls.map List.length))) ∧ KC.R TC w' w0.heap.size P0 u0 (markL k x.length) ∧ Kd.S KL TL w' w0.heap.size (fun k_ => P1 k_ ∨ w.heap.size ≤ k_) u1 (markR (k + 4 * x.length) (ls.map List.length)) ∧ Below w0.heap.size w0 w' ∧ Kept w w' (fun k_ => P0 k_ ∨ P1 k_) := by
  refine (mark_tree' u0 u1 x ls s q k (fun k => P0 k ∧ k < w.heap.size) (fun k => P1 k ∧ k < w.heap.size) w0 w hB (Kd.R_mono (Kd.R_bound h0) (fun k h => ⟨h.1, h.2.2.1⟩)) (Kd.S_mono (Kd.S_bound h1) (fun k h => ⟨h.1, h.2.2.1⟩)) (fun k h h' => hap k h.1 h'.1) (fun k h => h.2) (fun k h => h.2) hk hl).mono ?_
  rintro e w' ⟨rfl, h0, h1, hb, hkp⟩
  exact ⟨rfl, Kd.R_mono h0 (fun _ h => h.1), Kd.S_mono h1 (fun _ h => h.imp And.left id), hb, hkp.mono (fun k h => h.imp And.left And.left)⟩
end Go.Proofs.Ythffllegmkolgaa.TreeK
