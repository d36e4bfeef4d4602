/- Joined: LookCalls, TreeOwn. -/
import Derived.Test.YthffllegmkolgaaT10TreeWalk
import Derived.Test.YthffllegmkolgaaT10TreeSpec2
import Derived.Test.YthffllegmkolgaaT10GenTree
import Derived.Test.YthffllegmkolgaaT10Seen
import Derived.Test.YthffllegmkolgaaT10TreeMarkW
import Derived.Test.YthffllegmkolgaaT10QTreex10
import Derived.Test.YthffllegmkolgaaT10In
import Derived.Test.YthffllegmkolgaaT10QTreex15
namespace Go.Proofs.Ythffllegmkolgaa.TreeK
open Go.RowKit Go.Proofs.YthffllegmkolgaaW.PrintWords Go.Proofs.YthffllegmkolgaaW.PrintLast Go.Proofs.YthffllegmkolgaaW.PrintMore Go.Proofs.Ythffllegmkolgaa.QTree Go.Proofs.Ythffllegmkolgaa.EvKit Go.Proofs.Ythffllegmkolgaa.GTree
abbrev LTre := P25
abbrev Tre := P31
def TreeC (w : World) (x : Tre) (A : Option Addr) (c : Nat) (B : Option Addr) (d : Nat) : Prop := (x.f0.length ≤ c ∧ k48.C w A x.f0.length x.f0) ∧ x.f1.length ≤ d ∧ (Kd.slice 48 k48).C w B x.f1.length x.f1
def LTreeC (w : World) (x : LTre) (A : Option Addr) (c : Nat) (B : Option Addr) (d : Nat) : Prop := (x.f0.length ≤ c ∧ k99.C w A x.f0.length x.f0) ∧ x.f1.length ≤ d ∧ (Kd.slice 99 k99).C w B x.f1.length x.f1
theorem TreeC.below {w w' : World} {x : Tre} {A B : Option Addr} {c d : Nat} (h : TreeC w x A c B d) (hb : Below w.heap.size w w') : TreeC w' x A c B d := ⟨⟨h.1.1, Kd.C_below h.1.2 hb⟩, h.2.1, Kd.C_below h.2.2 hb⟩
theorem LTreeC.below {w w' : World} {x : LTre} {A B : Option Addr} {c d : Nat} (h : LTreeC w x A c B d) (hb : Below w.heap.size w w') : LTreeC w' x A c B d := ⟨⟨h.1.1, Kd.C_below h.1.2 hb⟩, h.2.1, Kd.C_below h.2.2 hb⟩
theorem tree_open {w : World} {x : LTre} {cs : List Value} (h : kp25.K w x cs) : ∃ A c B d, cs = [.slice A x.f0.length c, .slice B x.f1.length d, .int .i64 x.f2, .int .i64 x.f3] ∧ LTreeC w x A c B d := by
  obtain ⟨_, _, rfl, ⟨A, c, rfl, l, g⟩, ⟨_, _, rfl, ⟨B, d, rfl, l2, g2⟩, ⟨_, _, rfl, rfl, rfl⟩⟩⟩ := h
  exact ⟨A, c, B, d, rfl, ⟨l, g⟩, l2, g2⟩
theorem sm_m {x : List Cel} (h : sm_CellS x) : x.length ≤ 1048576 ∧ ∀ c ∈ x, -9223372036854775808 ≤ c.f2 ∧ c.f2 ≤ 9223372036854775807 := ⟨h.1, fun c hc => (h.2 c hc).2.2.1⟩
theorem eq_tree (A B A' B' : Option Addr) (c d c' d' : Nat) (x : Tre) (W : World) (h : TreeC W x A c B d) (h' : TreeC W x A' c' B' d') (s : sm_Tree x) :
    Calls Try.prog 19 #[.agg #[.slice A x.f0.length c, .slice B x.f1.length d, .int .i64 x.f2, .int .i64 x.f3], .agg #[.slice A' x.f0.length c', .slice B' x.f1.length d', .int .i64 x.f2, .int .i64 x.f3]] W fun e w' => e = .returned (.bool true) ∧ Below W.heap.size W w' := by
  obtain ⟨k, hk⟩ := Ev.rounds (ev_eqTree x s)
  exact laws_eqTree.calls k A c _ B d _ _ _ A' c' _ B' d' _ _ _ _ W h.1.2 h.1.1 h.2.2 h.2.1 h'.1.2 h'.1.1 h'.2.2 h'.2.1 hk
def trB (x : Tre) : Bool := treeB x.f0 x.f1 x.f2 x.f3
theorem call_tree_spec (A B : Option Addr) (c d : Nat) (x : Tre) (W : World) (h : TreeC W x A c B d) (s : sm_Tree x) :
    Calls Try.prog 16 #[.agg #[.slice A x.f0.length c, .slice B x.f1.length d, .int .i64 x.f2, .int .i64 x.f3]] W fun e w' => e = .returned (.bool (trB x)) ∧ Below W.heap.size W w' := by
  obtain ⟨k, hk⟩ := Ev.rounds (spec_tree x.f0 x.f1 x.f2 x.f3 s.1.1 (fun y hy => (s.2.1.2 y hy).1))
  exact spec_TreeOk.calls k A c _ B d _ _ _ _ W h.1.2 h.1.1 h.2.2 h.2.1 hk
theorem call_tree_impl (A B : Option Addr) (c d : Nat) (x : Tre) (W : World) (h : TreeC W x A c B d) (s : sm_Tree x) :
    Calls Try.prog 18 #[.agg #[.slice A x.f0.length c, .slice B x.f1.length d, .int .i64 x.f2, .int .i64 x.f3]] W fun e w' => e = .returned (.bool (trB x)) ∧ Below W.heap.size W w' :=
  impl_tree A B c d _ _ _ _ W h.1.2 h.1.1 h.2.2 h.2.1 (sm_m s.1) ⟨s.2.1.1, fun y hy => sm_m (s.2.1.2 y hy)⟩
end Go.Proofs.Ythffllegmkolgaa.TreeK

namespace Go.Proofs.Ythffllegmkolgaa.TreeK
open Go.RowKit Go.Proofs.YthffllegmkolgaaW.PrintWords Go.Proofs.YthffllegmkolgaaW.PrintLast Go.Proofs.YthffllegmkolgaaW.PrintMore Go.Proofs.Ythffllegmkolgaa.QTree Go.Proofs.Ythffllegmkolgaa.EvKit Go.Proofs.Ythffllegmkolgaa.GTree Go.Proofs.Ythffllegmkolgaa.MapKit
def lookX (x : Tre) (key : ByteArray) (seq : Int) : ByteArray × Bool := if trB x = true then lookR (x.f0 ++ x.f1.flatten) key seq else (⟨#[]⟩, false)
theorem call_look_spec (A B : Option Addr) (c d : Nat) (x : Tre) (key : ByteArray) (seq : Int) (W : World) (h : TreeC W x A c B d) (s : sm_Tree x) :
    Calls Try.prog 20 #[.agg #[.slice A x.f0.length c, .slice B x.f1.length d, .int .i64 x.f2, .int .i64 x.f3], .string key, .int .i64 seq] W fun e w' => e = .returned (.tuple #[.string (lookX x key seq).1, .bool (lookX x key seq).2]) ∧ Below W.heap.size W w' := by
  obtain ⟨k, hk⟩ := Ev.rounds (spec_look x.f0 x.f1 x.f2 x.f3 key seq s.1.1 (fun y hy => (s.2.1.2 y hy).1))
  exact spec_Look.calls k A c _ B d _ _ _ _ _ _ _ W h.1.2 h.1.1 h.2.2 h.2.1 hk
theorem tree_len8 {x : Tre} (s : sm_Tree x) (h : trB x = true) : (x.f0 ++ x.f1.flatten).length ≤ 8388608 := by
  have h1 := flat_len x.f1 (fun y hy => (s.2.1.2 y hy).1)
  have h2 := tree_lens h
  have h3 := s.1.1
  rw [List.length_append]
  omega
end Go.Proofs.Ythffllegmkolgaa.TreeK

namespace Go.Proofs.Ythffllegmkolgaa.TreeK
open Go.RowKit Go.Proofs.YthffllegmkolgaaW.PrintWords Go.Proofs.YthffllegmkolgaaW.PrintLast Go.Proofs.YthffllegmkolgaaW.PrintMore Go.Proofs.Ythffllegmkolgaa.QTree Go.Proofs.Ythffllegmkolgaa.EvKit
set_option linter.unusedSimpArgs false
set_option linter.unusedVariables false
abbrev KC := k48
abbrev KL := Kd.slice 48 k48
abbrev TC : Nat := 48
abbrev TL : Nat := 28
set_option maxHeartbeats 1600000 in
set_option maxRecDepth 100000 in
theorem mark_tree' (u0 u1 : Value) (x : List Cel) (ls : List (List Cel)) (s q : Int) (k : Int) (P0 P1 : Nat → Prop) (w0 w : World) (hB : Below w0.heap.size w0 w) (h0 : KC.R TC w w0.heap.size P0 u0 x) (h1 : Kd.S KL TL w w0.heap.size P1 u1 ls) (hap : ∀ k, P0 k → ¬ P1 k) (hl0 : ∀ k, P0 k → k < w.heap.size) (hl1 : ∀ k, P1 k → k < w.heap.size) (hk : 0 ≤ k) (hl : k + 4 * x.length + 4 * sumL (ls.map List.length) ≤ 100000000000000) :
    Calls Try.prog 32 #[.agg #[u0, u1, .int .i64 s, .int .i64 q], .int .i64 k] w fun e w' => e = .returned (.int .i64 (k + 4 * x.length + 4 * sumL (ls.map List.length))) ∧ KC.R TC w' w0.heap.size P0 u0 (markL k x.length) ∧ Kd.S KL TL w' w0.heap.size (fun k_ => P1 k_ ∨ w.heap.size ≤ k_) u1 (markR (k + 4 * x.length) (ls.map List.length)) ∧ Below w0.heap.size w0 w' ∧ Kept w w' (fun k_ => P0 k_ ∨ P1 k_) := by
  have HP := zA h0.1
  have HAP := zA hap
  have HL0 := zA hl0
  have HL1 := zA hl1
  have HK := zA ((Kept.refl w (fun k_ => P0 k_ ∨ P1 k_)).alloc (.cells #[u0, u1, .int .i64 s, .int .i64 q] 31))
  have HLE := zA ((Below.size (below_alloc (Below.refl w.heap.size w) (.cells #[u0, u1, .int .i64 s, .int .i64 q] 31))))
  have HB := zA (bel hB (bel_alloc w (.cells #[u0, u1, .int .i64 s, .int .i64 q] 31)))
  have H0 := zA (Kd.R_alloc h0 (.cells #[u0, u1, .int .i64 s, .int .i64 q] 31))
  have H1 := zA (Kd.S_alloc h1 (.cells #[u0, u1, .int .i64 s, .int .i64 q] 31))
  have BK := zA (blk_new w (.cells #[u0, u1, .int .i64 s, .int .i64 q] 31))
  obtain ⟨A, c, rfl⟩ := Kd.R_slice h0
  obtain ⟨B, d, rfl⟩ := Kd.S_slice h1
  clear hB h0 h1 hap hl0 hl1
  go_enter Try.func32, Try.ntmps32
  go_upto_region 1 with (fail)
  obtain ⟨g, hgg⟩ : ∃ g, g = w.heap.size := ⟨_, rfl⟩
  rw [← hgg] at BK
  have HG := zA hgg
  generalize hW : w.alloc (.cells #[.slice A x.length c, .slice B ls.length d, .int .i64 s, .int .i64 q] 31) = W at *
  rw [← hgg]
  clear hgg hW
  have hkBK := keep4 BK.out; obtain ⟨BK0, BK1, BK2, BK3⟩ := hkBK
  go_wp2_with (fail)
  refine (mark_cells P0 (.slice A x.length c) x k w0 W HB.out H0.out hk (by omega)).mono ?_; rintro e w2 ⟨rfl, hR, hb, hkp⟩
  have hR1 := Kd.R_mono (Kd.R_tight rfl hR) (fun k_ hk_ => HP.out k_ hk_.symm)
  replace BK := zA (blk_kept BK.out hkp (fun h => by have := HL0.out g h; have := HG.out; omega))
  replace H0 := zA hR1
  replace H1 := zA (Kd.S_kept H1.out hkp (fun k_ h h' => HAP.out k_ h' h))
  replace HK := zA (HK.out.then_ hkp (fun k_ h => .inl (.inl h)))
  replace HB := zA hb
  have HLE2 := zA (Nat.le_trans HLE.out hkp.1)
  clear hR hR1 hb hkp BK0 BK1 BK2 BK3
  have hkBK := keep4 BK.out; obtain ⟨BK0, BK1, BK2, BK3⟩ := hkBK
  go_wp2_with (fail)
  refine (mark_rows P1 (.slice B ls.length d) ls (k + 4 * x.length) w0 w2 HB.out H1.out (by omega) (by omega)).mono ?_; rintro e w3 ⟨rfl, hR, hb, hkp⟩
  replace H0 := zA (Kd.R_kept H0.out hkp (fun k_ h h' => HAP.out k_ h h'))
  replace H1 := zA (Kd.S_mono hR (ok' := fun k_ => P1 k_ ∨ w.heap.size ≤ k_) (fun k_ h => h.imp id (fun h => Nat.le_trans HLE2.out h)))
  replace HK := zA (HK.out.then_ hkp (fun k_ h => .inl (.inr h)))
  replace HB := zA hb
  clear hR hb hkp BK BK0 BK1 BK2 BK3
  go_wp2_with (fail)
  go_ret
  exact ⟨rfl, by first | exact H0.out | exact Kd.R_drewN H0.out _, by first | exact H1.out | exact Kd.S_drewN H1.out _, by first | exact HB.out | exact pw_below_drewN HB.out _, by first | exact HK.out | exact HK.out.drewN _⟩
theorem mark_tree (u0 u1 : Value) (x : List Cel) (ls : List (List Cel)) (s q : Int) (k : Int) (P0 P1 : Nat → Prop) (w0 w : World) (hB : Below w0.heap.size w0 w) (h0 : KC.R TC w w0.heap.size P0 u0 x) (h1 : Kd.S KL TL w w0.heap.size P1 u1 ls) (hap : ∀ k, P0 k → ¬ P1 k) (hk : 0 ≤ k) (hl : k + 4 * x.length + 4 * sumL (ls.map List.length) ≤ 100000000000000) :
    Calls Try.prog 32 #[.agg #[u0, u1, .int .i64 s, .int .i64 q], .int .i64 k] w fun e w' => e = .returned (.int .i64 (k + 4 * x.length + 4 * sumL (ls.map List.length))) ∧ KC.R TC w' w0.heap.size P0 u0 (markL k x.length) ∧ Kd.S KL TL w' w0.heap.size (fun k_ => P1 k_ ∨ w.heap.size ≤ k_) u1 (markR (k + 4 * x.length) (ls.map List.length)) ∧ Below w0.heap.size w0 w' ∧ Kept w w' (fun k_ => P0 k_ ∨ P1 k_) := by
  refine (mark_tree' u0 u1 x ls s q k (fun k => P0 k ∧ k < w.heap.size) (fun k => P1 k ∧ k < w.heap.size) w0 w hB (Kd.R_mono (Kd.R_bound h0) (fun k h => ⟨h.1, h.2.2.1⟩)) (Kd.S_mono (Kd.S_bound h1) (fun k h => ⟨h.1, h.2.2.1⟩)) (fun k h h' => hap k h.1 h'.1) (fun k h => h.2) (fun k h => h.2) hk hl).mono ?_
  rintro e w' ⟨rfl, h0, h1, hb, hkp⟩
  exact ⟨rfl, Kd.R_mono h0 (fun _ h => h.1), Kd.S_mono h1 (fun _ h => h.imp And.left id), hb, hkp.mono (fun k h => h.imp And.left And.left)⟩
end Go.Proofs.Ythffllegmkolgaa.TreeK
