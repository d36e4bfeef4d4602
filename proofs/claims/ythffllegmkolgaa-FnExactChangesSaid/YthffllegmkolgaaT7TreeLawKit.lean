/- What the laws over trees call: sizes, copies, comparisons, and TreeOk in reference and program. -/
import Derived.Test.YthffllegmkolgaaT7TreeWalk
import Derived.Test.YthffllegmkolgaaT7TreeSpec2
import Derived.Test.YthffllegmkolgaaT7GenTree
namespace Go.Proofs.Ythffllegmkolgaa.TreeK
open Go.RowKit Go.Proofs.YthffllegmkolgaaW.PrintWords Go.Proofs.YthffllegmkolgaaW.PrintLast Go.Proofs.YthffllegmkolgaaW.PrintMore Go.Proofs.Ythffllegmkolgaa.QTree Go.Proofs.Ythffllegmkolgaa.EvKit Go.Proofs.Ythffllegmkolgaa.GTree
abbrev LTre := P25
abbrev Tre := P31
def TreeC (w : World) (x : Tre) (A : Option Addr) (c : Nat) (B : Option Addr) (d : Nat) : Prop := (x.f0.length ≤ c ∧ k48.C w A x.f0.length x.f0) ∧ x.f1.length ≤ d ∧ (Kd.slice 48 k48).C w B x.f1.length x.f1
def LTreeC (w : World) (x : LTre) (A : Option Addr) (c : Nat) (B : Option Addr) (d : Nat) : Prop := (x.f0.length ≤ c ∧ k99.C w A x.f0.length x.f0) ∧ x.f1.length ≤ d ∧ (Kd.slice 99 k99).C w B x.f1.length x.f1
theorem TreeC.below {w w' : World} {x : Tre} {A B : Option Addr} {c d : Nat} (h : TreeC w x A c B d) (hb : Below w.heap.size w w') : TreeC w' x A c B d := ⟨⟨h.1.1, Kd.C_below h.1.2 hb⟩, h.2.1, Kd.C_below h.2.2 hb⟩
theorem LTreeC.below {w w' : World} {x : LTre} {A B : Option Addr} {c d : Nat} (h : LTreeC w x A c B d) (hb : Below w.heap.size w w') : LTreeC w' x A c B d := ⟨⟨h.1.1, Kd.C_below h.1.2 hb⟩, h.2.1, Kd.C_below h.2.2 hb⟩
theorem tree_open {w : World} {x : LTre} {cs : List Value} (h : kp25.K w x cs) : ∃ A c B d, cs = [.slice A x.f0.length c, .slice B x.f1.length d, .int .i64 x.f2, .int .i64 x.f3] ∧ LTreeC w x A c B d := by
  obtain ⟨_, _, rfl, ⟨A, c, rfl, l, g⟩, ⟨_, _, rfl, ⟨B, d, rfl, l2, g2⟩, ⟨_, _, rfl, rfl, rfl⟩⟩⟩ := h
  exact ⟨A, c, B, d, rfl, ⟨l, g⟩, l2, g2⟩
theorem sm_m {x : List Cel} (h : sm_CellS x) : x.length ≤ 1048576 ∧ ∀ c ∈ x, -9223372036854775808 ≤ c.f2 ∧ c.f2 ≤ 9223372036854775807 := ⟨h.1, fun c hc => (h.2 c hc).2.2.1⟩
theorem eq_tree (A B A' B' : Option Addr) (c d c' d' : Nat) (x : Tre) (W : World) (h : TreeC W x A c B d) (h' : TreeC W x A' c' B' d') (s : sm_Tree x) :
    Calls Try.prog 19 #[.agg #[.slice A x.f0.length c, .slice B x.f1.length d, .int .i64 x.f2, .int .i64 x.f3], .agg #[.slice A' x.f0.length c', .slice B' x.f1.length d', .int .i64 x.f2, .int .i64 x.f3]] W fun e w' => e = .returned (.bool true) ∧ Below W.heap.size W w' := by
  obtain ⟨k, hk⟩ := Ev.rounds (ev_eqTree x s)
  exact laws_eqTree.calls k A c _ B d _ _ _ A' c' _ B' d' _ _ _ _ W h.1.2 h.1.1 h.2.2 h.2.1 h'.1.2 h'.1.1 h'.2.2 h'.2.1 hk
def trB (x : Tre) : Bool := treeB x.f0 x.f1 x.f2 x.f3
theorem call_tree_impl (A B : Option Addr) (c d : Nat) (x : Tre) (W : World) (h : TreeC W x A c B d) (s : sm_Tree x) :
    Calls Try.prog 18 #[.agg #[.slice A x.f0.length c, .slice B x.f1.length d, .int .i64 x.f2, .int .i64 x.f3]] W fun e w' => e = .returned (.bool (trB x)) ∧ Below W.heap.size W w' :=
  impl_tree A B c d _ _ _ _ W h.1.2 h.1.1 h.2.2 h.2.1 (sm_m s.1) ⟨s.2.1.1, fun y hy => sm_m (s.2.1.2 y hy)⟩
end Go.Proofs.Ythffllegmkolgaa.TreeK
