/- What the laws over trees call: sizes, copies, comparisons, and TreeOk in reference and program. -/
import Derived.Test.YthffllegmkolgaaT5TreeWalk
import Derived.Test.YthffllegmkolgaaT5TreeSpec2
import Derived.Test.YthffllegmkolgaaT5GenTree
namespace Go.Proofs.Ythffllegmkolgaa.TreeK
open Go.RowKit Go.Proofs.YthffllegmkolgaaW.PrintWords Go.Proofs.YthffllegmkolgaaW.PrintLast Go.Proofs.YthffllegmkolgaaW.PrintMore Go.Proofs.Ythffllegmkolgaa.QTree Go.Proofs.Ythffllegmkolgaa.EvKit Go.Proofs.Ythffllegmkolgaa.GTree
abbrev Tre := P31
def TreeC (w : World) (x : Tre) (A : Option Addr) (c : Nat) (B : Option Addr) (d : Nat) : Prop := (x.f0.length ≤ c ∧ k48.C w A x.f0.length x.f0) ∧ x.f1.length ≤ d ∧ (Kd.slice 48 k48).C w B x.f1.length x.f1
theorem TreeC.below {w w' : World} {x : Tre} {A B : Option Addr} {c d : Nat} (h : TreeC w x A c B d) (hb : Below w.heap.size w w') : TreeC w' x A c B d := ⟨⟨h.1.1, Kd.C_below h.1.2 hb⟩, h.2.1, Kd.C_below h.2.2 hb⟩
theorem eq_tree (A B A' B' : Option Addr) (c d c' d' : Nat) (x : Tre) (W : World) (h : TreeC W x A c B d) (h' : TreeC W x A' c' B' d') (s : sm_Tree x) :
    Calls Try.prog 19 #[.agg #[.slice A x.f0.length c, .slice B x.f1.length d, .int .i64 x.f2, .int .i64 x.f3], .agg #[.slice A' x.f0.length c', .slice B' x.f1.length d', .int .i64 x.f2, .int .i64 x.f3]] W fun e w' => e = .returned (.bool true) ∧ Below W.heap.size W w' := by
  obtain ⟨k, hk⟩ := Ev.rounds (ev_eqTree x s)
  exact laws_eqTree.calls k A c _ B d _ _ _ A' c' _ B' d' _ _ _ _ W h.1.2 h.1.1 h.2.2 h.2.1 h'.1.2 h'.1.1 h'.2.2 h'.2.1 hk
def trB (x : Tre) : Bool := treeB x.f0 x.f1 x.f2 x.f3
theorem call_tree_spec (A B : Option Addr) (c d : Nat) (x : Tre) (W : World) (h : TreeC W x A c B d) (s : sm_Tree x) :
    Calls Try.prog 16 #[.agg #[.slice A x.f0.length c, .slice B x.f1.length d, .int .i64 x.f2, .int .i64 x.f3]] W fun e w' => e = .returned (.bool (trB x)) ∧ Below W.heap.size W w' := by
  obtain ⟨k, hk⟩ := Ev.rounds (spec_tree x.f0 x.f1 x.f2 x.f3 s.1.1 (fun y hy => (s.2.1.2 y hy).1))
  exact spec_TreeOk.calls k A c _ B d _ _ _ _ W h.1.2 h.1.1 h.2.2 h.2.1 hk
end Go.Proofs.Ythffllegmkolgaa.TreeK
