/- The program's Flush, called. -/
import Derived.Test.YthffllegmkolgaaT6FlPure
namespace Go.Proofs.Ythffllegmkolgaa.TreeK
open Go.RowKit Go.Proofs.YthffllegmkolgaaW.PrintWords Go.Proofs.YthffllegmkolgaaW.PrintLast Go.Proofs.YthffllegmkolgaaW.PrintMore Go.Proofs.Ythffllegmkolgaa.QTree Go.Proofs.Ythffllegmkolgaa.EvKit Go.Proofs.Ythffllegmkolgaa.GTree
set_option linter.unusedSimpArgs false
set_option linter.unusedVariables false
theorem fit_of (x : Tre) (s : sm_Tree x) : Fit x.f0 x.f1 := ⟨s.1.1, s.2.1.1, fun r hr => (s.2.1.2 r hr).1⟩
def put4 (w : World) (g : Nat) (a b : Value) (x y : Int) : World := (((w.setCell ⟨g, 0, none⟩ a).setCell ⟨g, 1, none⟩ b).setCell ⟨g, 2, none⟩ (.int .i64 x)).setCell ⟨g, 3, none⟩ (.int .i64 y)
theorem put4_blk {w : World} {g : Nat} {a b v0 v1 : Value} {x y s q : Int} (h : blkT w g v0 v1 s q) : blkT (put4 w g a b x y) g a b x y := blk_put (blk_put (blk_put (blk_put h 0 a rfl) 1 b rfl) 2 (.int .i64 x) rfl) 3 (.int .i64 y) rfl
theorem put4_far {w : World} {g g' : Nat} {a b v0 v1 : Value} {x y s q : Int} (h : blkT w g' v0 v1 s q) (hne : g' ≠ g) : blkT (put4 w g a b x y) g' v0 v1 s q := blk_far (blk_far (blk_far (blk_far h hne a) hne b) hne (.int .i64 x)) hne (.int .i64 y)
theorem put4_R {w : World} {g base : Nat} {a b v0 v1 u : Value} {x y s q : Int} {ok : Nat → Prop} {l : List Cel} (h : blkT w g v0 v1 s q) (hR : KC.R TC w base ok u l) : KC.R TC (put4 w g a b x y) base ok u l := by
  have hR' := Kd.R_types hR h (by decide)
  exact Kd.R_mono (Kd.R_far (p := ⟨g, 3, none⟩) (Kd.R_far (p := ⟨g, 2, none⟩) (Kd.R_far (p := ⟨g, 1, none⟩) (Kd.R_far (p := ⟨g, 0, none⟩) hR' (fun _ hk => hk.2) a) (fun _ hk => hk.2) b) (fun _ hk => hk.2) (.int .i64 x)) (fun _ hk => hk.2) (.int .i64 y)) (fun _ hk => hk.1)
theorem put4_S {w : World} {g base : Nat} {a b v0 v1 u : Value} {x y s q : Int} {ok : Nat → Prop} {l : List (List Cel)} (h : blkT w g v0 v1 s q) (hR : Kd.S KL TL w base ok u l) : Kd.S KL TL (put4 w g a b x y) base ok u l := by
  have hR' := Kd.S_types hR h (by decide)
  exact Kd.S_mono (Kd.S_far (p := ⟨g, 3, none⟩) (Kd.S_far (p := ⟨g, 2, none⟩) (Kd.S_far (p := ⟨g, 1, none⟩) (Kd.S_far (p := ⟨g, 0, none⟩) hR' (fun _ hk => hk.2) a) (fun _ hk => hk.2) b) (fun _ hk => hk.2) (.int .i64 x)) (fun _ hk => hk.2) (.int .i64 y)) (fun _ hk => hk.1)
theorem put4_below {w0 w : World} {g : Nat} {a b : Value} {x y : Int} (h : Below w0.heap.size w0 w) (hg : w0.heap.size ≤ g) : Below w0.heap.size w0 (put4 w g a b x y) := below_set (below_set (below_set (below_set h hg) hg) hg) hg
end Go.Proofs.Ythffllegmkolgaa.TreeK
