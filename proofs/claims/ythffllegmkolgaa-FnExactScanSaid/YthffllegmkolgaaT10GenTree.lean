/- The law Tree's helpers (count what came in, copy it, compare it), over numbers and lists alone. Laid by genpure.py of this session. -/
import Derived.Test.YthffllegmkolgaaT10QTreex0
import Derived.Test.YthffllegmkolgaaT10QTreex18
import Derived.Test.YthffllegmkolgaaT10QTreex2
import Derived.Test.YthffllegmkolgaaT10QTreex3
import Derived.Test.YthffllegmkolgaaT10QTreex4
import Derived.Test.YthffllegmkolgaaT10QTreex5
import Derived.Test.YthffllegmkolgaaT10QTreex6
import Derived.Test.YthffllegmkolgaaT10QTreex7
import Derived.Test.YthffllegmkolgaaT10QTreex8
import Derived.Test.YthffllegmkolgaaT10QTreex10
import Derived.Test.YthffllegmkolgaaT10QTreex11
import Derived.Test.YthffllegmkolgaaT10Ev
import Derived.Test.YthffllegmkolgaaT10Open
import Derived.KernelRfl
namespace Go.Proofs.Ythffllegmkolgaa.GTree
open Go.RowKit Go.Proofs.YthffllegmkolgaaW.PrintWords Go.Proofs.Ythffllegmkolgaa.QTree Go.Proofs.Ythffllegmkolgaa.EvKit Go.Proofs.Ythffllegmkolgaa.Open
set_option linter.unusedVariables false
structure P25 where
  f0 : List (S99)
  f1 : List (List (S99))
  f2 : Int
  f3 : Int
structure P31 where
  f0 : List (S48)
  f1 : List (List (S48))
  f2 : Int
  f3 : Int
def ok_Cell (a : S99) : Prop := a.f0.size ≤ 9223372036854775807 ∧ a.f1.size ≤ 9223372036854775807 ∧ (-9223372036854775808 ≤ a.f2 ∧ a.f2 ≤ 9223372036854775807) ∧ True
def sm_Cell (a : S48) : Prop := a.f0.size ≤ 1048576 ∧ a.f1.size ≤ 1048576 ∧ (-9223372036854775808 ≤ a.f2 ∧ a.f2 ≤ 9223372036854775807) ∧ True
def to_Cell (a : S99) : S48 := ⟨a.f0, a.f1, a.f2, a.f3⟩
theorem sz_Cell (a : S99) (h : ok_Cell a) : SZ (fun left k => laws_szCell.f a.f0 a.f1 a.f2 a.f3 left) (sm_Cell (to_Cell a)) := by
  obtain ⟨h0, h1, h2, h3⟩ := h
  refine SZ.imp (show SZ (fun left k => laws_szCell.f a.f0 a.f1 a.f2 a.f3 left) _ from (SZ.str (n := a.f0.size) h0 (SZ.str (n := a.f1.size) h1 SZ.done))) ?_
  rintro ⟨s0, s1, _⟩
  exact ⟨s0, s1, h2, h3⟩
theorem ev_toCell (a : S99) (h : sm_Cell (to_Cell a)) : Ev (fun k => laws_toCell.f a.f0 a.f1 a.f2 a.f3) ((to_Cell a).f0, (to_Cell a).f1, (to_Cell a).f2, (to_Cell a).f3) := by
  obtain ⟨h0, h1, h2, h3⟩ := h
  exact (show Ev (fun k => laws_toCell.f a.f0 a.f1 a.f2 a.f3) _ from (Ev.now _))
theorem ev_eqCell (a : S48) (h : sm_Cell a) : Ev (fun k => laws_eqCell.f a.f0 a.f1 a.f2 a.f3 a.f0 a.f1 a.f2 a.f3) true := by
  obtain ⟨h0, h1, h2, h3⟩ := h
  unfold laws_eqCell.f
  refine Ev.iteT rfl ?_
  refine Ev.iteT rfl ?_
  refine Ev.iteT rfl ?_
  refine Ev.iteF (by simp) ?_
  exact Ev.now _
def ok_CellS (x : List (S99)) : Prop := x.length ≤ 9223372036854775807 ∧ ∀ a ∈ x, ok_Cell a
def sm_CellS (x : List (S48)) : Prop := x.length ≤ 1048576 ∧ ∀ a ∈ x, sm_Cell a
def to_CellS (x : List (S99)) : List (S48) := x.map to_Cell
theorem at_rd_T99 (x : List (S99)) (j : Nat) (h : j < x.length) : rd_T99 x (j : Int) = x[j] := by simp [rd_T99, h]
theorem sz_CellS (x : List (S99)) (h : ok_CellS x) : SZ (fun left k => laws_szCellS.f k x left) (sm_CellS (to_CellS x)) := by
  refine SZ.imp (show SZ (fun left k => laws_szCellS.f k x left) _ from SZ.str (n := x.length) h.1 (SZ.loop (L := laws_szCellS.l0) (S := fun k a left => laws_szCell.f a.f0 a.f1 a.f2 a.f3 left) (rd := rd_T99) (Q := fun a => sm_Cell (to_Cell a)) (fun k x left i => by rw [laws_szCellS.l0]) at_rd_T99 x h.1 (fun a ha => sz_Cell a (h.2 a ha)))) ?_
  rintro ⟨q1, q2⟩
  refine ⟨by simpa [to_CellS] using q1, fun b hb => ?_⟩
  obtain ⟨a, ha, rfl⟩ := List.mem_map.1 hb
  exact q2 a ha
theorem ev_toCellS (x : List (S99)) (h : sm_CellS (to_CellS x)) : Ev (fun k => laws_toCellS.f k x) (to_CellS x) := by
  have hl : x.length ≤ 1048576 := by simpa [to_CellS] using h.1
  unfold laws_toCellS.f
  simp only [show (0 : Int) ≤ (x.length : Int) from by omega, if_true, Int.toNat_natCast, show x.length ≤ 5864062014805 from by omega]
  exact ev_map (L := laws_toCellS.l0) (G := fun k a => laws_toCell.f a.f0 a.f1 a.f2 a.f3) (mk := fun bt => (⟨bt.1, bt.2.1, bt.2.2.1, bt.2.2.2⟩ : S48)) (g := fun a => ((to_Cell a).f0, (to_Cell a).f1, (to_Cell a).f2, (to_Cell a).f3)) (rd := rd_T99) (fun k x acc i => by rw [laws_toCellS.l0]) at_rd_T99 x (by omega) (fun a ha => ev_toCell a (h.2 _ (List.mem_map_of_mem ha))) _ (by simp)
theorem at_rd_T48 (x : List (S48)) (j : Nat) (h : j < x.length) : rd_T48 x (j : Int) = x[j] := by simp [rd_T48, h]
theorem ev_eqCellS (x : List (S48)) (h : sm_CellS x) : Ev (fun k => laws_eqCellS.f k x x) true := by
  have hl := h.1
  unfold laws_eqCellS.f
  simp only [if_true]
  exact ev_eq (L := laws_eqCellS.l0) (E := fun k a b => laws_eqCell.f a.f0 a.f1 a.f2 a.f3 b.f0 b.f1 b.f2 b.f3) (rd := rd_T48) (fun k x y i => by rw [laws_eqCellS.l0]) at_rd_T48 x (by omega) (fun a ha => ev_eqCell a (h.2 a ha))
def ok_CellSS (x : List (List (S99))) : Prop := x.length ≤ 9223372036854775807 ∧ ∀ a ∈ x, ok_CellS a
def sm_CellSS (x : List (List (S48))) : Prop := x.length ≤ 1048576 ∧ ∀ a ∈ x, sm_CellS a
def to_CellSS (x : List (List (S99))) : List (List (S48)) := x.map to_CellS
theorem at_rd_L4 (x : List (List (S99))) (j : Nat) (h : j < x.length) : rd_L4 x (j : Int) = x[j] := by simp [rd_L4, h]
theorem sz_CellSS (x : List (List (S99))) (h : ok_CellSS x) : SZ (fun left k => laws_szCellSS.f k x left) (sm_CellSS (to_CellSS x)) := by
  refine SZ.imp (show SZ (fun left k => laws_szCellSS.f k x left) _ from SZ.str (n := x.length) h.1 (SZ.loop (L := laws_szCellSS.l0) (S := fun k a left => laws_szCellS.f k a left) (rd := rd_L4) (Q := fun a => sm_CellS (to_CellS a)) (fun k x left i => by rw [laws_szCellSS.l0]) at_rd_L4 x h.1 (fun a ha => sz_CellS a (h.2 a ha)))) ?_
  rintro ⟨q1, q2⟩
  refine ⟨by simpa [to_CellSS] using q1, fun b hb => ?_⟩
  obtain ⟨a, ha, rfl⟩ := List.mem_map.1 hb
  exact q2 a ha
theorem ev_toCellSS (x : List (List (S99))) (h : sm_CellSS (to_CellSS x)) : Ev (fun k => laws_toCellSS.f k x) (to_CellSS x) := by
  have hl : x.length ≤ 1048576 := by simpa [to_CellSS] using h.1
  unfold laws_toCellSS.f
  simp only [show (0 : Int) ≤ (x.length : Int) from by omega, if_true, Int.toNat_natCast, show x.length ≤ 11728124029610 from by omega]
  have q := ev_map (L := laws_toCellSS.l0) (G := fun k a => laws_toCellS.f k a) (mk := fun b => b) (g := fun a => (to_CellS a)) (rd := rd_L4) (fun k x acc i => by rw [laws_toCellSS.l0]) at_rd_L4 x (by omega) (fun a ha => ev_toCellS a (h.2 _ (List.mem_map_of_mem ha))) (List.replicate x.length []) (by simp)
  exact q
theorem at_rd_L6 (x : List (List (S48))) (j : Nat) (h : j < x.length) : rd_L6 x (j : Int) = x[j] := by simp [rd_L6, h]
theorem ev_eqCellSS (x : List (List (S48))) (h : sm_CellSS x) : Ev (fun k => laws_eqCellSS.f k x x) true := by
  have hl := h.1
  unfold laws_eqCellSS.f
  simp only [if_true]
  exact ev_eq (L := laws_eqCellSS.l0) (E := fun k a b => laws_eqCellS.f k a b) (rd := rd_L6) (fun k x y i => by rw [laws_eqCellSS.l0]) at_rd_L6 x (by omega) (fun a ha => ev_eqCellS a (h.2 a ha))
def ok_Tree (a : P25) : Prop := ok_CellS a.f0 ∧ ok_CellSS a.f1 ∧ (-9223372036854775808 ≤ a.f2 ∧ a.f2 ≤ 9223372036854775807) ∧ (-9223372036854775808 ≤ a.f3 ∧ a.f3 ≤ 9223372036854775807)
def sm_Tree (a : P31) : Prop := sm_CellS a.f0 ∧ sm_CellSS a.f1 ∧ (-9223372036854775808 ≤ a.f2 ∧ a.f2 ≤ 9223372036854775807) ∧ (-9223372036854775808 ≤ a.f3 ∧ a.f3 ≤ 9223372036854775807)
def to_Tree (a : P25) : P31 := ⟨(to_CellS a.f0), (to_CellSS a.f1), a.f2, a.f3⟩
theorem sz_Tree (a : P25) (h : ok_Tree a) : SZ (fun left k => laws_szTree.f k a.f0 a.f1 a.f2 a.f3 left) (sm_Tree (to_Tree a)) := by
  obtain ⟨h0, h1, h2, h3⟩ := h
  refine SZ.imp (show SZ (fun left k => laws_szTree.f k a.f0 a.f1 a.f2 a.f3 left) _ from (SZ.call (sz_CellS a.f0 h0) (SZ.call (sz_CellSS a.f1 h1) SZ.done))) ?_
  rintro ⟨s0, s1, _⟩
  exact ⟨s0, s1, h2, h3⟩
theorem ev_toTree (a : P25) (h : sm_Tree (to_Tree a)) : Ev (fun k => laws_toTree.f k a.f0 a.f1 a.f2 a.f3) ((to_Tree a).f0, (to_Tree a).f1, (to_Tree a).f2, (to_Tree a).f3) := by
  obtain ⟨h0, h1, h2, h3⟩ := h
  exact (show Ev (fun k => laws_toTree.f k a.f0 a.f1 a.f2 a.f3) _ from (Ev.bind (ev_toCellS a.f0 h0) (Ev.bind (ev_toCellSS a.f1 h1) (Ev.now _))))
theorem ev_eqTree (a : P31) (h : sm_Tree a) : Ev (fun k => laws_eqTree.f k a.f0 a.f1 a.f2 a.f3 a.f0 a.f1 a.f2 a.f3) true := by
  obtain ⟨h0, h1, h2, h3⟩ := h
  unfold laws_eqTree.f
  refine Ev.bind (ev_eqCellS a.f0 h0) (Ev.iteT rfl ?_)
  refine Ev.bind (ev_eqCellSS a.f1 h1) (Ev.iteT rfl ?_)
  refine Ev.iteT rfl ?_
  refine Ev.iteT rfl ?_
  exact Ev.now _
theorem opens_Cell : Opens Try.prog 99 k99 ok_Cell := Opens.imp (opens_iso (fun p => ⟨p.1, p.2.1, p.2.2.1, p.2.2.2⟩) (fun _ => rfl) (opens_struct Try.underlying99 (by kernel_rfl) (opensAt_cons rfl (by kernel_rfl) (Opens.imp (opens_string Try.underlying9) (fun _ h => h)) (opensAt_cons rfl (by kernel_rfl) (Opens.imp (opens_string Try.underlying9) (fun _ h => h)) (opensAt_cons rfl (by kernel_rfl) (opensI64 Try.underlying3) (opensAt_one rfl (by kernel_rfl) (opens_bool Try.underlying4))))))) (fun _ h => h)
instance : Inhabited S99 := ⟨⟨default, default, default, default⟩⟩
theorem opens_CellS : Opens Try.prog 22 (Kd.slice 99 k99) ok_CellS := Opens.imp (opens_slice Try.underlying22 (by kernel_rfl) (opens_Cell)) (fun _ h => ⟨h.1, h.2⟩)
theorem opens_CellSS : Opens Try.prog 23 (Kd.slice 22 (Kd.slice 99 k99)) ok_CellSS := Opens.imp (opens_slice Try.underlying23 (by kernel_rfl) (opens_CellS)) (fun _ h => ⟨h.1, h.2⟩)
def kp25 : Kd P25 := Kd.iso (Kd.pair (Kd.slice 99 k99) (Kd.pair (Kd.slice 22 (Kd.slice 99 k99)) (Kd.pair (Kd.int .i64) (Kd.int .i64)))) (fun x : P25 => (x.f0, x.f1, x.f2, x.f3))
theorem opens_Tree : Opens Try.prog 25 kp25 ok_Tree := Opens.imp (opens_iso (fun p => ⟨p.1, p.2.1, p.2.2.1, p.2.2.2⟩) (fun _ => rfl) (opens_struct Try.underlying25 (by kernel_rfl) (opensAt_cons rfl (by kernel_rfl) (opens_CellS) (opensAt_cons rfl (by kernel_rfl) (opens_CellSS) (opensAt_cons rfl (by kernel_rfl) (opensI64 Try.underlying3) (opensAt_one rfl (by kernel_rfl) (opensI64 Try.underlying3))))))) (fun _ h => h)
instance : Inhabited P25 := ⟨⟨default, default, default, default⟩⟩
end Go.Proofs.Ythffllegmkolgaa.GTree
