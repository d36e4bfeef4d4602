/- The law FnExactBehind's helpers (count what came in, copy it, compare it), over numbers and lists alone. Laid by genpure.py of this session. -/
import Derived.Test.YtoacdmohgohpdaaK2QFnExactBehindx0
import Derived.Test.YtoacdmohgohpdaaK2QFnExactBehindx1
import Derived.Test.YtoacdmohgohpdaaK2QFnExactBehindx2
import Derived.Test.YtoacdmohgohpdaaK2QFnExactBehindx3
import Derived.Test.YtoacdmohgohpdaaK2QFnExactBehindx4
import Derived.Test.YtoacdmohgohpdaaK2QFnExactBehindx5
import Derived.Test.YtoacdmohgohpdaaK2QFnExactBehindx6
import Derived.Test.YtoacdmohgohpdaaK2QFnExactBehindx7
import Derived.Test.YtoacdmohgohpdaaK2Ev
import Derived.Test.YtoacdmohgohpdaaK2Open
import Derived.KernelRfl
namespace Go.Proofs.Ytoacdmohgohpdaa.GFnExactBehind
open Go.RowKit Go.Proofs.YtoacdmohgohpdaaW.PrintWords Go.Proofs.Ytoacdmohgohpdaa.QFnExactBehind Go.Proofs.Ytoacdmohgohpdaa.EvKit Go.Proofs.Ytoacdmohgohpdaa.Open
set_option linter.unusedVariables false
structure P46 where
  f0 : Int
  f1 : Int
  f2 : Int
  f3 : List (S144)
structure P36 where
  f0 : Int
  f1 : Int
  f2 : Int
  f3 : List (S125)
structure P49 where
  f0 : P46
  f1 : Int
  f2 : List (S140)
structure P39 where
  f0 : P36
  f1 : Int
  f2 : List (S106)
def ok_Head (a : S214) : Prop := a.f0.size ≤ 9223372036854775807 ∧ a.f1.size ≤ 9223372036854775807
def sm_Head (a : S177) : Prop := a.f0.size ≤ 1048576 ∧ a.f1.size ≤ 1048576
def to_Head (a : S214) : S177 := ⟨a.f0, a.f1⟩
theorem sz_Head (a : S214) (h : ok_Head a) : SZ (fun left k => laws_szHead.f a.f0 a.f1 left) (sm_Head (to_Head a)) := by
  obtain ⟨h0, h1⟩ := h
  refine SZ.imp (show SZ (fun left k => laws_szHead.f a.f0 a.f1 left) _ from (SZ.str (n := a.f0.size) h0 (SZ.str (n := a.f1.size) h1 SZ.done))) ?_
  rintro ⟨s0, s1, _⟩
  exact ⟨s0, s1⟩
theorem ev_toHead (a : S214) (h : sm_Head (to_Head a)) : Ev (fun k => laws_toHead.f a.f0 a.f1) ((to_Head a).f0, (to_Head a).f1) := by
  obtain ⟨h0, h1⟩ := h
  exact (show Ev (fun k => laws_toHead.f a.f0 a.f1) _ from (Ev.now _))
theorem ev_eqHead (a : S177) (h : sm_Head a) : Ev (fun k => laws_eqHead.f a.f0 a.f1 a.f0 a.f1) true := by
  obtain ⟨h0, h1⟩ := h
  unfold laws_eqHead.f
  refine Ev.iteT rfl ?_
  refine Ev.iteT rfl ?_
  exact Ev.now _
def ok_HeadS (x : List (S214)) : Prop := x.length ≤ 9223372036854775807 ∧ ∀ a ∈ x, ok_Head a
def sm_HeadS (x : List (S177)) : Prop := x.length ≤ 1048576 ∧ ∀ a ∈ x, sm_Head a
def to_HeadS (x : List (S214)) : List (S177) := x.map to_Head
theorem at_rd_T214 (x : List (S214)) (j : Nat) (h : j < x.length) : rd_T214 x (j : Int) = x[j] := by simp [rd_T214, h]
theorem sz_HeadS (x : List (S214)) (h : ok_HeadS x) : SZ (fun left k => laws_szHeadS.f k x left) (sm_HeadS (to_HeadS x)) := by
  refine SZ.imp (show SZ (fun left k => laws_szHeadS.f k x left) _ from SZ.str (n := x.length) h.1 (SZ.loop (L := laws_szHeadS.l0) (S := fun k a left => laws_szHead.f a.f0 a.f1 left) (rd := rd_T214) (Q := fun a => sm_Head (to_Head a)) (fun k x left i => by rw [laws_szHeadS.l0]) at_rd_T214 x h.1 (fun a ha => sz_Head a (h.2 a ha)))) ?_
  rintro ⟨q1, q2⟩
  refine ⟨by simpa [to_HeadS] using q1, fun b hb => ?_⟩
  obtain ⟨a, ha, rfl⟩ := List.mem_map.1 hb
  exact q2 a ha
theorem ev_toHeadS (x : List (S214)) (h : sm_HeadS (to_HeadS x)) : Ev (fun k => laws_toHeadS.f k x) (to_HeadS x) := by
  have hl : x.length ≤ 1048576 := by simpa [to_HeadS] using h.1
  unfold laws_toHeadS.f
  simp only [show (0 : Int) ≤ (x.length : Int) from by omega, if_true, Int.toNat_natCast, show x.length ≤ 8796093022208 from by omega]
  exact ev_map (L := laws_toHeadS.l0) (G := fun k a => laws_toHead.f a.f0 a.f1) (mk := fun bt => (⟨bt.1, bt.2⟩ : S177)) (g := fun a => ((to_Head a).f0, (to_Head a).f1)) (rd := rd_T214) (fun k x acc i => by rw [laws_toHeadS.l0]) at_rd_T214 x (by omega) (fun a ha => ev_toHead a (h.2 _ (List.mem_map_of_mem ha))) _ (by simp)
theorem at_rd_T177 (x : List (S177)) (j : Nat) (h : j < x.length) : rd_T177 x (j : Int) = x[j] := by simp [rd_T177, h]
theorem ev_eqHeadS (x : List (S177)) (h : sm_HeadS x) : Ev (fun k => laws_eqHeadS.f k x x) true := by
  have hl := h.1
  unfold laws_eqHeadS.f
  simp only [if_true]
  exact ev_eq (L := laws_eqHeadS.l0) (E := fun k a b => laws_eqHead.f a.f0 a.f1 b.f0 b.f1) (rd := rd_T177) (fun k x y i => by rw [laws_eqHeadS.l0]) at_rd_T177 x (by omega) (fun a ha => ev_eqHead a (h.2 a ha))
def ok_Record (a : S199) : Prop := (-9223372036854775808 ≤ a.f0 ∧ a.f0 ≤ 9223372036854775807) ∧ True ∧ a.f2.size ≤ 9223372036854775807 ∧ True ∧ a.f4.size ≤ 9223372036854775807 ∧ ok_HeadS a.f5
def sm_Record (a : S158) : Prop := (-9223372036854775808 ≤ a.f0 ∧ a.f0 ≤ 9223372036854775807) ∧ True ∧ a.f2.size ≤ 1048576 ∧ True ∧ a.f4.size ≤ 1048576 ∧ sm_HeadS a.f5
def to_Record (a : S199) : S158 := ⟨a.f0, a.f1, a.f2, a.f3, a.f4, (to_HeadS a.f5)⟩
theorem sz_Record (a : S199) (h : ok_Record a) : SZ (fun left k => laws_szRecord.f k a.f0 a.f1 a.f2 a.f3 a.f4 a.f5 left) (sm_Record (to_Record a)) := by
  obtain ⟨h0, h1, h2, h3, h4, h5⟩ := h
  refine SZ.imp (show SZ (fun left k => laws_szRecord.f k a.f0 a.f1 a.f2 a.f3 a.f4 a.f5 left) _ from (SZ.str (n := a.f2.size) h2 (SZ.str (n := a.f4.size) h4 (SZ.call (sz_HeadS a.f5 h5) SZ.done)))) ?_
  rintro ⟨s2, s4, s5, _⟩
  exact ⟨h0, h1, s2, h3, s4, s5⟩
theorem ev_toRecord (a : S199) (h : sm_Record (to_Record a)) : Ev (fun k => laws_toRecord.f k a.f0 a.f1 a.f2 a.f3 a.f4 a.f5) ((to_Record a).f0, (to_Record a).f1, (to_Record a).f2, (to_Record a).f3, (to_Record a).f4, (to_Record a).f5) := by
  obtain ⟨h0, h1, h2, h3, h4, h5⟩ := h
  exact (show Ev (fun k => laws_toRecord.f k a.f0 a.f1 a.f2 a.f3 a.f4 a.f5) _ from (Ev.bind (ev_toHeadS a.f5 h5) (Ev.now _)))
theorem ev_eqRecord (a : S158) (h : sm_Record a) : Ev (fun k => laws_eqRecord.f k a.f0 a.f1 a.f2 a.f3 a.f4 a.f5 a.f0 a.f1 a.f2 a.f3 a.f4 a.f5) true := by
  obtain ⟨h0, h1, h2, h3, h4, h5⟩ := h
  unfold laws_eqRecord.f
  refine Ev.iteT rfl ?_
  refine Ev.iteF (by simp) ?_
  refine Ev.iteT rfl ?_
  refine Ev.iteF (by simp) ?_
  refine Ev.iteT rfl ?_
  refine Ev.bind (ev_eqHeadS a.f5 h5) (Ev.iteT rfl ?_)
  exact Ev.now _
def ok_RecordS (x : List (S199)) : Prop := x.length ≤ 9223372036854775807 ∧ ∀ a ∈ x, ok_Record a
def sm_RecordS (x : List (S158)) : Prop := x.length ≤ 1048576 ∧ ∀ a ∈ x, sm_Record a
def to_RecordS (x : List (S199)) : List (S158) := x.map to_Record
theorem at_rd_T199 (x : List (S199)) (j : Nat) (h : j < x.length) : rd_T199 x (j : Int) = x[j] := by simp [rd_T199, h]
theorem sz_RecordS (x : List (S199)) (h : ok_RecordS x) : SZ (fun left k => laws_szRecordS.f k x left) (sm_RecordS (to_RecordS x)) := by
  refine SZ.imp (show SZ (fun left k => laws_szRecordS.f k x left) _ from SZ.str (n := x.length) h.1 (SZ.loop (L := laws_szRecordS.l0) (S := fun k a left => laws_szRecord.f k a.f0 a.f1 a.f2 a.f3 a.f4 a.f5 left) (rd := rd_T199) (Q := fun a => sm_Record (to_Record a)) (fun k x left i => by rw [laws_szRecordS.l0]) at_rd_T199 x h.1 (fun a ha => sz_Record a (h.2 a ha)))) ?_
  rintro ⟨q1, q2⟩
  refine ⟨by simpa [to_RecordS] using q1, fun b hb => ?_⟩
  obtain ⟨a, ha, rfl⟩ := List.mem_map.1 hb
  exact q2 a ha
theorem ev_toRecordS (x : List (S199)) (h : sm_RecordS (to_RecordS x)) : Ev (fun k => laws_toRecordS.f k x) (to_RecordS x) := by
  have hl : x.length ≤ 1048576 := by simpa [to_RecordS] using h.1
  unfold laws_toRecordS.f
  simp only [show (0 : Int) ≤ (x.length : Int) from by omega, if_true, Int.toNat_natCast, show x.length ≤ 3518437208883 from by omega]
  exact ev_map (L := laws_toRecordS.l0) (G := fun k a => laws_toRecord.f k a.f0 a.f1 a.f2 a.f3 a.f4 a.f5) (mk := fun bt => (⟨bt.1, bt.2.1, bt.2.2.1, bt.2.2.2.1, bt.2.2.2.2.1, bt.2.2.2.2.2⟩ : S158)) (g := fun a => ((to_Record a).f0, (to_Record a).f1, (to_Record a).f2, (to_Record a).f3, (to_Record a).f4, (to_Record a).f5)) (rd := rd_T199) (fun k x acc i => by rw [laws_toRecordS.l0]) at_rd_T199 x (by omega) (fun a ha => ev_toRecord a (h.2 _ (List.mem_map_of_mem ha))) _ (by simp)
theorem at_rd_T158 (x : List (S158)) (j : Nat) (h : j < x.length) : rd_T158 x (j : Int) = x[j] := by simp [rd_T158, h]
theorem ev_eqRecordS (x : List (S158)) (h : sm_RecordS x) : Ev (fun k => laws_eqRecordS.f k x x) true := by
  have hl := h.1
  unfold laws_eqRecordS.f
  simp only [if_true]
  exact ev_eq (L := laws_eqRecordS.l0) (E := fun k a b => laws_eqRecord.f k a.f0 a.f1 a.f2 a.f3 a.f4 a.f5 b.f0 b.f1 b.f2 b.f3 b.f4 b.f5) (rd := rd_T158) (fun k x y i => by rw [laws_eqRecordS.l0]) at_rd_T158 x (by omega) (fun a ha => ev_eqRecord a (h.2 a ha))
def ok_Batch (a : S183) : Prop := (-9223372036854775808 ≤ a.f0 ∧ a.f0 ≤ 9223372036854775807) ∧ (-9223372036854775808 ≤ a.f1 ∧ a.f1 ≤ 9223372036854775807) ∧ (-9223372036854775808 ≤ a.f2 ∧ a.f2 ≤ 9223372036854775807) ∧ (-9223372036854775808 ≤ a.f3 ∧ a.f3 ≤ 9223372036854775807) ∧ (-9223372036854775808 ≤ a.f4 ∧ a.f4 ≤ 9223372036854775807) ∧ (-9223372036854775808 ≤ a.f5 ∧ a.f5 ≤ 9223372036854775807) ∧ ok_RecordS a.f6
def sm_Batch (a : S82) : Prop := (-9223372036854775808 ≤ a.f0 ∧ a.f0 ≤ 9223372036854775807) ∧ (-9223372036854775808 ≤ a.f1 ∧ a.f1 ≤ 9223372036854775807) ∧ (-9223372036854775808 ≤ a.f2 ∧ a.f2 ≤ 9223372036854775807) ∧ (-9223372036854775808 ≤ a.f3 ∧ a.f3 ≤ 9223372036854775807) ∧ (-9223372036854775808 ≤ a.f4 ∧ a.f4 ≤ 9223372036854775807) ∧ (-9223372036854775808 ≤ a.f5 ∧ a.f5 ≤ 9223372036854775807) ∧ sm_RecordS a.f6
def to_Batch (a : S183) : S82 := ⟨a.f0, a.f1, a.f2, a.f3, a.f4, a.f5, (to_RecordS a.f6)⟩
theorem sz_Batch (a : S183) (h : ok_Batch a) : SZ (fun left k => laws_szBatch.f k a.f0 a.f1 a.f2 a.f3 a.f4 a.f5 a.f6 left) (sm_Batch (to_Batch a)) := by
  obtain ⟨h0, h1, h2, h3, h4, h5, h6⟩ := h
  refine SZ.imp (show SZ (fun left k => laws_szBatch.f k a.f0 a.f1 a.f2 a.f3 a.f4 a.f5 a.f6 left) _ from (SZ.call (sz_RecordS a.f6 h6) SZ.done)) ?_
  rintro ⟨s6, _⟩
  exact ⟨h0, h1, h2, h3, h4, h5, s6⟩
theorem ev_toBatch (a : S183) (h : sm_Batch (to_Batch a)) : Ev (fun k => laws_toBatch.f k a.f0 a.f1 a.f2 a.f3 a.f4 a.f5 a.f6) ((to_Batch a).f0, (to_Batch a).f1, (to_Batch a).f2, (to_Batch a).f3, (to_Batch a).f4, (to_Batch a).f5, (to_Batch a).f6) := by
  obtain ⟨h0, h1, h2, h3, h4, h5, h6⟩ := h
  exact (show Ev (fun k => laws_toBatch.f k a.f0 a.f1 a.f2 a.f3 a.f4 a.f5 a.f6) _ from (Ev.bind (ev_toRecordS a.f6 h6) (Ev.now _)))
theorem ev_eqBatch (a : S82) (h : sm_Batch a) : Ev (fun k => laws_eqBatch.f k a.f0 a.f1 a.f2 a.f3 a.f4 a.f5 a.f6 a.f0 a.f1 a.f2 a.f3 a.f4 a.f5 a.f6) true := by
  obtain ⟨h0, h1, h2, h3, h4, h5, h6⟩ := h
  unfold laws_eqBatch.f
  refine Ev.iteT rfl ?_
  refine Ev.iteT rfl ?_
  refine Ev.iteT rfl ?_
  refine Ev.iteT rfl ?_
  refine Ev.iteT rfl ?_
  refine Ev.iteT rfl ?_
  refine Ev.bind (ev_eqRecordS a.f6 h6) (Ev.iteT rfl ?_)
  exact Ev.now _
def ok_BatchS (x : List (S183)) : Prop := x.length ≤ 9223372036854775807 ∧ ∀ a ∈ x, ok_Batch a
def sm_BatchS (x : List (S82)) : Prop := x.length ≤ 1048576 ∧ ∀ a ∈ x, sm_Batch a
def to_BatchS (x : List (S183)) : List (S82) := x.map to_Batch
theorem at_rd_T183 (x : List (S183)) (j : Nat) (h : j < x.length) : rd_T183 x (j : Int) = x[j] := by simp [rd_T183, h]
theorem sz_BatchS (x : List (S183)) (h : ok_BatchS x) : SZ (fun left k => laws_szBatchS.f k x left) (sm_BatchS (to_BatchS x)) := by
  refine SZ.imp (show SZ (fun left k => laws_szBatchS.f k x left) _ from SZ.str (n := x.length) h.1 (SZ.loop (L := laws_szBatchS.l0) (S := fun k a left => laws_szBatch.f k a.f0 a.f1 a.f2 a.f3 a.f4 a.f5 a.f6 left) (rd := rd_T183) (Q := fun a => sm_Batch (to_Batch a)) (fun k x left i => by rw [laws_szBatchS.l0]) at_rd_T183 x h.1 (fun a ha => sz_Batch a (h.2 a ha)))) ?_
  rintro ⟨q1, q2⟩
  refine ⟨by simpa [to_BatchS] using q1, fun b hb => ?_⟩
  obtain ⟨a, ha, rfl⟩ := List.mem_map.1 hb
  exact q2 a ha
theorem ev_toBatchS (x : List (S183)) (h : sm_BatchS (to_BatchS x)) : Ev (fun k => laws_toBatchS.f k x) (to_BatchS x) := by
  have hl : x.length ≤ 1048576 := by simpa [to_BatchS] using h.1
  unfold laws_toBatchS.f
  simp only [show (0 : Int) ≤ (x.length : Int) from by omega, if_true, Int.toNat_natCast, show x.length ≤ 3909374676536 from by omega]
  exact ev_map (L := laws_toBatchS.l0) (G := fun k a => laws_toBatch.f k a.f0 a.f1 a.f2 a.f3 a.f4 a.f5 a.f6) (mk := fun bt => (⟨bt.1, bt.2.1, bt.2.2.1, bt.2.2.2.1, bt.2.2.2.2.1, bt.2.2.2.2.2.1, bt.2.2.2.2.2.2⟩ : S82)) (g := fun a => ((to_Batch a).f0, (to_Batch a).f1, (to_Batch a).f2, (to_Batch a).f3, (to_Batch a).f4, (to_Batch a).f5, (to_Batch a).f6)) (rd := rd_T183) (fun k x acc i => by rw [laws_toBatchS.l0]) at_rd_T183 x (by omega) (fun a ha => ev_toBatch a (h.2 _ (List.mem_map_of_mem ha))) _ (by simp)
theorem at_rd_T82 (x : List (S82)) (j : Nat) (h : j < x.length) : rd_T82 x (j : Int) = x[j] := by simp [rd_T82, h]
theorem ev_eqBatchS (x : List (S82)) (h : sm_BatchS x) : Ev (fun k => laws_eqBatchS.f k x x) true := by
  have hl := h.1
  unfold laws_eqBatchS.f
  simp only [if_true]
  exact ev_eq (L := laws_eqBatchS.l0) (E := fun k a b => laws_eqBatch.f k a.f0 a.f1 a.f2 a.f3 a.f4 a.f5 a.f6 b.f0 b.f1 b.f2 b.f3 b.f4 b.f5 b.f6) (rd := rd_T82) (fun k x y i => by rw [laws_eqBatchS.l0]) at_rd_T82 x (by omega) (fun a ha => ev_eqBatch a (h.2 a ha))
def ok_Segment (a : S144) : Prop := (-9223372036854775808 ≤ a.f0 ∧ a.f0 ≤ 9223372036854775807) ∧ ok_BatchS a.f1
def sm_Segment (a : S125) : Prop := (-9223372036854775808 ≤ a.f0 ∧ a.f0 ≤ 9223372036854775807) ∧ sm_BatchS a.f1
def to_Segment (a : S144) : S125 := ⟨a.f0, (to_BatchS a.f1)⟩
theorem sz_Segment (a : S144) (h : ok_Segment a) : SZ (fun left k => laws_szSegment.f k a.f0 a.f1 left) (sm_Segment (to_Segment a)) := by
  obtain ⟨h0, h1⟩ := h
  refine SZ.imp (show SZ (fun left k => laws_szSegment.f k a.f0 a.f1 left) _ from (SZ.call (sz_BatchS a.f1 h1) SZ.done)) ?_
  rintro ⟨s1, _⟩
  exact ⟨h0, s1⟩
theorem ev_toSegment (a : S144) (h : sm_Segment (to_Segment a)) : Ev (fun k => laws_toSegment.f k a.f0 a.f1) ((to_Segment a).f0, (to_Segment a).f1) := by
  obtain ⟨h0, h1⟩ := h
  exact (show Ev (fun k => laws_toSegment.f k a.f0 a.f1) _ from (Ev.bind (ev_toBatchS a.f1 h1) (Ev.now _)))
theorem ev_eqSegment (a : S125) (h : sm_Segment a) : Ev (fun k => laws_eqSegment.f k a.f0 a.f1 a.f0 a.f1) true := by
  obtain ⟨h0, h1⟩ := h
  unfold laws_eqSegment.f
  refine Ev.iteT rfl ?_
  refine Ev.bind (ev_eqBatchS a.f1 h1) (Ev.iteT rfl ?_)
  exact Ev.now _
def ok_SegmentS (x : List (S144)) : Prop := x.length ≤ 9223372036854775807 ∧ ∀ a ∈ x, ok_Segment a
def sm_SegmentS (x : List (S125)) : Prop := x.length ≤ 1048576 ∧ ∀ a ∈ x, sm_Segment a
def to_SegmentS (x : List (S144)) : List (S125) := x.map to_Segment
theorem at_rd_T144 (x : List (S144)) (j : Nat) (h : j < x.length) : rd_T144 x (j : Int) = x[j] := by simp [rd_T144, h]
theorem sz_SegmentS (x : List (S144)) (h : ok_SegmentS x) : SZ (fun left k => laws_szSegmentS.f k x left) (sm_SegmentS (to_SegmentS x)) := by
  refine SZ.imp (show SZ (fun left k => laws_szSegmentS.f k x left) _ from SZ.str (n := x.length) h.1 (SZ.loop (L := laws_szSegmentS.l0) (S := fun k a left => laws_szSegment.f k a.f0 a.f1 left) (rd := rd_T144) (Q := fun a => sm_Segment (to_Segment a)) (fun k x left i => by rw [laws_szSegmentS.l0]) at_rd_T144 x h.1 (fun a ha => sz_Segment a (h.2 a ha)))) ?_
  rintro ⟨q1, q2⟩
  refine ⟨by simpa [to_SegmentS] using q1, fun b hb => ?_⟩
  obtain ⟨a, ha, rfl⟩ := List.mem_map.1 hb
  exact q2 a ha
theorem ev_toSegmentS (x : List (S144)) (h : sm_SegmentS (to_SegmentS x)) : Ev (fun k => laws_toSegmentS.f k x) (to_SegmentS x) := by
  have hl : x.length ≤ 1048576 := by simpa [to_SegmentS] using h.1
  unfold laws_toSegmentS.f
  simp only [show (0 : Int) ≤ (x.length : Int) from by omega, if_true, Int.toNat_natCast, show x.length ≤ 8796093022208 from by omega]
  exact ev_map (L := laws_toSegmentS.l0) (G := fun k a => laws_toSegment.f k a.f0 a.f1) (mk := fun bt => (⟨bt.1, bt.2⟩ : S125)) (g := fun a => ((to_Segment a).f0, (to_Segment a).f1)) (rd := rd_T144) (fun k x acc i => by rw [laws_toSegmentS.l0]) at_rd_T144 x (by omega) (fun a ha => ev_toSegment a (h.2 _ (List.mem_map_of_mem ha))) _ (by simp)
theorem at_rd_T125 (x : List (S125)) (j : Nat) (h : j < x.length) : rd_T125 x (j : Int) = x[j] := by simp [rd_T125, h]
theorem ev_eqSegmentS (x : List (S125)) (h : sm_SegmentS x) : Ev (fun k => laws_eqSegmentS.f k x x) true := by
  have hl := h.1
  unfold laws_eqSegmentS.f
  simp only [if_true]
  exact ev_eq (L := laws_eqSegmentS.l0) (E := fun k a b => laws_eqSegment.f k a.f0 a.f1 b.f0 b.f1) (rd := rd_T125) (fun k x y i => by rw [laws_eqSegmentS.l0]) at_rd_T125 x (by omega) (fun a ha => ev_eqSegment a (h.2 a ha))
def ok_Log (a : P46) : Prop := (-9223372036854775808 ≤ a.f0 ∧ a.f0 ≤ 9223372036854775807) ∧ (-9223372036854775808 ≤ a.f1 ∧ a.f1 ≤ 9223372036854775807) ∧ (-9223372036854775808 ≤ a.f2 ∧ a.f2 ≤ 9223372036854775807) ∧ ok_SegmentS a.f3
def sm_Log (a : P36) : Prop := (-9223372036854775808 ≤ a.f0 ∧ a.f0 ≤ 9223372036854775807) ∧ (-9223372036854775808 ≤ a.f1 ∧ a.f1 ≤ 9223372036854775807) ∧ (-9223372036854775808 ≤ a.f2 ∧ a.f2 ≤ 9223372036854775807) ∧ sm_SegmentS a.f3
def to_Log (a : P46) : P36 := ⟨a.f0, a.f1, a.f2, (to_SegmentS a.f3)⟩
theorem sz_Log (a : P46) (h : ok_Log a) : SZ (fun left k => laws_szLog.f k a.f0 a.f1 a.f2 a.f3 left) (sm_Log (to_Log a)) := by
  obtain ⟨h0, h1, h2, h3⟩ := h
  refine SZ.imp (show SZ (fun left k => laws_szLog.f k a.f0 a.f1 a.f2 a.f3 left) _ from (SZ.call (sz_SegmentS a.f3 h3) SZ.done)) ?_
  rintro ⟨s3, _⟩
  exact ⟨h0, h1, h2, s3⟩
theorem ev_toLog (a : P46) (h : sm_Log (to_Log a)) : Ev (fun k => laws_toLog.f k a.f0 a.f1 a.f2 a.f3) ((to_Log a).f0, (to_Log a).f1, (to_Log a).f2, (to_Log a).f3) := by
  obtain ⟨h0, h1, h2, h3⟩ := h
  exact (show Ev (fun k => laws_toLog.f k a.f0 a.f1 a.f2 a.f3) _ from (Ev.bind (ev_toSegmentS a.f3 h3) (Ev.now _)))
theorem ev_eqLog (a : P36) (h : sm_Log a) : Ev (fun k => laws_eqLog.f k a.f0 a.f1 a.f2 a.f3 a.f0 a.f1 a.f2 a.f3) true := by
  obtain ⟨h0, h1, h2, h3⟩ := h
  unfold laws_eqLog.f
  refine Ev.iteT rfl ?_
  refine Ev.iteT rfl ?_
  refine Ev.iteT rfl ?_
  refine Ev.bind (ev_eqSegmentS a.f3 h3) (Ev.iteT rfl ?_)
  exact Ev.now _
def ok_Twin (a : S140) : Prop := (-9223372036854775808 ≤ a.f0 ∧ a.f0 ≤ 9223372036854775807) ∧ (-9223372036854775808 ≤ a.f1 ∧ a.f1 ≤ 9223372036854775807)
def sm_Twin (a : S106) : Prop := (-9223372036854775808 ≤ a.f0 ∧ a.f0 ≤ 9223372036854775807) ∧ (-9223372036854775808 ≤ a.f1 ∧ a.f1 ≤ 9223372036854775807)
def to_Twin (a : S140) : S106 := ⟨a.f0, a.f1⟩
theorem ev_toTwin (a : S140) (h : sm_Twin (to_Twin a)) : Ev (fun k => laws_toTwin.f a.f0 a.f1) ((to_Twin a).f0, (to_Twin a).f1) := by
  obtain ⟨h0, h1⟩ := h
  exact (show Ev (fun k => laws_toTwin.f a.f0 a.f1) _ from (Ev.now _))
theorem ev_eqTwin (a : S106) (h : sm_Twin a) : Ev (fun k => laws_eqTwin.f a.f0 a.f1 a.f0 a.f1) true := by
  obtain ⟨h0, h1⟩ := h
  unfold laws_eqTwin.f
  refine Ev.iteT rfl ?_
  refine Ev.iteT rfl ?_
  exact Ev.now _
def ok_TwinS (x : List (S140)) : Prop := x.length ≤ 9223372036854775807 ∧ ∀ a ∈ x, ok_Twin a
def sm_TwinS (x : List (S106)) : Prop := x.length ≤ 1048576 ∧ ∀ a ∈ x, sm_Twin a
def to_TwinS (x : List (S140)) : List (S106) := x.map to_Twin
theorem sz_TwinS (x : List (S140)) (h : ok_TwinS x) : SZ (fun left k => laws_szTwinS.f x left) (sm_TwinS (to_TwinS x)) := by
  refine SZ.imp (show SZ (fun left k => laws_szTwinS.f x left) _ from SZ.str (n := x.length) h.1 SZ.done) ?_
  intro q
  refine ⟨by simpa [to_TwinS] using q.1, fun b hb => ?_⟩
  obtain ⟨a, ha, rfl⟩ := List.mem_map.1 hb
  exact h.2 a ha
theorem at_rd_T140 (x : List (S140)) (j : Nat) (h : j < x.length) : rd_T140 x (j : Int) = x[j] := by simp [rd_T140, h]
theorem ev_toTwinS (x : List (S140)) (h : sm_TwinS (to_TwinS x)) : Ev (fun k => laws_toTwinS.f k x) (to_TwinS x) := by
  have hl : x.length ≤ 1048576 := by simpa [to_TwinS] using h.1
  unfold laws_toTwinS.f
  simp only [show (0 : Int) ≤ (x.length : Int) from by omega, if_true, Int.toNat_natCast, show x.length ≤ 17592186044416 from by omega]
  exact ev_map (L := laws_toTwinS.l0) (G := fun k a => laws_toTwin.f a.f0 a.f1) (mk := fun bt => (⟨bt.1, bt.2⟩ : S106)) (g := fun a => ((to_Twin a).f0, (to_Twin a).f1)) (rd := rd_T140) (fun k x acc i => by rw [laws_toTwinS.l0]) at_rd_T140 x (by omega) (fun a ha => ev_toTwin a (h.2 _ (List.mem_map_of_mem ha))) _ (by simp)
theorem at_rd_T106 (x : List (S106)) (j : Nat) (h : j < x.length) : rd_T106 x (j : Int) = x[j] := by simp [rd_T106, h]
theorem ev_eqTwinS (x : List (S106)) (h : sm_TwinS x) : Ev (fun k => laws_eqTwinS.f k x x) true := by
  have hl := h.1
  unfold laws_eqTwinS.f
  simp only [if_true]
  exact ev_eq (L := laws_eqTwinS.l0) (E := fun k a b => laws_eqTwin.f a.f0 a.f1 b.f0 b.f1) (rd := rd_T106) (fun k x y i => by rw [laws_eqTwinS.l0]) at_rd_T106 x (by omega) (fun a ha => ev_eqTwin a (h.2 a ha))
def ok_Mirror (a : P49) : Prop := ok_Log a.f0 ∧ (-9223372036854775808 ≤ a.f1 ∧ a.f1 ≤ 9223372036854775807) ∧ ok_TwinS a.f2
def sm_Mirror (a : P39) : Prop := sm_Log a.f0 ∧ (-9223372036854775808 ≤ a.f1 ∧ a.f1 ≤ 9223372036854775807) ∧ sm_TwinS a.f2
def to_Mirror (a : P49) : P39 := ⟨(to_Log a.f0), a.f1, (to_TwinS a.f2)⟩
theorem sz_Mirror (a : P49) (h : ok_Mirror a) : SZ (fun left k => laws_szMirror.f k a.f0.f0 a.f0.f1 a.f0.f2 a.f0.f3 a.f1 a.f2 left) (sm_Mirror (to_Mirror a)) := by
  obtain ⟨h0, h1, h2⟩ := h
  refine SZ.imp (show SZ (fun left k => laws_szMirror.f k a.f0.f0 a.f0.f1 a.f0.f2 a.f0.f3 a.f1 a.f2 left) _ from (SZ.call (sz_Log a.f0 h0) (SZ.call (sz_TwinS a.f2 h2) SZ.done))) ?_
  rintro ⟨s0, s2, _⟩
  exact ⟨s0, h1, s2⟩
theorem ev_toMirror (a : P49) (h : sm_Mirror (to_Mirror a)) : Ev (fun k => laws_toMirror.f k a.f0.f0 a.f0.f1 a.f0.f2 a.f0.f3 a.f1 a.f2) ((to_Mirror a).f0.f0, (to_Mirror a).f0.f1, (to_Mirror a).f0.f2, (to_Mirror a).f0.f3, (to_Mirror a).f1, (to_Mirror a).f2) := by
  obtain ⟨h0, h1, h2⟩ := h
  exact (show Ev (fun k => laws_toMirror.f k a.f0.f0 a.f0.f1 a.f0.f2 a.f0.f3 a.f1 a.f2) _ from (Ev.bind (ev_toLog a.f0 h0) (Ev.bind (ev_toTwinS a.f2 h2) (Ev.now _))))
theorem ev_eqMirror (a : P39) (h : sm_Mirror a) : Ev (fun k => laws_eqMirror.f k a.f0.f0 a.f0.f1 a.f0.f2 a.f0.f3 a.f1 a.f2 a.f0.f0 a.f0.f1 a.f0.f2 a.f0.f3 a.f1 a.f2) true := by
  obtain ⟨h0, h1, h2⟩ := h
  unfold laws_eqMirror.f
  refine Ev.bind (ev_eqLog a.f0 h0) (Ev.iteT rfl ?_)
  refine Ev.iteT rfl ?_
  refine Ev.bind (ev_eqTwinS a.f2 h2) (Ev.iteT rfl ?_)
  exact Ev.now _
theorem opens_Head : Opens Try.prog 214 k214 ok_Head := Opens.imp (opens_iso (fun p => ⟨p.1, p.2⟩) (fun _ => rfl) (opens_struct Try.underlying214 (by kernel_rfl) (opensAt_cons rfl (by kernel_rfl) (Opens.imp (opens_string Try.underlying9) (fun _ h => h)) (opensAt_one rfl (by kernel_rfl) (Opens.imp (opens_string Try.underlying9) (fun _ h => h)))))) (fun _ h => h)
instance : Inhabited S214 := ⟨⟨default, default⟩⟩
theorem opens_HeadS : Opens Try.prog 197 (Kd.slice 214 k214) ok_HeadS := Opens.imp (opens_slice Try.underlying197 (by kernel_rfl) (opens_Head)) (fun _ h => ⟨h.1, h.2⟩)
theorem opens_Record : Opens Try.prog 199 k199 ok_Record := Opens.imp (opens_iso (fun p => ⟨p.1, p.2.1, p.2.2.1, p.2.2.2.1, p.2.2.2.2.1, p.2.2.2.2.2⟩) (fun _ => rfl) (opens_struct Try.underlying199 (by kernel_rfl) (opensAt_cons rfl (by kernel_rfl) (opensI64 Try.underlying3) (opensAt_cons rfl (by kernel_rfl) (opens_bool Try.underlying4) (opensAt_cons rfl (by kernel_rfl) (Opens.imp (opens_string Try.underlying9) (fun _ h => h)) (opensAt_cons rfl (by kernel_rfl) (opens_bool Try.underlying4) (opensAt_cons rfl (by kernel_rfl) (Opens.imp (opens_string Try.underlying9) (fun _ h => h)) (opensAt_one rfl (by kernel_rfl) (opens_HeadS))))))))) (fun _ h => h)
instance : Inhabited S199 := ⟨⟨default, default, default, default, default, default⟩⟩
theorem opens_RecordS : Opens Try.prog 181 (Kd.slice 199 k199) ok_RecordS := Opens.imp (opens_slice Try.underlying181 (by kernel_rfl) (opens_Record)) (fun _ h => ⟨h.1, h.2⟩)
theorem opens_Batch : Opens Try.prog 183 k183 ok_Batch := Opens.imp (opens_iso (fun p => ⟨p.1, p.2.1, p.2.2.1, p.2.2.2.1, p.2.2.2.2.1, p.2.2.2.2.2.1, p.2.2.2.2.2.2⟩) (fun _ => rfl) (opens_struct Try.underlying183 (by kernel_rfl) (opensAt_cons rfl (by kernel_rfl) (opensI64 Try.underlying3) (opensAt_cons rfl (by kernel_rfl) (opensI64 Try.underlying3) (opensAt_cons rfl (by kernel_rfl) (opensI64 Try.underlying3) (opensAt_cons rfl (by kernel_rfl) (opensI64 Try.underlying3) (opensAt_cons rfl (by kernel_rfl) (opensI64 Try.underlying3) (opensAt_cons rfl (by kernel_rfl) (opensI64 Try.underlying3) (opensAt_one rfl (by kernel_rfl) (opens_RecordS)))))))))) (fun _ h => h)
instance : Inhabited S183 := ⟨⟨default, default, default, default, default, default, default⟩⟩
theorem opens_BatchS : Opens Try.prog 142 (Kd.slice 183 k183) ok_BatchS := Opens.imp (opens_slice Try.underlying142 (by kernel_rfl) (opens_Batch)) (fun _ h => ⟨h.1, h.2⟩)
theorem opens_Segment : Opens Try.prog 144 k144 ok_Segment := Opens.imp (opens_iso (fun p => ⟨p.1, p.2⟩) (fun _ => rfl) (opens_struct Try.underlying144 (by kernel_rfl) (opensAt_cons rfl (by kernel_rfl) (opensI64 Try.underlying3) (opensAt_one rfl (by kernel_rfl) (opens_BatchS))))) (fun _ h => h)
instance : Inhabited S144 := ⟨⟨default, default⟩⟩
theorem opens_SegmentS : Opens Try.prog 44 (Kd.slice 144 k144) ok_SegmentS := Opens.imp (opens_slice Try.underlying44 (by kernel_rfl) (opens_Segment)) (fun _ h => ⟨h.1, h.2⟩)
def kp46 : Kd P46 := Kd.iso (Kd.pair (Kd.int .i64) (Kd.pair (Kd.int .i64) (Kd.pair (Kd.int .i64) (Kd.slice 144 k144)))) (fun x : P46 => (x.f0, x.f1, x.f2, x.f3))
theorem opens_Log : Opens Try.prog 46 kp46 ok_Log := Opens.imp (opens_iso (fun p => ⟨p.1, p.2.1, p.2.2.1, p.2.2.2⟩) (fun _ => rfl) (opens_struct Try.underlying46 (by kernel_rfl) (opensAt_cons rfl (by kernel_rfl) (opensI64 Try.underlying3) (opensAt_cons rfl (by kernel_rfl) (opensI64 Try.underlying3) (opensAt_cons rfl (by kernel_rfl) (opensI64 Try.underlying3) (opensAt_one rfl (by kernel_rfl) (opens_SegmentS))))))) (fun _ h => h)
instance : Inhabited P46 := ⟨⟨default, default, default, default⟩⟩
theorem opens_Twin : Opens Try.prog 140 k140 ok_Twin := Opens.imp (opens_iso (fun p => ⟨p.1, p.2⟩) (fun _ => rfl) (opens_struct Try.underlying140 (by kernel_rfl) (opensAt_cons rfl (by kernel_rfl) (opensI64 Try.underlying3) (opensAt_one rfl (by kernel_rfl) (opensI64 Try.underlying3))))) (fun _ h => h)
instance : Inhabited S140 := ⟨⟨default, default⟩⟩
theorem opens_TwinS : Opens Try.prog 47 (Kd.slice 140 k140) ok_TwinS := Opens.imp (opens_slice Try.underlying47 (by kernel_rfl) (opens_Twin)) (fun _ h => ⟨h.1, h.2⟩)
def kp49 : Kd P49 := Kd.iso (Kd.pair kp46 (Kd.pair (Kd.int .i64) (Kd.slice 140 k140))) (fun x : P49 => (x.f0, x.f1, x.f2))
theorem opens_Mirror : Opens Try.prog 49 kp49 ok_Mirror := Opens.imp (opens_iso (fun p => ⟨p.1, p.2.1, p.2.2⟩) (fun _ => rfl) (opens_struct Try.underlying49 (by kernel_rfl) (opensAt_cons rfl (by kernel_rfl) (opens_Log) (opensAt_cons rfl (by kernel_rfl) (opensI64 Try.underlying3) (opensAt_one rfl (by kernel_rfl) (opens_TwinS)))))) (fun _ h => h)
instance : Inhabited P49 := ⟨⟨default, default, default⟩⟩
end Go.Proofs.Ytoacdmohgohpdaa.GFnExactBehind
