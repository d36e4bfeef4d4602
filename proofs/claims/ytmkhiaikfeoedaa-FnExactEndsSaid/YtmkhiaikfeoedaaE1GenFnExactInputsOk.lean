/- The law FnExactInputsOk's helpers (count what came in, copy it, compare it), over numbers and lists alone. Laid by genpure.py of this session. -/
import Derived.Test.YtmkhiaikfeoedaaE1QFnExactInputsOkx0
import Derived.Test.YtmkhiaikfeoedaaE1QFnExactInputsOkx1
import Derived.Test.YtmkhiaikfeoedaaE1QFnExactInputsOkx2
import Derived.Test.YtmkhiaikfeoedaaE1QFnExactInputsOkx3
import Derived.Test.YtmkhiaikfeoedaaE1QFnExactInputsOkx5
import Derived.Test.YtmkhiaikfeoedaaE1QFnExactInputsOkx7
import Derived.Test.YtmkhiaikfeoedaaE1QFnExactInputsOkx8
import Derived.Test.YtmkhiaikfeoedaaE1QFnExactInputsOkx9
import Derived.Test.YtmkhiaikfeoedaaE1QFnExactInputsOkx10
import Derived.Test.YtmkhiaikfeoedaaE1QFnExactInputsOkx11
import Derived.Test.YtmkhiaikfeoedaaE1QFnExactInputsOkx12
import Derived.Test.YtmkhiaikfeoedaaE1QFnExactInputsOkx13
import Derived.Test.YtmkhiaikfeoedaaE1QFnExactInputsOkx14
import Derived.Test.YtmkhiaikfeoedaaE1QFnExactInputsOkx15
import Derived.Test.YtmkhiaikfeoedaaE1Ev
import Derived.Test.YtmkhiaikfeoedaaE1Open
import Derived.KernelRfl
namespace Go.Proofs.Ytmkhiaikfeoedaa.GFnExactInputsOk
open Go.RowKit Go.Proofs.YtmkhiaikfeoedaaW.PrintWords Go.Proofs.Ytmkhiaikfeoedaa.QFnExactInputsOk Go.Proofs.Ytmkhiaikfeoedaa.EvKit Go.Proofs.Ytmkhiaikfeoedaa.Open
set_option linter.unusedVariables false
def ok_IntS (x : List (Int)) : Prop := x.length ≤ 9223372036854775807 ∧ ∀ a ∈ x, (-9223372036854775808 ≤ a ∧ a ≤ 9223372036854775807)
def sm_IntS (x : List (Int)) : Prop := x.length ≤ 1048576 ∧ ∀ a ∈ x, (-9223372036854775808 ≤ a ∧ a ≤ 9223372036854775807)
theorem sz_IntS (x : List (Int)) (h : ok_IntS x) : SZ (fun left k => laws_szIntS.f x left) (sm_IntS x) := by
  refine SZ.imp (show SZ (fun left k => laws_szIntS.f x left) _ from SZ.str (n := x.length) h.1 SZ.done) ?_
  exact fun q => ⟨q.1, h.2⟩
theorem at_rd (x : List (Int)) (j : Nat) (h : j < x.length) : rd x (j : Int) = x[j] := by simp [rd, h]
theorem ev_toIntS (x : List (Int)) (h : sm_IntS x) : Ev (fun k => laws_toIntS.f k x) x := by
  have hl : x.length ≤ 1048576 := h.1
  unfold laws_toIntS.f
  simp only [show (0 : Int) ≤ (x.length : Int) from by omega, if_true, Int.toNat_natCast, show x.length ≤ 35184372088832 from by omega]
  have q := ev_map (L := laws_toIntS.l0) (G := fun _ a => some a) (mk := fun a => a) (g := fun a => a) (rd := rd) (fun k x acc i => by rw [laws_toIntS.l0]; rfl) at_rd x (by omega) (fun a _ => Ev.now a) (List.replicate x.length 0) (by simp)
  simpa using q
theorem ev_eqIntS (x : List (Int)) (h : sm_IntS x) : Ev (fun k => laws_eqIntS.f k x x) true := by
  have hl := h.1
  unfold laws_eqIntS.f
  simp only [if_true]
  exact ev_eqInt (L := laws_eqIntS.l0) (rd := rd) (fun k x y i => by rw [laws_eqIntS.l0]) at_rd x (by omega)
def ok_Arrival (a : S69) : Prop := (-9223372036854775808 ≤ a.f0 ∧ a.f0 ≤ 9223372036854775807) ∧ ok_IntS a.f1 ∧ True
def sm_Arrival (a : S54) : Prop := (-9223372036854775808 ≤ a.f0 ∧ a.f0 ≤ 9223372036854775807) ∧ sm_IntS a.f1 ∧ True
def to_Arrival (a : S69) : S54 := ⟨a.f0, a.f1, a.f2⟩
theorem sz_Arrival (a : S69) (h : ok_Arrival a) : SZ (fun left k => laws_szArrival.f a.f0 a.f1 a.f2 left) (sm_Arrival (to_Arrival a)) := by
  obtain ⟨h0, h1, h2⟩ := h
  refine SZ.imp (show SZ (fun left k => laws_szArrival.f a.f0 a.f1 a.f2 left) _ from (SZ.call (sz_IntS a.f1 h1) SZ.done)) ?_
  rintro ⟨s1, _⟩
  exact ⟨h0, s1, h2⟩
theorem ev_toArrival (a : S69) (h : sm_Arrival (to_Arrival a)) : Ev (fun k => laws_toArrival.f k a.f0 a.f1 a.f2) ((to_Arrival a).f0, (to_Arrival a).f1, (to_Arrival a).f2) := by
  obtain ⟨h0, h1, h2⟩ := h
  exact (show Ev (fun k => laws_toArrival.f k a.f0 a.f1 a.f2) _ from (Ev.bind (ev_toIntS a.f1 h1) (Ev.now _)))
theorem ev_eqArrival (a : S54) (h : sm_Arrival a) : Ev (fun k => laws_eqArrival.f k a.f0 a.f1 a.f2 a.f0 a.f1 a.f2) true := by
  obtain ⟨h0, h1, h2⟩ := h
  unfold laws_eqArrival.f
  refine Ev.iteT rfl ?_
  refine Ev.bind (ev_eqIntS a.f1 h1) (Ev.iteT rfl ?_)
  refine Ev.iteF (by simp) ?_
  exact Ev.now _
def ok_ArrivalS (x : List (S69)) : Prop := x.length ≤ 9223372036854775807 ∧ ∀ a ∈ x, ok_Arrival a
def sm_ArrivalS (x : List (S54)) : Prop := x.length ≤ 1048576 ∧ ∀ a ∈ x, sm_Arrival a
def to_ArrivalS (x : List (S69)) : List (S54) := x.map to_Arrival
theorem at_rd_T69 (x : List (S69)) (j : Nat) (h : j < x.length) : rd_T69 x (j : Int) = x[j] := by simp [rd_T69, h]
theorem sz_ArrivalS (x : List (S69)) (h : ok_ArrivalS x) : SZ (fun left k => laws_szArrivalS.f k x left) (sm_ArrivalS (to_ArrivalS x)) := by
  refine SZ.imp (show SZ (fun left k => laws_szArrivalS.f k x left) _ from SZ.str (n := x.length) h.1 (SZ.loop (L := laws_szArrivalS.l0) (S := fun k a left => laws_szArrival.f a.f0 a.f1 a.f2 left) (rd := rd_T69) (Q := fun a => sm_Arrival (to_Arrival a)) (fun k x left i => by rw [laws_szArrivalS.l0]) at_rd_T69 x h.1 (fun a ha => sz_Arrival a (h.2 a ha)))) ?_
  rintro ⟨q1, q2⟩
  refine ⟨by simpa [to_ArrivalS] using q1, fun b hb => ?_⟩
  obtain ⟨a, ha, rfl⟩ := List.mem_map.1 hb
  exact q2 a ha
theorem ev_toArrivalS (x : List (S69)) (h : sm_ArrivalS (to_ArrivalS x)) : Ev (fun k => laws_toArrivalS.f k x) (to_ArrivalS x) := by
  have hl : x.length ≤ 1048576 := by simpa [to_ArrivalS] using h.1
  unfold laws_toArrivalS.f
  simp only [show (0 : Int) ≤ (x.length : Int) from by omega, if_true, Int.toNat_natCast, show x.length ≤ 7036874417766 from by omega]
  exact ev_map (L := laws_toArrivalS.l0) (G := fun k a => laws_toArrival.f k a.f0 a.f1 a.f2) (mk := fun bt => (⟨bt.1, bt.2.1, bt.2.2⟩ : S54)) (g := fun a => ((to_Arrival a).f0, (to_Arrival a).f1, (to_Arrival a).f2)) (rd := rd_T69) (fun k x acc i => by rw [laws_toArrivalS.l0]) at_rd_T69 x (by omega) (fun a ha => ev_toArrival a (h.2 _ (List.mem_map_of_mem ha))) _ (by simp)
theorem at_rd_T54 (x : List (S54)) (j : Nat) (h : j < x.length) : rd_T54 x (j : Int) = x[j] := by simp [rd_T54, h]
theorem ev_eqArrivalS (x : List (S54)) (h : sm_ArrivalS x) : Ev (fun k => laws_eqArrivalS.f k x x) true := by
  have hl := h.1
  unfold laws_eqArrivalS.f
  simp only [if_true]
  exact ev_eq (L := laws_eqArrivalS.l0) (E := fun k a b => laws_eqArrival.f k a.f0 a.f1 a.f2 b.f0 b.f1 b.f2) (rd := rd_T54) (fun k x y i => by rw [laws_eqArrivalS.l0]) at_rd_T54 x (by omega) (fun a ha => ev_eqArrival a (h.2 a ha))
def ok_ArrivalSS (x : List (List (S69))) : Prop := x.length ≤ 9223372036854775807 ∧ ∀ a ∈ x, ok_ArrivalS a
def sm_ArrivalSS (x : List (List (S54))) : Prop := x.length ≤ 1048576 ∧ ∀ a ∈ x, sm_ArrivalS a
def to_ArrivalSS (x : List (List (S69))) : List (List (S54)) := x.map to_ArrivalS
theorem at_rd_L7 (x : List (List (S69))) (j : Nat) (h : j < x.length) : rd_L7 x (j : Int) = x[j] := by simp [rd_L7, h]
theorem sz_ArrivalSS (x : List (List (S69))) (h : ok_ArrivalSS x) : SZ (fun left k => laws_szArrivalSS.f k x left) (sm_ArrivalSS (to_ArrivalSS x)) := by
  refine SZ.imp (show SZ (fun left k => laws_szArrivalSS.f k x left) _ from SZ.str (n := x.length) h.1 (SZ.loop (L := laws_szArrivalSS.l0) (S := fun k a left => laws_szArrivalS.f k a left) (rd := rd_L7) (Q := fun a => sm_ArrivalS (to_ArrivalS a)) (fun k x left i => by rw [laws_szArrivalSS.l0]) at_rd_L7 x h.1 (fun a ha => sz_ArrivalS a (h.2 a ha)))) ?_
  rintro ⟨q1, q2⟩
  refine ⟨by simpa [to_ArrivalSS] using q1, fun b hb => ?_⟩
  obtain ⟨a, ha, rfl⟩ := List.mem_map.1 hb
  exact q2 a ha
theorem at_rd_L10 (x : List (List (S54))) (j : Nat) (h : j < x.length) : rd_L10 x (j : Int) = x[j] := by simp [rd_L10, h]
theorem ev_eqArrivalSS (x : List (List (S54))) (h : sm_ArrivalSS x) : Ev (fun k => laws_eqArrivalSS.f k x x) true := by
  have hl := h.1
  unfold laws_eqArrivalSS.f
  simp only [if_true]
  exact ev_eq (L := laws_eqArrivalSS.l0) (E := fun k a b => laws_eqArrivalS.f k a b) (rd := rd_L10) (fun k x y i => by rw [laws_eqArrivalSS.l0]) at_rd_L10 x (by omega) (fun a ha => ev_eqArrivalS a (h.2 a ha))
def ok_StringS (x : List (ByteArray)) : Prop := x.length ≤ 9223372036854775807 ∧ ∀ a ∈ x, a.size ≤ 9223372036854775807
def sm_StringS (x : List (ByteArray)) : Prop := x.length ≤ 1048576 ∧ ∀ a ∈ x, a.size ≤ 1048576
theorem at_rdOf_ByteArray_empty (x : List (ByteArray)) (j : Nat) (h : j < x.length) : rdOf ByteArray.empty x (j : Int) = x[j] := by simp [rdOf, h]
theorem sz_StringS (x : List (ByteArray)) (h : ok_StringS x) : SZ (fun left k => laws_szStringS.f k x left) (sm_StringS x) := by
  refine SZ.imp (show SZ (fun left k => laws_szStringS.f k x left) _ from SZ.str (n := x.length) h.1 (SZ.strs (L := laws_szStringS.l0) (rd := rdOf ByteArray.empty) (fun k x left i => by rw [laws_szStringS.l0]) at_rdOf_ByteArray_empty x h.1 h.2)) (fun q => ⟨q.1, q.2⟩)
theorem ev_toStringS (x : List (ByteArray)) (h : sm_StringS x) : Ev (fun k => laws_toStringS.f k x) x := by
  have hl : x.length ≤ 1048576 := h.1
  unfold laws_toStringS.f
  simp only [show (0 : Int) ≤ (x.length : Int) from by omega, if_true, Int.toNat_natCast, show x.length ≤ 17592186044416 from by omega]
  have q := ev_map (L := laws_toStringS.l0) (G := fun _ a => some a) (mk := fun a => a) (g := fun a => a) (rd := rdOf ByteArray.empty) (fun k x acc i => by rw [laws_toStringS.l0]; rfl) at_rdOf_ByteArray_empty x (by omega) (fun a _ => Ev.now a) (List.replicate x.length (⟨#[]⟩ : ByteArray)) (by simp)
  simpa using q
theorem ev_eqStringS (x : List (ByteArray)) (h : sm_StringS x) : Ev (fun k => laws_eqStringS.f k x x) true := by
  have hl := h.1
  unfold laws_eqStringS.f
  simp only [if_true]
  exact ev_eqStr (L := laws_eqStringS.l0) (rd := rdOf ByteArray.empty) (fun k x y i => by rw [laws_eqStringS.l0]) at_rdOf_ByteArray_empty x (by omega)
def ok_Source (a : S46) : Prop := a.f0.size ≤ 9223372036854775807 ∧ True ∧ ok_StringS a.f2
def sm_Source (a : S58) : Prop := a.f0.size ≤ 1048576 ∧ True ∧ sm_StringS a.f2
def to_Source (a : S46) : S58 := ⟨a.f0, a.f1, a.f2⟩
theorem sz_Source (a : S46) (h : ok_Source a) : SZ (fun left k => laws_szSource.f k a.f0 a.f1 a.f2 left) (sm_Source (to_Source a)) := by
  obtain ⟨h0, h1, h2⟩ := h
  refine SZ.imp (show SZ (fun left k => laws_szSource.f k a.f0 a.f1 a.f2 left) _ from (SZ.str (n := a.f0.size) h0 (SZ.call (sz_StringS a.f2 h2) SZ.done))) ?_
  rintro ⟨s0, s2, _⟩
  exact ⟨s0, h1, s2⟩
theorem ev_toSource (a : S46) (h : sm_Source (to_Source a)) : Ev (fun k => laws_toSource.f k a.f0 a.f1 a.f2) ((to_Source a).f0, (to_Source a).f1, (to_Source a).f2) := by
  obtain ⟨h0, h1, h2⟩ := h
  exact (show Ev (fun k => laws_toSource.f k a.f0 a.f1 a.f2) _ from (Ev.bind (ev_toStringS a.f2 h2) (Ev.now _)))
theorem ev_eqSource (a : S58) (h : sm_Source a) : Ev (fun k => laws_eqSource.f k a.f0 a.f1 a.f2 a.f0 a.f1 a.f2) true := by
  obtain ⟨h0, h1, h2⟩ := h
  unfold laws_eqSource.f
  refine Ev.iteT rfl ?_
  refine Ev.iteF (by simp) ?_
  refine Ev.bind (ev_eqStringS a.f2 h2) (Ev.iteT rfl ?_)
  exact Ev.now _
def ok_SourceS (x : List (S46)) : Prop := x.length ≤ 9223372036854775807 ∧ ∀ a ∈ x, ok_Source a
def sm_SourceS (x : List (S58)) : Prop := x.length ≤ 1048576 ∧ ∀ a ∈ x, sm_Source a
def to_SourceS (x : List (S46)) : List (S58) := x.map to_Source
theorem at_rd_T46 (x : List (S46)) (j : Nat) (h : j < x.length) : rd_T46 x (j : Int) = x[j] := by simp [rd_T46, h]
theorem sz_SourceS (x : List (S46)) (h : ok_SourceS x) : SZ (fun left k => laws_szSourceS.f k x left) (sm_SourceS (to_SourceS x)) := by
  refine SZ.imp (show SZ (fun left k => laws_szSourceS.f k x left) _ from SZ.str (n := x.length) h.1 (SZ.loop (L := laws_szSourceS.l0) (S := fun k a left => laws_szSource.f k a.f0 a.f1 a.f2 left) (rd := rd_T46) (Q := fun a => sm_Source (to_Source a)) (fun k x left i => by rw [laws_szSourceS.l0]) at_rd_T46 x h.1 (fun a ha => sz_Source a (h.2 a ha)))) ?_
  rintro ⟨q1, q2⟩
  refine ⟨by simpa [to_SourceS] using q1, fun b hb => ?_⟩
  obtain ⟨a, ha, rfl⟩ := List.mem_map.1 hb
  exact q2 a ha
theorem ev_toSourceS (x : List (S46)) (h : sm_SourceS (to_SourceS x)) : Ev (fun k => laws_toSourceS.f k x) (to_SourceS x) := by
  have hl : x.length ≤ 1048576 := by simpa [to_SourceS] using h.1
  unfold laws_toSourceS.f
  simp only [show (0 : Int) ≤ (x.length : Int) from by omega, if_true, Int.toNat_natCast, show x.length ≤ 5864062014805 from by omega]
  exact ev_map (L := laws_toSourceS.l0) (G := fun k a => laws_toSource.f k a.f0 a.f1 a.f2) (mk := fun bt => (⟨bt.1, bt.2.1, bt.2.2⟩ : S58)) (g := fun a => ((to_Source a).f0, (to_Source a).f1, (to_Source a).f2)) (rd := rd_T46) (fun k x acc i => by rw [laws_toSourceS.l0]) at_rd_T46 x (by omega) (fun a ha => ev_toSource a (h.2 _ (List.mem_map_of_mem ha))) _ (by simp)
theorem at_rd_T58 (x : List (S58)) (j : Nat) (h : j < x.length) : rd_T58 x (j : Int) = x[j] := by simp [rd_T58, h]
theorem ev_eqSourceS (x : List (S58)) (h : sm_SourceS x) : Ev (fun k => laws_eqSourceS.f k x x) true := by
  have hl := h.1
  unfold laws_eqSourceS.f
  simp only [if_true]
  exact ev_eq (L := laws_eqSourceS.l0) (E := fun k a b => laws_eqSource.f k a.f0 a.f1 a.f2 b.f0 b.f1 b.f2) (rd := rd_T58) (fun k x y i => by rw [laws_eqSourceS.l0]) at_rd_T58 x (by omega) (fun a ha => ev_eqSource a (h.2 a ha))
theorem opens_StringS : Opens Try.prog 44 (Kd.slice 9 Kd.string) ok_StringS := Opens.imp (opens_slice Try.underlying44 (by kernel_rfl) (Opens.imp (opens_string Try.underlying9) (fun _ h => h))) (fun _ h => ⟨h.1, h.2⟩)
theorem opens_Source : Opens Try.prog 46 k46 ok_Source := Opens.imp (opens_iso (fun p => ⟨p.1, p.2.1, p.2.2⟩) (fun _ => rfl) (opens_struct Try.underlying46 (by kernel_rfl) (opensAt_cons rfl (by kernel_rfl) (Opens.imp (opens_string Try.underlying9) (fun _ h => h)) (opensAt_cons rfl (by kernel_rfl) (opens_bool Try.underlying4) (opensAt_one rfl (by kernel_rfl) (opens_StringS)))))) (fun _ h => h)
instance : Inhabited S46 := ⟨⟨default, default, default⟩⟩
theorem opens_SourceS : Opens Try.prog 22 (Kd.slice 46 k46) ok_SourceS := Opens.imp (opens_slice Try.underlying22 (by kernel_rfl) (opens_Source)) (fun _ h => ⟨h.1, h.2⟩)
theorem opens_IntS : Opens Try.prog 24 (Kd.slice 3 (Kd.int .i64)) ok_IntS := Opens.imp (opens_slice Try.underlying24 (by kernel_rfl) (opensI64 Try.underlying3)) (fun _ h => ⟨h.1, h.2⟩)
theorem opens_Arrival : Opens Try.prog 69 k69 ok_Arrival := Opens.imp (opens_iso (fun p => ⟨p.1, p.2.1, p.2.2⟩) (fun _ => rfl) (opens_struct Try.underlying69 (by kernel_rfl) (opensAt_cons rfl (by kernel_rfl) (opensI64 Try.underlying3) (opensAt_cons rfl (by kernel_rfl) (opens_IntS) (opensAt_one rfl (by kernel_rfl) (opens_bool Try.underlying4)))))) (fun _ h => h)
instance : Inhabited S69 := ⟨⟨default, default, default⟩⟩
theorem opens_ArrivalS : Opens Try.prog 48 (Kd.slice 69 k69) ok_ArrivalS := Opens.imp (opens_slice Try.underlying48 (by kernel_rfl) (opens_Arrival)) (fun _ h => ⟨h.1, h.2⟩)
theorem opens_ArrivalSS : Opens Try.prog 23 (Kd.slice 48 (Kd.slice 69 k69)) ok_ArrivalSS := Opens.imp (opens_slice Try.underlying23 (by kernel_rfl) (opens_ArrivalS)) (fun _ h => ⟨h.1, h.2⟩)
end Go.Proofs.Ytmkhiaikfeoedaa.GFnExactInputsOk
