/- What the laws over logs and mirrors call: sizes, copies, comparisons, and MirrorOk in reference and program. -/
import Derived.Test.YtoacdmohgohpdaaK2LogMir
import Derived.Test.YtoacdmohgohpdaaK2GenFnExactBehind
namespace Go.Proofs.Ytoacdmohgohpdaa.LogK
open Go.RowKit Go.Proofs.YtoacdmohgohpdaaW.PrintWords Go.Proofs.YtoacdmohgohpdaaW.PrintLast Go.Proofs.YtoacdmohgohpdaaW.PrintMore Go.Proofs.Ytoacdmohgohpdaa.QFnExactBehind Go.Proofs.Ytoacdmohgohpdaa.EvKit Go.Proofs.Ytoacdmohgohpdaa.GFnExactBehind
abbrev LMir := P49
abbrev Mir := P39
abbrev LLog := P46
abbrev Lg := P36
theorem readR {α : Type} {d : Kd α} {e : Nat} {w : World} {base : Nat} {ok : Nat → Prop} {v : Value} {xs : List α} (h : d.R e w base ok v xs) : ∃ A c, v = .slice A xs.length c ∧ xs.length ≤ c ∧ d.C w A xs.length xs := Kd.R_reads h
def LogC (w : World) (x : Lg) (A : Option Addr) (c : Nat) : Prop := x.f3.length ≤ c ∧ k125.C w A x.f3.length x.f3
def MirC (w : World) (x : Mir) (A : Option Addr) (c : Nat) (B : Option Addr) (d : Nat) : Prop := (x.f0.f3.length ≤ c ∧ k125.C w A x.f0.f3.length x.f0.f3) ∧ x.f2.length ≤ d ∧ k106.C w B x.f2.length x.f2
theorem LogC.below {w w' : World} {x : Lg} {A : Option Addr} {c : Nat} (h : LogC w x A c) (hb : Below w.heap.size w w') : LogC w' x A c := ⟨h.1, Kd.C_below h.2 hb⟩
theorem MirC.below {w w' : World} {x : Mir} {A B : Option Addr} {c d : Nat} (h : MirC w x A c B d) (hb : Below w.heap.size w w') : MirC w' x A c B d := ⟨⟨h.1.1, Kd.C_below h.1.2 hb⟩, h.2.1, Kd.C_below h.2.2 hb⟩
theorem log_open {w : World} {x : LLog} {cs : List Value} (h : kp46.K w x cs) : ∃ A c, cs = [.int .i64 x.f0, .int .i64 x.f1, .int .i64 x.f2, .slice A x.f3.length c] ∧ x.f3.length ≤ c ∧ k144.C w A x.f3.length x.f3 := by
  obtain ⟨_, _, rfl, rfl, ⟨_, _, rfl, rfl, ⟨_, _, rfl, rfl, ⟨A, c, rfl, l, g⟩⟩⟩⟩ := h
  exact ⟨A, c, rfl, l, g⟩
theorem mir_open {w : World} {x : LMir} {cs : List Value} (h : kp49.K w x cs) : ∃ A c B d, cs = [.int .i64 x.f0.f0, .int .i64 x.f0.f1, .int .i64 x.f0.f2, .slice A x.f0.f3.length c, .int .i64 x.f1, .slice B x.f2.length d] ∧ (x.f0.f3.length ≤ c ∧ k144.C w A x.f0.f3.length x.f0.f3) ∧ x.f2.length ≤ d ∧ k140.C w B x.f2.length x.f2 := by
  obtain ⟨_, _, rfl, h1, ⟨_, _, rfl, rfl, ⟨B, d, rfl, l2, g2⟩⟩⟩ := h
  obtain ⟨A, c, rfl, l, g⟩ := log_open h1
  exact ⟨A, c, B, d, rfl, ⟨l, g⟩, l2, g2⟩
theorem smL_of {x : List (S125)} (h : sm_SegmentS x) : smL x := ⟨h.1, fun s hs => ⟨(h.2 s hs).1, (h.2 s hs).2.1, fun b hb => ⟨((h.2 s hs).2.2 b hb).2.2.2.2.2.2.1, fun r hr => (((h.2 s hs).2.2 b hb).2.2.2.2.2.2.2 r hr).2.2.2.2.2.1⟩⟩⟩
theorem to_mir (A B : Option Addr) (c d : Nat) (x : LMir) (W : World) (h : (x.f0.f3.length ≤ c ∧ k144.C W A x.f0.f3.length x.f0.f3) ∧ x.f2.length ≤ d ∧ k140.C W B x.f2.length x.f2) (s : sm_Mirror (to_Mirror x)) :
    Calls Try.prog 25 #[.agg #[.int .i64 x.f0.f0, .int .i64 x.f0.f1, .int .i64 x.f0.f2, .slice A x.f0.f3.length c, .int .i64 x.f1, .slice B x.f2.length d]] W fun e w' => ∃ A' c' B' d', e = .returned (.agg #[.int .i64 (to_Mirror x).f0.f0, .int .i64 (to_Mirror x).f0.f1, .int .i64 (to_Mirror x).f0.f2, .slice A' (to_Mirror x).f0.f3.length c', .int .i64 (to_Mirror x).f1, .slice B' (to_Mirror x).f2.length d']) ∧ MirC w' (to_Mirror x) A' c' B' d' ∧ Below W.heap.size W w' := by
  obtain ⟨k, hk⟩ := Ev.rounds (ev_toMirror x s)
  refine (laws_toMirror.calls k _ _ _ A c _ _ B d _ _ _ _ _ _ _ W h.1.2 h.1.1 h.2.2 h.2.1 hk).mono ?_
  rintro e w' ⟨v3, v5, rfl, h3, h5, hb⟩
  obtain ⟨A', c', rfl, hl, hC⟩ := readR h3
  obtain ⟨B', d', rfl, hl2, hC2⟩ := readR h5
  exact ⟨A', c', B', d', rfl, ⟨⟨hl, hC⟩, hl2, hC2⟩, hb⟩
theorem to_lg (A : Option Addr) (c : Nat) (x : LLog) (W : World) (h : x.f3.length ≤ c ∧ k144.C W A x.f3.length x.f3) (s : sm_Log (to_Log x)) :
    Calls Try.prog 29 #[.agg #[.int .i64 x.f0, .int .i64 x.f1, .int .i64 x.f2, .slice A x.f3.length c]] W fun e w' => ∃ A' c', e = .returned (.agg #[.int .i64 (to_Log x).f0, .int .i64 (to_Log x).f1, .int .i64 (to_Log x).f2, .slice A' (to_Log x).f3.length c']) ∧ LogC w' (to_Log x) A' c' ∧ Below W.heap.size W w' := by
  obtain ⟨k, hk⟩ := Ev.rounds (ev_toLog x s)
  refine (laws_toLog.calls k _ _ _ A c _ _ _ _ _ W h.2 h.1 hk).mono ?_
  rintro e w' ⟨v3, rfl, h3, hb⟩
  obtain ⟨A', c', rfl, hl, hC⟩ := readR h3
  exact ⟨A', c', rfl, ⟨hl, hC⟩, hb⟩
theorem eq_mir (A B A' B' : Option Addr) (c d c' d' : Nat) (x : Mir) (W : World) (h : MirC W x A c B d) (h' : MirC W x A' c' B' d') (s : sm_Mirror x) :
    Calls Try.prog 20 #[.agg #[.int .i64 x.f0.f0, .int .i64 x.f0.f1, .int .i64 x.f0.f2, .slice A x.f0.f3.length c, .int .i64 x.f1, .slice B x.f2.length d], .agg #[.int .i64 x.f0.f0, .int .i64 x.f0.f1, .int .i64 x.f0.f2, .slice A' x.f0.f3.length c', .int .i64 x.f1, .slice B' x.f2.length d']] W fun e w' => e = .returned (.bool true) ∧ Below W.heap.size W w' := by
  obtain ⟨k, hk⟩ := Ev.rounds (ev_eqMirror x s)
  exact laws_eqMirror.calls k _ _ _ A c _ _ B d _ _ _ _ A' c' _ _ B' d' _ _ W h.1.2 h.1.1 h.2.2 h.2.1 h'.1.2 h'.1.1 h'.2.2 h'.2.1 hk
theorem eq_lg (A A' : Option Addr) (c c' : Nat) (x : Lg) (W : World) (h : LogC W x A c) (h' : LogC W x A' c') (s : sm_Log x) :
    Calls Try.prog 31 #[.agg #[.int .i64 x.f0, .int .i64 x.f1, .int .i64 x.f2, .slice A x.f3.length c], .agg #[.int .i64 x.f0, .int .i64 x.f1, .int .i64 x.f2, .slice A' x.f3.length c']] W fun e w' => e = .returned (.bool true) ∧ Below W.heap.size W w' := by
  obtain ⟨k, hk⟩ := Ev.rounds (ev_eqLog x s)
  exact laws_eqLog.calls k _ _ _ A c _ _ _ _ A' c' _ _ W h.2 h.1 h'.2 h'.1 hk
def mirB (x : Mir) : Bool := mirrorB x.f0.f0 x.f0.f1 x.f0.f2 x.f0.f3 x.f1 x.f2
theorem keep6 {w : World} {g : Nat} {v0 v1 v2 v3 v4 v5 : Value} {t : TypeId} (h : w.heap[g]? = some (.cells #[v0, v1, v2, v3, v4, v5] t (0, 0))) : w.cell? ⟨g, 0, none⟩ = some v0 ∧ w.cell? ⟨g, 1, none⟩ = some v1 ∧ w.cell? ⟨g, 2, none⟩ = some v2 ∧ w.cell? ⟨g, 3, none⟩ = some v3 ∧ w.cell? ⟨g, 4, none⟩ = some v4 ∧ w.cell? ⟨g, 5, none⟩ = some v5 :=
  ⟨(blk_cell h 0).trans rfl, (blk_cell h 1).trans rfl, (blk_cell h 2).trans rfl, (blk_cell h 3).trans rfl, (blk_cell h 4).trans rfl, (blk_cell h 5).trans rfl⟩
end Go.Proofs.Ytoacdmohgohpdaa.LogK
