/- The state of Ends in memory: its boxes, its rows; what is taken, called. -/
import Derived.Test.YtmkhiaikfeoedaaE1EndPure
import Derived.Test.YtmkhiaikfeoedaaE1MkCom
import Derived.Test.YtmkhiaikfeoedaaE1Clone
import Derived.Test.YtmkhiaikfeoedaaE1ToArr
import Derived.BigQuiet
namespace Go.Proofs.Ytmkhiaikfeoedaa.EndsK
open Go.RowKit Go.Proofs.YtmkhiaikfeoedaaW.PrintWords Go.Proofs.YtmkhiaikfeoedaaW.PrintLast Go.Proofs.YtmkhiaikfeoedaaW.PrintMore Go.Proofs.Ytmkhiaikfeoedaa.QFnExactInputsOk Go.Proofs.Ytmkhiaikfeoedaa.EvKit Go.Proofs.Ytmkhiaikfeoedaa.MarkK
set_option linter.unusedSimpArgs false
set_option linter.unusedVariables false
abbrev TAA : TypeId := 31
abbrev TCs : TypeId := 27
abbrev TIs : TypeId := 24
theorem bel {w u v : World} (h : Below w.heap.size w u) (h2 : Below u.heap.size u v) : Below w.heap.size w v := h.trans (h2.mono h.size)
theorem bel_alloc (w : World) (o : Obj) : Below w.heap.size w (w.alloc o) := below_alloc (Below.refl _ _) o
theorem size_alloc (w : World) (o : Obj) : (w.alloc o).heap.size = w.heap.size + 1 := Array.size_push _
theorem cellU {w w' : World} {a : Addr} {v : Value} (h : w.cell? a = some v) (hb : Below w.heap.size w w') : w'.cell? a = some v := (hb.cell (World.block_lt_of_cell? w _ h)).trans h
theorem kc_mk (W : World) (base : Nat) (ok : Nat → Prop) (x : Com) {v : Value} (h : KI.R 3 W base ok v x.f1.f1) : KC.M W base ok x [.int .i64 x.f0, .int .i64 x.f1.f0, v, .bool x.f1.f2, .int .i64 x.f2] := k56_mkM W base ok x h
structure En (w : World) (A1 : Option Addr) (c1 n : Nat) (b o rn p rm q N cn cm : Nat) (W : World) (vo : Value) (st : St) : Prop where
  io : w.heap.size ≤ b ∧ b < o ∧ o < rn ∧ rn < p ∧ p < rm ∧ rm < q ∧ q < N
  bB : W.heap[b]? = some (.cells #[.slice A1 n c1] TAA (0, 0))
  bO : W.heap[o]? = some (.cells #[vo] TCs (0, 0))
  bN : W.heap[p]? = some (.cells #[.slice (some ⟨rn, 0, none⟩) n cn] TIs (0, 0))
  bM : W.heap[q]? = some (.cells #[.slice (some ⟨rm, 0, none⟩) n cm] TIs (0, 0))
  hN : KI.R 3 W w.heap.size (fun k => k = rn) (.slice (some ⟨rn, 0, none⟩) n cn) st.1
  hM : KI.R 3 W w.heap.size (fun k => k = rm) (.slice (some ⟨rm, 0, none⟩) n cm) st.2.1
  hB : Below w.heap.size w W
  hS : N ≤ W.heap.size
section
variable {w : World} {A1 : Option Addr} {c1 n b o rn p rm q N cn cm : Nat} {W W1 : World} {vo : Value} {st : St}
theorem En.grown (h : En w A1 c1 n b o rn p rm q N cn cm W vo st) {row : Option Nat} (hg : W.grownBy W1 row) (hr : ∀ x, row = some x → N ≤ x) (hb : Below w.heap.size w W1) : En w A1 c1 n b o rn p rm q N cn cm W1 vo st where
  io := h.io
  bB := blk_grown h.bB hg (fun e => by have := hr _ e.symm; have := h.io; omega)
  bO := blk_grown h.bO hg (fun e => by have := hr _ e.symm; have := h.io; omega)
  bN := blk_grown h.bN hg (fun e => by have := hr _ e.symm; have := h.io; omega)
  bM := blk_grown h.bM hg (fun e => by have := hr _ e.symm; have := h.io; omega)
  hN := Kd.R_grown h.hN hg (fun x hx e => by have := hr _ e.symm; have := h.io; omega)
  hM := Kd.R_grown h.hM hg (fun x hx e => by have := hr _ e.symm; have := h.io; omega)
  hB := hb
  hS := Nat.le_trans h.hS hg.size
theorem En.below (h : En w A1 c1 n b o rn p rm q N cn cm W vo st) (hb : Below W.heap.size W W1) : En w A1 c1 n b o rn p rm q N cn cm W1 vo st := h.grown (row := none) ⟨hb.os, hb.tape, hb.output, hb.size, fun i hi _ => hb.block i hi⟩ (fun x e => by cases e) (bel h.hB hb)
theorem En.drewN (h : En w A1 c1 n b o rn p rm q N cn cm W vo st) (m : Nat) : En w A1 c1 n b o rn p rm q N cn cm (W.drewN m) vo st := h.below (pw_below_drewN (Below.refl _ _) m)
theorem En.setO (h : En w A1 c1 n b o rn p rm q N cn cm W vo st) (v' : Value) : En w A1 c1 n b o rn p rm q N cn cm (W.setCell ⟨o, 0, none⟩ v') v' st where
  io := h.io
  bB := blk_far (p := ⟨o, 0, none⟩) h.bB (show b ≠ o from by have := h.io; omega) v'
  bO := blk_put h.bO 0 v' (cs' := #[v']) rfl
  bN := blk_far (p := ⟨o, 0, none⟩) h.bN (show p ≠ o from by have := h.io; omega) v'
  bM := blk_far (p := ⟨o, 0, none⟩) h.bM (show q ≠ o from by have := h.io; omega) v'
  hN := Kd.R_far (p := ⟨o, 0, none⟩) h.hN (fun x hx e => by have e2 : x = o := e; have := h.io; omega) v'
  hM := Kd.R_far (p := ⟨o, 0, none⟩) h.hM (fun x hx e => by have e2 : x = o := e; have := h.io; omega) v'
  hB := below_set (j := 0) (v := v') h.hB (show w.heap.size ≤ o from by have := h.io; omega)
  hS := Nat.le_trans h.hS (set_grown W o 0 v').size
theorem En.setN (h : En w A1 c1 n b o rn p rm q N cn cm W vo st) (hl : st.1.length = n) (i : Nat) (x : Int) : En w A1 c1 n b o rn p rm q N cn cm (W.setCell ⟨rn, i, none⟩ (.int .i64 x)) vo (st.1.set i x, st.2.1, st.2.2) := by
  have hA := h.hN
  rw [← hl] at hA
  obtain ⟨h1, hg⟩ := Kd.R_put (enc := Value.int .i64) (h1 := fun _ => rfl) hA (i : Int) x
  rw [Int.toNat_natCast, hl] at h1
  rw [Int.toNat_natCast] at hg
  exact {
    io := h.io
    bB := blk_grown h.bB hg (fun e => by injection e with e; have := h.io; omega)
    bO := blk_grown h.bO hg (fun e => by injection e with e; have := h.io; omega)
    bN := blk_grown h.bN hg (fun e => by injection e with e; have := h.io; omega)
    bM := blk_grown h.bM hg (fun e => by injection e with e; have := h.io; omega)
    hN := h1
    hM := Kd.R_grown h.hM hg (fun x hx e => by injection e with e; have := h.io; omega)
    hB := h.hB.grown hg h.hB.size (fun x e => by injection e with e; have := h.io; omega)
    hS := Nat.le_trans h.hS hg.size }
theorem En.setM (h : En w A1 c1 n b o rn p rm q N cn cm W vo st) (hl : st.2.1.length = n) (i : Nat) (x : Int) : En w A1 c1 n b o rn p rm q N cn cm (W.setCell ⟨rm, i, none⟩ (.int .i64 x)) vo (st.1, st.2.1.set i x, st.2.2) := by
  have hA := h.hM
  rw [← hl] at hA
  obtain ⟨h1, hg⟩ := Kd.R_put (enc := Value.int .i64) (h1 := fun _ => rfl) hA (i : Int) x
  rw [Int.toNat_natCast, hl] at h1
  rw [Int.toNat_natCast] at hg
  exact {
    io := h.io
    bB := blk_grown h.bB hg (fun e => by injection e with e; have := h.io; omega)
    bO := blk_grown h.bO hg (fun e => by injection e with e; have := h.io; omega)
    bN := blk_grown h.bN hg (fun e => by injection e with e; have := h.io; omega)
    bM := blk_grown h.bM hg (fun e => by injection e with e; have := h.io; omega)
    hN := Kd.R_grown h.hN hg (fun x hx e => by injection e with e; have := h.io; omega)
    hM := h1
    hB := h.hB.grown hg h.hB.size (fun x e => by injection e with e; have := h.io; omega)
    hS := Nat.le_trans h.hS hg.size }
theorem En.out (h : En w A1 c1 n b o rn p rm q N cn cm W vo st) (l : List Com) : En w A1 c1 n b o rn p rm q N cn cm W vo (st.1, st.2.1, l) := ⟨h.io, h.bB, h.bO, h.bN, h.bM, h.hN, h.hM, h.hB, h.hS⟩
end
theorem own_at {W : World} {base g n c : Nat} {ok : Nat → Prop} {l : List Int} (h : KI.R 3 W base ok (.slice (some ⟨g, 0, none⟩) n c) l) {s : Nat} (hs : s < n) : W.cell? ⟨g, s, none⟩ = some (.int .i64 (rd l s)) ∧ W.frozen? ⟨g, s, none⟩ = false := by
  have hl := (Kd.R_reads' h).1
  obtain ⟨c, _, hM, hcc, hfr⟩ := Kd.R_elem h (0 : Int) (s : Int) (Int.natCast_nonneg s) (by omega)
  have h0 := hfr 0
  rw [Int.toNat_natCast] at h0 hcc hM
  have e : s * (Kd.int .i64).sz + 0 = s := Nat.mul_one s
  rw [e] at h0
  refine ⟨?_, h0⟩
  have hc : c = [.int .i64 (l.getD s 0)] := hM
  have h1 := hcc 0 (.int .i64 (l.getD s 0)) (by rw [hc]; rfl)
  rw [e] at h1
  rw [h1]
  unfold rd
  rw [Int.toNat_natCast]
end Go.Proofs.Ytmkhiaikfeoedaa.EndsK
