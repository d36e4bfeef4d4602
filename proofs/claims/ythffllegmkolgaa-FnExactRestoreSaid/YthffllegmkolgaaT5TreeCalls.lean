/- What the program's TreeOk calls: cellOk, cellOrder, a set in a map, a row of rows. -/
import Derived.Test.YthffllegmkolgaaT5TreePure
import Derived.Test.YthffllegmkolgaaT5QTreex8
namespace Go.Proofs.Ythffllegmkolgaa.TreeK
open Go.RowKit Go.Proofs.YthffllegmkolgaaW.PrintWords Go.Proofs.YthffllegmkolgaaW.PrintLast Go.Proofs.YthffllegmkolgaaW.PrintMore Go.Proofs.Ythffllegmkolgaa.QTree
theorem bel {w w1 w2 : World} (h : Below w.heap.size w w1) (h2 : Below w1.heap.size w1 w2) : Below w.heap.size w w2 := h.trans (h2.mono h.size)
theorem bel_alloc (w : World) (o : Obj) : Below w.heap.size w (w.alloc o) := below_alloc (Below.refl _ _) o
theorem cell_lt {w : World} {a : Addr} {v : Value} (h : w.cell? a = some v) : a.block < w.heap.size := by
  rcases Nat.lt_or_ge a.block w.heap.size with h1 | h1
  · exact h1
  · exfalso
    have : w.heap[a.block]? = none := Array.getElem?_eq_none h1
    unfold World.cell? at h
    simp [this] at h
theorem up1 {w w' : World} {a : Addr} {v : Value} (hb : Below w.heap.size w w') (h : w.cell? a = some v) : w'.cell? a = some v := (hb.cell (cell_lt h)).trans h
def At (w : World) (g i : Nat) (v : Value) : Prop := g < w.heap.size ∧ w.cell? ⟨g, i, none⟩ = some v
theorem At.drewN {w : World} {g i : Nat} {v : Value} (h : At w g i v) (n : Nat) : At (w.drewN n) g i v := h
theorem At.of {w : World} {g i : Nat} {v : Value} {cs : Array Value} {t : TypeId} (h : w.heap[g]? = some (.cells cs t (0, 0))) (hc : cs[i]? = some v) : At w g i v := ⟨blk_lt h, (blk_cell h i).trans hc⟩
theorem within_f (a b c : Int) : impl_within.f a b c = some (decide (b ≤ a ∧ a ≤ c)) := by
  unfold impl_within.f
  by_cases h : a ≥ b
  · rw [if_pos h]; simp [show b ≤ a from h]
  · rw [if_neg h]; simp [show ¬ b ≤ a from h]
theorem call_within (a b c : Int) (r : Bool) (W : World) (h : decide (b ≤ a ∧ a ≤ c) = r) : Calls Try.prog 58 #[.int .i64 a, .int .i64 b, .int .i64 c] W fun e w' => e = .returned (.bool r) ∧ Drawn0 W w' :=
  impl_within.calls a b c r W (by rw [within_f, h])
theorem cellOk_f (c0 c1 : ByteArray) (c2 : Int) (c3 : Bool) : impl_cellOk.f c0 c1 c2 c3 = some (cellB ⟨c0, c1, c2, c3⟩) := by
  unfold impl_cellOk.f cellB
  have h (a : ByteArray) : impl_textOk.f a = some (decide (a.size ≤ 100)) := by
    show some (decide ((a.size : Int) ≤ 100)) = _
    congr 1; rw [Bool.eq_iff_iff]; simp; omega
  rw [h, h, within_f]
  by_cases h0 : c0.size ≤ 100 <;> by_cases h1 : c1.size ≤ 100 <;> cases c3 <;> by_cases h2 : c1.toList = ([] : List UInt8) <;> simp [h0, h1, h2]
theorem call_cellOk (c0 c1 : ByteArray) (c2 : Int) (c3 : Bool) (r : Bool) (w : World) (h : cellB ⟨c0, c1, c2, c3⟩ = r) :
    Calls Try.prog 59 #[.agg #[.string c0, .string c1, .int .i64 c2, .bool c3]] w fun e w' => e = .returned (.bool r) ∧ Below w.heap.size w w' :=
  impl_cellOk.calls c0 c1 c2 c3 r w (by rw [cellOk_f, h])
theorem elemC {w wr : World} {A : Option Addr} {x : List Cel} (h : Kd.C k48 w A x.length x) (hb : Below w.heap.size w wr) {j : Nat} {c0 c1 : ByteArray} {c2 : Int} {c3 : Bool} (hj : j < x.length) (he : x[j] = ⟨c0, c1, c2, c3⟩) :
    ∃ ad, A = some ad ∧ wr.cell? (ad.add (j * 4)) = some (.string c0) ∧ wr.cell? ⟨(ad.add (j * 4)).block, (ad.add (j * 4)).off + 1, none⟩ = some (.string c1) ∧ wr.cell? ⟨(ad.add (j * 4)).block, (ad.add (j * 4)).off + 2, none⟩ = some (.int .i64 c2) ∧ wr.cell? ⟨(ad.add (j * 4)).block, (ad.add (j * 4)).off + 3, none⟩ = some (.bool c3) := by
  obtain ⟨ad, e, h0, h1, h2, h3⟩ := at_T48 h (j : Int) (by omega) (by omega)
  rw [show rd_T48 x (j : Int) = ⟨c0, c1, c2, c3⟩ from by rw [← he]; simp [rd_T48, hj]] at h0 h1 h2 h3
  exact ⟨ad, e, by simpa using up1 hb h0, by simpa using up1 hb h1, by simpa using up1 hb h2, by simpa using up1 hb h3⟩
end Go.Proofs.Ythffllegmkolgaa.TreeK
