/- What the program's TreeOk calls: cellOk, cellOrder, a set in a map, a row of rows. -/
import Derived.Test.YthffllegmkolgaaT10TreePure
import Derived.Test.YthffllegmkolgaaT10QTreex8
namespace Go.Proofs.Ythffllegmkolgaa.TreeK
open Go.RowKit Go.Proofs.YthffllegmkolgaaW.PrintWords Go.Proofs.YthffllegmkolgaaW.PrintLast Go.Proofs.YthffllegmkolgaaW.PrintMore Go.Proofs.Ythffllegmkolgaa.QTree
theorem bel {w w1 w2 : World} (h : Below w.heap.size w w1) (h2 : Below w1.heap.size w1 w2) : Below w.heap.size w w2 := h.trans (h2.mono h.size)
theorem bel_alloc (w : World) (o : Obj) : Below w.heap.size w (w.alloc o) := below_alloc (Below.refl _ _) o
theorem cell_lt {w : World} {a : Addr} {v : Value} (h : w.cell? a = some v) : a.block < w.heap.size := by
  rcases Nat.lt_or_ge a.block w.heap.size with h1 | h1
  · exact h1
  · exfalso
    have : w.heap[a.block]? = none := Array.getElem?_eq_none h1
    unfold World.cell? at h
    simp [this] at h
theorem up1 {w w' : World} {a : Addr} {v : Value} (hb : Below w.heap.size w w') (h : w.cell? a = some v) : w'.cell? a = some v := (hb.cell (cell_lt h)).trans h
def At (w : World) (g i : Nat) (v : Value) : Prop := g < w.heap.size ∧ w.cell? ⟨g, i, none⟩ = some v
theorem At.below {w w' : World} {g i : Nat} {v : Value} (h : At w g i v) (hb : Below w.heap.size w w') : At w' g i v := ⟨Nat.lt_of_lt_of_le h.1 hb.size, (hb.cell h.1).trans h.2⟩
theorem At.drewN {w : World} {g i : Nat} {v : Value} (h : At w g i v) (n : Nat) : At (w.drewN n) g i v := h
theorem At.of {w : World} {g i : Nat} {v : Value} {cs : Array Value} {t : TypeId} (h : w.heap[g]? = some (.cells cs t (0, 0))) (hc : cs[i]? = some v) : At w g i v := ⟨blk_lt h, (blk_cell h i).trans hc⟩
theorem within_f (a b c : Int) : impl_within.f a b c = some (decide (b ≤ a ∧ a ≤ c)) := by
  unfold impl_within.f
  by_cases h : a ≥ b
  · rw [if_pos h]; simp [show b ≤ a from h]
  · rw [if_neg h]; simp [show ¬ b ≤ a from h]
theorem call_within (a b c : Int) (r : Bool) (W : World) (h : decide (b ≤ a ∧ a ≤ c) = r) : Calls Try.prog 58 #[.int .i64 a, .int .i64 b, .int .i64 c] W fun e w' => e = .returned (.bool r) ∧ Drawn0 W w' :=
  impl_within.calls a b c r W (by rw [within_f, h])
theorem cellOk_f (c0 c1 : ByteArray) (c2 : Int) (c3 : Bool) : impl_cellOk.f c0 c1 c2 c3 = some (cellB ⟨c0, c1, c2, c3⟩) := by
  unfold impl_cellOk.f cellB
  have h (a : ByteArray) : impl_textOk.f a = some (decide (a.size ≤ 100)) := by
    show some (decide ((a.size : Int) ≤ 100)) = _
    congr 1; rw [Bool.eq_iff_iff]; simp; omega
  rw [h, h, within_f]
  by_cases h0 : c0.size ≤ 100 <;> by_cases h1 : c1.size ≤ 100 <;> cases c3 <;> by_cases h2 : c1.toList = ([] : List UInt8) <;> simp [h0, h1, h2]
theorem call_cellOk (c0 c1 : ByteArray) (c2 : Int) (c3 : Bool) (r : Bool) (w : World) (h : cellB ⟨c0, c1, c2, c3⟩ = r) :
    Calls Try.prog 59 #[.agg #[.string c0, .string c1, .int .i64 c2, .bool c3]] w fun e w' => e = .returned (.bool r) ∧ Below w.heap.size w w' :=
  impl_cellOk.calls c0 c1 c2 c3 r w (by rw [cellOk_f, h])
set_option maxHeartbeats 1600000 in
theorem call_order (a0 a1 : ByteArray) (a2 : Int) (a3 : Bool) (b0 b1 : ByteArray) (b2 : Int) (b3 : Bool) (r : Int) (w : World) (h : ordI ⟨a0, a1, a2, a3⟩ ⟨b0, b1, b2, b3⟩ = r) (ha : 1 ≤ a2 ∧ a2 ≤ 400) (hb : 1 ≤ b2 ∧ b2 ≤ 400) :
    Calls Try.prog 60 #[.agg #[.string a0, .string a1, .int .i64 a2, .bool a3], .agg #[.string b0, .string b1, .int .i64 b2, .bool b3]] w fun e w' => e = .returned (.int .i64 r) ∧ Below w.heap.size w w' := by
  have HO : Aside0 (r = if Lib.compareBytes a0.data.toList b0.data.toList = 0 then b2 - a2 else Lib.compareBytes a0.data.toList b0.data.toList) := ⟨h.symm⟩
  clear h
  obtain ⟨k, hk⟩ : ∃ k : Int, Lib.compareBytes a0.data.toList b0.data.toList = k := ⟨_, rfl⟩
  rw [hk] at HO
  have wr1 : wrap64 (b2 - a2) = b2 - a2 := by unfold wrap64; omega
  go_enter Try.func60, Try.ntmps60
  have HB : Aside0 (Below w.heap.size w ((w.alloc (.cells #[.string a0, .string a1, .int .i64 a2, .bool a3] 48)).alloc (.cells #[.string b0, .string b1, .int .i64 b2, .bool b3] 48))) := ⟨bel (bel_alloc _ _) (bel_alloc _ _)⟩
  by_cases h0 : k = 0
  · have HF : Aside0 (r = b2 - a2) := ⟨HO.out.trans (if_pos h0)⟩
    clear HO
    subst h0
    go_wp2_with (go_at_call 98; refine (stringsCompare _ _ _).mono ?_; rintro e w' ⟨rfl, rfl⟩; rw [hk])
    go_ret
    exact ⟨by rw [HF.out]; rfl, by repeat (first | (with_reducible exact HB.out) | apply pw_below_drewN)⟩
  · have HF : Aside0 (r = k) := ⟨HO.out.trans (if_neg h0)⟩
    clear HO
    go_wp2_with (go_at_call 98; refine (stringsCompare _ _ _).mono ?_; rintro e w' ⟨rfl, rfl⟩; rw [hk])
    go_ret
    exact ⟨by rw [HF.out]; rfl, by repeat (first | (with_reducible exact HB.out) | apply pw_below_drewN)⟩
theorem set_store {ops : Array Oper} {rest : List Oper} {o : Oper} {a : Act} {Q : Exit → Act → World → Prop} {w : World} (hg : o.guard = none) (m x v : Operand) (hop : o.op = Op.mapUpdate 76 m x v) (b : Nat) (S : List Int) (hm : a.eval m = .map (some b)) (hS : SetM w b S) (hn : S.length < maxLen) (i : Int) (hi : (Lit.int .i64 i).wf = true) (hx : a.eval x = .int .i64 i) (hv : a.eval v = .bool true)
    (hK : ∀ w', SetM w' b (i :: S) → w.grownBy w' (some b) → wpList Try.prog ops Q rest (a.put o.dst undef) w') : wpList Try.prog ops Q (o :: rest) a w := by
  obtain ⟨D, h, h2⟩ := hS
  refine wpList_mapUpdate_own w hg m x v 76 hop 3 4 (Maps.int_keyed Try.underlying3) Try.underlying76 _ b S.length D hm h hn _ _ (.int .i64 i) hx hv (Maps.keyOf_int_mk Try.underlying3 hi) (.lit (.bool true)) [] (plainElem_bool Try.underlying4 true) (fun w' h' hgr => hK w' ⟨_, h', fun k hk => ?_⟩ hgr)
  by_cases e : k = i
  · subst e
    rw [Maps.atKey_put_same h.isMap (by exact trivial)]
    simp
  · rw [Maps.atKey_put_other (fun h => e (by injection h)), h2 k hk]
    simp [e]
def kfs (w0 : World) : Kd (List Cel) where
  sz := 1
  E := []
  K := fun _ x cs => (Kd.slice 48 k48).K w0 x cs
  M := fun _ _ _ x cs => (Kd.slice 48 k48).K w0 x cs
  K_len := fun h => (Kd.slice 48 k48).K_len h
  K_one := fun h => (Kd.slice 48 k48).K_one h
  K_below := fun _ h => h
  K_of_M := fun h => h
  M_mono := fun _ h => h
  M_bound := fun h => h
  M_move := fun _ h => h
  M_lower := fun _ h => h
theorem kfs_one {w0 W W' : World} {base : Nat} {ok : Nat → Prop} {A : Option Addr} {c : Nat} {x : List Cel} (h : W'.heap[W.heap.size]? = some (.cells #[.slice A x.length c] 28 (0, 0))) (hb : base ≤ W.heap.size) (ho : ok W.heap.size) (hl : x.length ≤ c) (hC : k48.C w0 A x.length x) : (kfs w0).R 28 W' base ok (.slice (some ⟨W.heap.size, 0, none⟩) 1 1) [x] :=
  ⟨fun k hk => by simp [Value.ownBlock] at hk; subst hk; exact ho, [.slice A x.length c], ⟨rfl, .inr ⟨_, 1, #[.slice A x.length c], rfl, hb, h, Nat.le_refl _, by decide, rfl, rfl⟩⟩, rfl, fun j p hj => by
    match j, hj with
    | 0, hj => obtain rfl : x = p := by simpa using hj
               exact ⟨A, c, rfl, hl, hC⟩
    | j + 1, hj => simp at hj⟩
theorem elemL {w0 w : World} {A : Option Addr} {n : Nat} {xs : List (List Cel)} (h : (kfs w0).C w A n xs) {j : Nat} {y : List Cel} (hj : j < xs.length) (he : xs[j] = y) :
    ∃ ad A6 c6, A = some ad ∧ w.cell? (ad.add j) = some (.slice A6 y.length c6) ∧ y.length ≤ c6 ∧ k48.C w0 A6 y.length y := by
  have hn : xs.length = n := h.1
  obtain ⟨ad, e, hc⟩ := h.2.2 (by omega)
  obtain ⟨c, hs, hr, hcell⟩ := hc j y (by rw [List.getElem?_eq_getElem hj, he])
  obtain ⟨A6, c6, rfl, hl, hC⟩ := hr
  exact ⟨ad, A6, c6, e, by have hq := hcell 0 _ rfl; rwa [show (kfs w0).sz = 1 from rfl, Nat.mul_one, Nat.add_zero] at hq, hl, hC⟩
theorem elemC {w wr : World} {A : Option Addr} {x : List Cel} (h : Kd.C k48 w A x.length x) (hb : Below w.heap.size w wr) {j : Nat} {c0 c1 : ByteArray} {c2 : Int} {c3 : Bool} (hj : j < x.length) (he : x[j] = ⟨c0, c1, c2, c3⟩) :
    ∃ ad, A = some ad ∧ wr.cell? (ad.add (j * 4)) = some (.string c0) ∧ wr.cell? ⟨(ad.add (j * 4)).block, (ad.add (j * 4)).off + 1, none⟩ = some (.string c1) ∧ wr.cell? ⟨(ad.add (j * 4)).block, (ad.add (j * 4)).off + 2, none⟩ = some (.int .i64 c2) ∧ wr.cell? ⟨(ad.add (j * 4)).block, (ad.add (j * 4)).off + 3, none⟩ = some (.bool c3) := by
  obtain ⟨ad, e, h0, h1, h2, h3⟩ := at_T48 h (j : Int) (by omega) (by omega)
  rw [show rd_T48 x (j : Int) = ⟨c0, c1, c2, c3⟩ from by rw [← he]; simp [rd_T48, hj]] at h0 h1 h2 h3
  exact ⟨ad, e, by simpa using up1 hb h0, by simpa using up1 hb h1, by simpa using up1 hb h2, by simpa using up1 hb h3⟩
end Go.Proofs.Ythffllegmkolgaa.TreeK
