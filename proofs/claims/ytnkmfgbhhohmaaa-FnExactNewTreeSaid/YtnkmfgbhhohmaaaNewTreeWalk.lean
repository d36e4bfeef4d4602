/- The law FnExactNewTree, called with any number: it returns true and nothing that was there has changed. -/
import Derived.Test.YtnkmfgbhhohmaaaQFnExactNewTreex4
import Derived.Test.YtnkmfgbhhohmaaaEv
namespace Go.Proofs.Ytnkmfgbhhohmaaa.NewTree
open Go.RowKit Go.Proofs.YtnkmfgbhhohmaaaW.PrintWords Go.Proofs.YtnkmfgbhhohmaaaW.PrintLast Go.Proofs.YtnkmfgbhhohmaaaW.PrintMore Go.Proofs.Ytnkmfgbhhohmaaa.QFnExactNewTree

def mostOf (a : Int) : Int := if 1 ≤ a ∧ a ≤ 50 then a else 0
theorem spec_f (a : Int) : spec_NewTree.f a = some ([], [], 0, mostOf a) := by
  unfold spec_NewTree.f spec_l1In.f mostOf
  by_cases h : a ≥ 1 <;> by_cases h2 : a ≤ 50 <;> simp [h, h2]
theorem impl_f (a : Int) : impl_NewTree.f a = some ([], [], 0, mostOf a) := by
  unfold impl_NewTree.f impl_within.f mostOf
  by_cases h : a ≥ 1 <;> by_cases h2 : a ≤ 50 <;> simp [h, h2]
theorem eq_f (a : Int) : laws_eqTree.f 1 [] [] 0 a [] [] 0 a = some true := by
  unfold laws_eqTree.f laws_eqCellS.f laws_eqCellSS.f
  simp [laws_eqCellS.l0, laws_eqCellSS.l0]
theorem held_f (a b k : Int) (hk : 0 ≤ k) : laws_heldTree.f 1 [] [] a b k = some k := by
  unfold laws_heldTree.f laws_heldCellS.f laws_heldCellSS.f
  simp [laws_heldCellS.l0, laws_heldCellSS.l0, show ¬ k < 0 from by omega]

theorem nilC {α : Type} (d : Kd α) (w : World) (A : Option Addr) : d.C w A ([] : List α).length [] := ⟨rfl, by simp, fun h => absurd h (Nat.lt_irrefl _)⟩

set_option maxHeartbeats 400000 in
theorem markSS_nil (A : Option Addr) (c : Nat) (k : Int) (w : World) : Calls Try.prog 32 #[.slice A 0 c, .int .i64 k] w fun e w' => e = .returned (.int .i64 k) ∧ Drawn0 w w' := by
  go_enter Try.func32, Try.ntmps32
  go_wp2
  go_loopg [1, 5] 0 (fun kq v1 v5 w' => v1 = .int .i64 k ∧ v5 = .int .i64 0 ∧ Drawn0 w w')
  case atStart => exact ⟨rfl, rfl, Drawn0.refl _⟩
  case round =>
    obtain ⟨rfl, rfl, ⟨m, rfl⟩⟩ := hrel
    go_wp2
    go_ret
    exact ⟨rfl, by repeat (first | exact Drawn0.refl _ | apply Drawn0.step)⟩
set_option maxHeartbeats 400000 in
theorem markS_nil (A : Option Addr) (c : Nat) (k : Int) (w : World) : Calls Try.prog 31 #[.slice A 0 c, .int .i64 k] w fun e w' => e = .returned (.int .i64 k) ∧ Drawn0 w w' := by
  go_enter Try.func31, Try.ntmps31
  go_wp2
  go_loopg [1, 5] 0 (fun kq v1 v5 w' => v1 = .int .i64 k ∧ v5 = .int .i64 0 ∧ Drawn0 w w')
  case atStart => exact ⟨rfl, rfl, Drawn0.refl _⟩
  case round =>
    obtain ⟨rfl, rfl, ⟨m, rfl⟩⟩ := hrel
    go_wp2
    go_ret
    exact ⟨rfl, by repeat (first | exact Drawn0.refl _ | apply Drawn0.step)⟩
set_option maxHeartbeats 400000 in
theorem markTree_nil (A B : Option Addr) (c d : Nat) (a b k : Int) (w : World) : Calls Try.prog 14 #[.agg #[.slice A 0 c, .slice B 0 d, .int .i64 a, .int .i64 b], .int .i64 k] w fun e w' => e = .returned (.int .i64 k) ∧ Below w.heap.size w w' := by
  go_enter Try.func14, Try.ntmps14
  go_wp2_with (first | (go_at_call 31; refine (markS_nil _ _ _ _).mono ?_; rintro e w' ⟨rfl, ⟨_, rfl⟩⟩) | (go_at_call 32; refine (markSS_nil _ _ _ _).mono ?_; rintro e w' ⟨rfl, ⟨_, rfl⟩⟩))
  go_ret
  refine ⟨rfl, ?_⟩
  repeat (first | exact Below.refl _ _ | apply below_alloc | apply pw_below_drewN | apply below_drew1)

/-- What NewTree hands back, as the law's helpers take it. -/
theorem newTree_spec (a : Int) (w : World) : Calls Try.prog 11 #[.int .i64 a] w fun e w' => ∃ (A B : Option Addr) (c d : Nat), e = .returned (.agg #[.slice A 0 c, .slice B 0 d, .int .i64 0, .int .i64 (mostOf a)]) ∧ Below w.heap.size w w' := by
  refine (spec_NewTree.calls a _ _ _ _ w (spec_f a)).mono ?_
  rintro e w' ⟨v0, v1, rfl, h0, h1, hb⟩
  obtain ⟨A, c, rfl⟩ := Kd.R_slice h0
  obtain ⟨B, d, rfl⟩ := Kd.S_slice h1
  exact ⟨A, B, c, d, rfl, hb⟩
theorem newTree_impl (a : Int) (w : World) : Calls Try.prog 12 #[.int .i64 a] w fun e w' => ∃ (A B : Option Addr) (c d : Nat), e = .returned (.agg #[.slice A 0 c, .slice B 0 d, .int .i64 0, .int .i64 (mostOf a)]) ∧ Below w.heap.size w w' := by
  refine (impl_NewTree.calls a _ _ _ _ w (impl_f a)).mono ?_
  rintro e w' ⟨v0, v1, rfl, h0, h1, hb⟩
  obtain ⟨A, c, rfl⟩ := Kd.R_slice h0
  obtain ⟨B, d, rfl⟩ := Kd.S_slice h1
  exact ⟨A, B, c, d, rfl, hb⟩
theorem eqTree_nil (A B A' B' : Option Addr) (c d c' d' : Nat) (m : Int) (w : World) : Calls Try.prog 13 #[.agg #[.slice A 0 c, .slice B 0 d, .int .i64 0, .int .i64 m], .agg #[.slice A' 0 c', .slice B' 0 d', .int .i64 0, .int .i64 m]] w fun e w' => e = .returned (.bool true) ∧ Below w.heap.size w w' :=
  laws_eqTree.calls 1 A c [] B d [] 0 m A' c' [] B' d' [] 0 m true w (nilC _ _ _) (Nat.zero_le _) (nilC _ _ _) (Nat.zero_le _) (nilC _ _ _) (Nat.zero_le _) (nilC _ _ _) (Nat.zero_le _) (eq_f m)
theorem heldTree_nil (A B : Option Addr) (c d : Nat) (m : Int) (w : World) : Calls Try.prog 15 #[.agg #[.slice A 0 c, .slice B 0 d, .int .i64 0, .int .i64 m], .int .i64 1] w fun e w' => e = .returned (.int .i64 1) ∧ Below w.heap.size w w' :=
  laws_heldTree.calls 1 A c [] B d [] 0 m 1 1 w (nilC _ _ _) (Nat.zero_le _) (nilC _ _ _) (Nat.zero_le _) (held_f _ _ _ (by omega))

theorem bel {w w1 w2 : World} (h : Below w.heap.size w w1) (h2 : Below w1.heap.size w1 w2) : Below w.heap.size w w2 := h.trans (h2.mono h.size)

/-- A variable of four cells in memory. -/
def Box (w : World) (g : Nat) (a b c d : Value) : Prop := g < w.heap.size ∧ w.cell? ⟨g, 0, none⟩ = some a ∧ w.cell? ⟨g, 1, none⟩ = some b ∧ w.cell? ⟨g, 2, none⟩ = some c ∧ w.cell? ⟨g, 3, none⟩ = some d
theorem box_new (w : World) (a b c d : Value) (t : TypeId) : Box (w.alloc (.cells #[a, b, c, d] t)) w.heap.size a b c d := by
  refine ⟨by simp, ?_, ?_, ?_, ?_⟩ <;> go_simp
theorem Box.below {w w' : World} {g : Nat} {a b c d : Value} (h : Box w g a b c d) (hb : Below w.heap.size w w') : Box w' g a b c d := by
  obtain ⟨h0, h1, h2, h3, h4⟩ := h
  exact ⟨Nat.lt_of_lt_of_le h0 hb.size, (hb.cell h0).trans h1, (hb.cell h0).trans h2, (hb.cell h0).trans h3, (hb.cell h0).trans h4⟩
theorem bel_alloc (w : World) (o : Obj) : Below w.heap.size w (w.alloc o) := below_alloc (Below.refl _ _) o

set_option maxHeartbeats 1600000 in
theorem law (a : Int) (w : World) : Calls Try.prog 4 #[.int .i64 a] w fun e w' => e = .returned (.bool true) ∧ Below w.heap.size w w' := by
  go_enter Try.func4, Try.ntmps4
  have HB := Aside0.mk (Below.refl w.heap.size w)
  go_wp2_with fail
  refine (newTree_spec _ _).mono ?_
  rintro e w1 ⟨A1, B1, c1, d1, rfl, hb⟩
  replace HB := Aside0.mk (bel HB.out hb)
  clear hb
  go_wp2_with fail
  have X1 := Aside0.mk (box_new w1 (.slice A1 0 c1) (.slice B1 0 d1) (.int .i64 0) (.int .i64 (mostOf a)) 36)
  replace HB := Aside0.mk (bel HB.out (bel_alloc w1 (.cells #[.slice A1 0 c1, .slice B1 0 d1, .int .i64 0, .int .i64 (mostOf a)] 36)))
  generalize w1.alloc (.cells #[.slice A1 0 c1, .slice B1 0 d1, .int .i64 0, .int .i64 (mostOf a)] 36) = W1 at *
  generalize w1.heap.size = g1 at *
  clear w1
  refine (newTree_impl _ _).mono ?_
  rintro e w2 ⟨A2, B2, c2, d2, rfl, hb⟩
  replace X1 := Aside0.mk (X1.out.below hb)
  replace HB := Aside0.mk (bel HB.out hb)
  clear hb
  obtain ⟨lt1, x10, x11, x12, x13⟩ := X1.out
  go_wp2_with fail
  clear lt1 x10 x11 x12 x13
  replace X1 := Aside0.mk (X1.out.below (bel_alloc w2 (.cells #[.slice A2 0 c2, .slice B2 0 d2, .int .i64 0, .int .i64 (mostOf a)] 36)))
  have X2 := Aside0.mk (box_new w2 (.slice A2 0 c2) (.slice B2 0 d2) (.int .i64 0) (.int .i64 (mostOf a)) 36)
  replace HB := Aside0.mk (bel HB.out (bel_alloc w2 (.cells #[.slice A2 0 c2, .slice B2 0 d2, .int .i64 0, .int .i64 (mostOf a)] 36)))
  generalize w2.alloc (.cells #[.slice A2 0 c2, .slice B2 0 d2, .int .i64 0, .int .i64 (mostOf a)] 36) = W2 at *
  generalize w2.heap.size = g2 at *
  clear w2
  refine (eqTree_nil _ _ _ _ _ _ _ _ _ _).mono ?_
  rintro e w3 ⟨rfl, hb⟩
  replace X1 := Aside0.mk (X1.out.below hb)
  replace X2 := Aside0.mk (X2.out.below hb)
  replace HB := Aside0.mk (bel HB.out hb)
  clear hb
  obtain ⟨lt1, x10, x11, x12, x13⟩ := X1.out
  obtain ⟨lt2, x20, x21, x22, x23⟩ := X2.out
  go_wp2_with fail
  clear lt1 x10 x11 x12 x13 lt2 x20 x21 x22 x23
  refine (markTree_nil _ _ _ _ _ _ _ _).mono ?_
  rintro e w4 ⟨rfl, hb⟩
  replace X1 := Aside0.mk (X1.out.below hb)
  replace X2 := Aside0.mk (X2.out.below hb)
  replace HB := Aside0.mk (bel HB.out hb)
  clear hb
  obtain ⟨lt1, x10, x11, x12, x13⟩ := X1.out
  obtain ⟨lt2, x20, x21, x22, x23⟩ := X2.out
  go_wp2_with fail
  clear lt1 x10 x11 x12 x13 lt2 x20 x21 x22 x23
  refine (heldTree_nil _ _ _ _ _ _).mono ?_
  rintro e w5 ⟨rfl, hb⟩
  replace X1 := Aside0.mk (X1.out.below hb)
  replace X2 := Aside0.mk (X2.out.below hb)
  replace HB := Aside0.mk (bel HB.out hb)
  clear hb
  obtain ⟨lt1, x10, x11, x12, x13⟩ := X1.out
  obtain ⟨lt2, x20, x21, x22, x23⟩ := X2.out
  go_wp2_with fail
  clear lt1 x10 x11 x12 x13 lt2 x20 x21 x22 x23
  refine (newTree_impl _ _).mono ?_
  rintro e w6 ⟨A6, B6, c6, d6, rfl, hb⟩
  replace X1 := Aside0.mk (X1.out.below hb)
  replace X2 := Aside0.mk (X2.out.below hb)
  replace HB := Aside0.mk (bel HB.out hb)
  clear hb
  obtain ⟨lt1, x10, x11, x12, x13⟩ := X1.out
  obtain ⟨lt2, x20, x21, x22, x23⟩ := X2.out
  go_wp2_with fail
  clear lt1 x10 x11 x12 x13 lt2 x20 x21 x22 x23
  replace X1 := Aside0.mk (X1.out.below (bel_alloc w6 (.cells #[.slice A6 0 c6, .slice B6 0 d6, .int .i64 0, .int .i64 (mostOf a)] 36)))
  replace X2 := Aside0.mk (X2.out.below (bel_alloc w6 (.cells #[.slice A6 0 c6, .slice B6 0 d6, .int .i64 0, .int .i64 (mostOf a)] 36)))
  have X6 := Aside0.mk (box_new w6 (.slice A6 0 c6) (.slice B6 0 d6) (.int .i64 0) (.int .i64 (mostOf a)) 36)
  replace HB := Aside0.mk (bel HB.out (bel_alloc w6 (.cells #[.slice A6 0 c6, .slice B6 0 d6, .int .i64 0, .int .i64 (mostOf a)] 36)))
  generalize w6.alloc (.cells #[.slice A6 0 c6, .slice B6 0 d6, .int .i64 0, .int .i64 (mostOf a)] 36) = W6 at *
  generalize w6.heap.size = g6 at *
  clear w6
  refine (eqTree_nil _ _ _ _ _ _ _ _ _ _).mono ?_
  rintro e w7 ⟨rfl, hb⟩
  replace X1 := Aside0.mk (X1.out.below hb)
  replace X2 := Aside0.mk (X2.out.below hb)
  replace X6 := Aside0.mk (X6.out.below hb)
  replace HB := Aside0.mk (bel HB.out hb)
  clear hb
  obtain ⟨lt1, x10, x11, x12, x13⟩ := X1.out
  obtain ⟨lt2, x20, x21, x22, x23⟩ := X2.out
  obtain ⟨lt6, x60, x61, x62, x63⟩ := X6.out
  go_wp2_with fail
  clear lt1 x10 x11 x12 x13 lt2 x20 x21 x22 x23 lt6 x60 x61 x62 x63
  refine (heldTree_nil _ _ _ _ _ _).mono ?_
  rintro e w8 ⟨rfl, hb⟩
  replace X1 := Aside0.mk (X1.out.below hb)
  replace X2 := Aside0.mk (X2.out.below hb)
  replace X6 := Aside0.mk (X6.out.below hb)
  replace HB := Aside0.mk (bel HB.out hb)
  clear hb
  obtain ⟨lt1, x10, x11, x12, x13⟩ := X1.out
  obtain ⟨lt2, x20, x21, x22, x23⟩ := X2.out
  obtain ⟨lt6, x60, x61, x62, x63⟩ := X6.out
  go_wp2
  clear lt1 x10 x11 x12 x13 lt2 x20 x21 x22 x23 lt6 x60 x61 x62 x63
  go_ret
  exact ⟨rfl, HB.out⟩

theorem walk (W : World) (a : Int) (_ : (Lit.int .i64 a).wf = true) : Calls Try.prog 4 #[.int .i64 a] W fun e w' => e = .returned (.bool true) ∧ Below W.heap.size W w' := law a W

end Go.Proofs.Ytnkmfgbhhohmaaa.NewTree
