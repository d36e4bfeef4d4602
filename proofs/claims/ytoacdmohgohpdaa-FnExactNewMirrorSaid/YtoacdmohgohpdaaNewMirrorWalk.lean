/- The law FnExactNewMirror, called with any numbers: it returns true and nothing that was there has changed. -/
import Derived.Test.YtoacdmohgohpdaaQFnExactNewMirrorx5
import Derived.Test.YtoacdmohgohpdaaEv
namespace Go.Proofs.Ytoacdmohgohpdaa.NewMirror
open Go.RowKit Go.Proofs.YtoacdmohgohpdaaW.PrintWords Go.Proofs.YtoacdmohgohpdaaW.PrintLast Go.Proofs.YtoacdmohgohpdaaW.PrintMore Go.Proofs.Ytoacdmohgohpdaa.QFnExactNewMirror

/-- What both tell: next, start, roll as they came, or all 0. -/
def okB (n s r : Int) : Bool := decide ((0 ≤ n ∧ n ≤ 1000000000) ∧ (0 ≤ s ∧ s ≤ 1000000000) ∧ (1 ≤ r ∧ r ≤ 20000))
def s0 (n s r : Int) : Int := if okB n s r = true then s else 0
def r0 (n s r : Int) : Int := if okB n s r = true then r else 0
def n0 (n s r : Int) : Int := if okB n s r = true then n else 0
theorem in_f (a b c : Int) : spec_l1In.f a b c = some (decide (b ≤ a ∧ a ≤ c)) := by
  unfold spec_l1In.f
  by_cases h : a ≥ b
  · rw [if_pos h]; simp [show b ≤ a from h]
  · rw [if_neg h]; simp [show ¬ b ≤ a from h]
theorem within_f (a b c : Int) : impl_within.f a b c = some (decide (b ≤ a ∧ a ≤ c)) := by
  unfold impl_within.f
  by_cases h : a ≥ b
  · rw [if_pos h]; simp [show b ≤ a from h]
  · rw [if_neg h]; simp [show ¬ b ≤ a from h]
theorem offset_f (a : Int) : impl_offsetOk.f a = some (decide (0 ≤ a ∧ a ≤ 1000000000)) := by
  unfold impl_offsetOk.f
  by_cases h : a ≥ 0
  · rw [if_pos h]; simp [show 0 ≤ a from h]
  · rw [if_neg h]; simp [show ¬ 0 ≤ a from h]
def lB (s r : Int) : Bool := decide ((0 ≤ s ∧ s ≤ 1000000000) ∧ (1 ≤ r ∧ r ≤ 20000))
def ls (s r : Int) : Int := if lB s r = true then s else 0
def lr (s r : Int) : Int := if lB s r = true then r else 0
theorem log_f (s r : Int) : spec_NewLog.f s r = some (ls s r, ls s r, lr s r, []) := by
  unfold spec_NewLog.f ls lr lB
  simp only [in_f, Option.bind_some, decide_eq_true_eq]
  by_cases h2 : 0 ≤ s ∧ s ≤ 1000000000 <;> by_cases h3 : 1 ≤ r ∧ r ≤ 20000 <;> simp [h2, h3]
theorem impl_f (n s r : Int) : impl_NewMirror.f n s r = some (s0 n s r, s0 n s r, r0 n s r, [], n0 n s r, []) := by
  unfold impl_NewMirror.f impl_NewLog.f s0 r0 n0 okB
  simp only [offset_f, within_f, Option.bind_some, decide_eq_true_eq]
  by_cases h1 : 0 ≤ n ∧ n ≤ 1000000000 <;> by_cases h2 : 0 ≤ s ∧ s ≤ 1000000000 <;> by_cases h3 : 1 ≤ r ∧ r ≤ 20000 <;> simp [h1, h2, h3]
theorem eq_f (a b c d : Int) : laws_eqMirror.f 1 a b c [] d [] a b c [] d [] = some true := by
  unfold laws_eqMirror.f laws_eqLog.f laws_eqSegmentS.f laws_eqTwinS.f
  simp [laws_eqSegmentS.l0, laws_eqTwinS.l0]
theorem nilC {α : Type} (d : Kd α) (w : World) (A : Option Addr) : d.C w A ([] : List α).length [] := ⟨rfl, by simp, fun h => absurd h (Nat.lt_irrefl _)⟩
theorem bel {w w1 w2 : World} (h : Below w.heap.size w w1) (h2 : Below w1.heap.size w1 w2) : Below w.heap.size w w2 := h.trans (h2.mono h.size)
theorem bel_alloc (w : World) (o : Obj) : Below w.heap.size w (w.alloc o) := below_alloc (Below.refl _ _) o
/-- A variable of six cells in memory. -/
def Box (w : World) (g : Nat) (a b c d e f : Value) : Prop := g < w.heap.size ∧ w.cell? ⟨g, 0, none⟩ = some a ∧ w.cell? ⟨g, 1, none⟩ = some b ∧ w.cell? ⟨g, 2, none⟩ = some c ∧ w.cell? ⟨g, 3, none⟩ = some d ∧ w.cell? ⟨g, 4, none⟩ = some e ∧ w.cell? ⟨g, 5, none⟩ = some f
theorem box_new (w : World) (a b c d e f : Value) (t : TypeId) : Box (w.alloc (.cells #[a, b, c, d, e, f] t)) w.heap.size a b c d e f := by
  refine ⟨by simp, ?_, ?_, ?_, ?_, ?_, ?_⟩ <;> go_simp
theorem Box.below {w w' : World} {g : Nat} {a b c d e f : Value} (h : Box w g a b c d e f) (hb : Below w.heap.size w w') : Box w' g a b c d e f := by
  obtain ⟨h0, h1, h2, h3, h4, h5, h6⟩ := h
  exact ⟨Nat.lt_of_lt_of_le h0 hb.size, (hb.cell h0).trans h1, (hb.cell h0).trans h2, (hb.cell h0).trans h3, (hb.cell h0).trans h4, (hb.cell h0).trans h5, (hb.cell h0).trans h6⟩

set_option maxHeartbeats 400000 in
theorem markS_nil (A : Option Addr) (c : Nat) (k : Int) (w : World) : Calls Try.prog 106 #[.slice A 0 c, .int .i64 k] w fun e w' => e = .returned (.int .i64 k) ∧ Drawn0 w w' := by
  go_enter Try.func106, Try.ntmps106
  go_wp2
  go_loopg [1, 5] 0 (fun kq v1 v5 w' => v1 = .int .i64 k ∧ v5 = .int .i64 0 ∧ Drawn0 w w')
  case atStart => exact ⟨rfl, rfl, Drawn0.refl _⟩
  case round =>
    obtain ⟨rfl, rfl, ⟨m, rfl⟩⟩ := hrel
    go_wp2
    go_ret
    exact ⟨rfl, by repeat (first | exact Drawn0.refl _ | apply Drawn0.step)⟩
set_option maxHeartbeats 400000 in
theorem markT_nil (A : Option Addr) (c : Nat) (k : Int) (w : World) : Calls Try.prog 67 #[.slice A 0 c, .int .i64 k] w fun e w' => e = .returned (.int .i64 k) ∧ Drawn0 w w' := by
  go_enter Try.func67, Try.ntmps67
  go_wp2
  go_loopg [1, 5] 0 (fun kq v1 v5 w' => v1 = .int .i64 k ∧ v5 = .int .i64 0 ∧ Drawn0 w w')
  case atStart => exact ⟨rfl, rfl, Drawn0.refl _⟩
  case round =>
    obtain ⟨rfl, rfl, ⟨m, rfl⟩⟩ := hrel
    go_wp2
    go_ret
    exact ⟨rfl, by repeat (first | exact Drawn0.refl _ | apply Drawn0.step)⟩
set_option maxHeartbeats 400000 in
theorem heldS_nil (A : Option Addr) (c : Nat) (k : Int) (w : World) : Calls Try.prog 107 #[.slice A 0 c, .int .i64 k] w fun e w' => e = .returned (.int .i64 k) ∧ Drawn0 w w' := by
  go_enter Try.func107, Try.ntmps107
  go_wp2
  go_loopg [1, 5] 0 (fun kq v1 v5 w' => v1 = .int .i64 k ∧ v5 = .int .i64 0 ∧ Drawn0 w w')
  case atStart => exact ⟨rfl, rfl, Drawn0.refl _⟩
  case round =>
    obtain ⟨rfl, rfl, ⟨m, rfl⟩⟩ := hrel
    go_wp2
    go_ret
    exact ⟨rfl, by repeat (first | exact Drawn0.refl _ | apply Drawn0.step)⟩
set_option maxHeartbeats 400000 in
theorem heldT_nil (A : Option Addr) (c : Nat) (k : Int) (w : World) : Calls Try.prog 69 #[.slice A 0 c, .int .i64 k] w fun e w' => e = .returned (.int .i64 k) ∧ Drawn0 w w' := by
  go_enter Try.func69, Try.ntmps69
  go_wp2
  go_loopg [1, 5] 0 (fun kq v1 v5 w' => v1 = .int .i64 k ∧ v5 = .int .i64 0 ∧ Drawn0 w w')
  case atStart => exact ⟨rfl, rfl, Drawn0.refl _⟩
  case round =>
    obtain ⟨rfl, rfl, ⟨m, rfl⟩⟩ := hrel
    go_wp2
    go_ret
    exact ⟨rfl, by repeat (first | exact Drawn0.refl _ | apply Drawn0.step)⟩
set_option maxHeartbeats 400000 in
theorem markLog_nil (A : Option Addr) (c : Nat) (x y z k : Int) (w : World) : Calls Try.prog 66 #[.agg #[.int .i64 x, .int .i64 y, .int .i64 z, .slice A 0 c], .int .i64 k] w fun e w' => e = .returned (.int .i64 k) ∧ Below w.heap.size w w' := by
  go_enter Try.func66, Try.ntmps66
  go_wp2_with (go_at_call 106; refine (markS_nil _ _ _ _).mono ?_; rintro e w' ⟨rfl, ⟨_, rfl⟩⟩)
  go_ret
  refine ⟨rfl, ?_⟩
  repeat (first | exact Below.refl _ _ | apply below_alloc | apply pw_below_drewN | apply below_drew1)
set_option maxHeartbeats 400000 in
theorem markMirror_nil (A B : Option Addr) (c d : Nat) (x y z n k : Int) (w : World) : Calls Try.prog 21 #[.agg #[.int .i64 x, .int .i64 y, .int .i64 z, .slice A 0 c, .int .i64 n, .slice B 0 d], .int .i64 k] w fun e w' => e = .returned (.int .i64 k) ∧ Below w.heap.size w w' := by
  go_enter Try.func21, Try.ntmps21
  go_wp2_with fail
  have X := Aside0.mk (box_new w (.int .i64 x) (.int .i64 y) (.int .i64 z) (.slice A 0 c) (.int .i64 n) (.slice B 0 d) 39)
  have HB := Aside0.mk (bel_alloc w (.cells #[.int .i64 x, .int .i64 y, .int .i64 z, .slice A 0 c, .int .i64 n, .slice B 0 d] 39))
  generalize w.alloc (.cells #[.int .i64 x, .int .i64 y, .int .i64 z, .slice A 0 c, .int .i64 n, .slice B 0 d] 39) = W at *
  generalize hgg : w.heap.size = g at *
  refine (markLog_nil _ _ _ _ _ _ _).mono ?_
  rintro e w1 ⟨rfl, hb⟩
  replace X := Aside0.mk (X.out.below hb)
  have HB1 := Aside0.mk (Below.trans HB.out (hb.mono (by rw [← hgg]; exact HB.out.size)))
  clear hb HB
  obtain ⟨lt, x0, x1, x2, x3, x4, x5⟩ := X.out
  go_wp2_with (go_at_call 67; refine (markT_nil _ _ _ _).mono ?_; rintro e w' ⟨rfl, ⟨_, rfl⟩⟩)
  go_ret
  exact ⟨rfl, by rw [hgg]; exact pw_below_drewN HB1.out _⟩
set_option maxHeartbeats 400000 in
theorem heldLog_nil (A : Option Addr) (c : Nat) (x y z : Int) (w : World) : Calls Try.prog 68 #[.agg #[.int .i64 x, .int .i64 y, .int .i64 z, .slice A 0 c], .int .i64 1] w fun e w' => e = .returned (.int .i64 1) ∧ Below w.heap.size w w' := by
  go_enter Try.func68, Try.ntmps68
  go_wp2_with (go_at_call 107; refine (heldS_nil _ _ _ _).mono ?_; rintro e w' ⟨rfl, ⟨_, rfl⟩⟩)
  go_ret
  refine ⟨rfl, ?_⟩
  repeat (first | exact Below.refl _ _ | apply below_alloc | apply pw_below_drewN | apply below_drew1)
set_option maxHeartbeats 400000 in
theorem held_nil (A B : Option Addr) (c d : Nat) (x y z n : Int) (w : World) : Calls Try.prog 22 #[.agg #[.int .i64 x, .int .i64 y, .int .i64 z, .slice A 0 c, .int .i64 n, .slice B 0 d], .int .i64 1] w fun e w' => e = .returned (.int .i64 1) ∧ Below w.heap.size w w' := by
  go_enter Try.func22, Try.ntmps22
  go_wp2_with fail
  have X := Aside0.mk (box_new w (.int .i64 x) (.int .i64 y) (.int .i64 z) (.slice A 0 c) (.int .i64 n) (.slice B 0 d) 39)
  have HB := Aside0.mk (bel_alloc w (.cells #[.int .i64 x, .int .i64 y, .int .i64 z, .slice A 0 c, .int .i64 n, .slice B 0 d] 39))
  generalize w.alloc (.cells #[.int .i64 x, .int .i64 y, .int .i64 z, .slice A 0 c, .int .i64 n, .slice B 0 d] 39) = W at *
  generalize hgg : w.heap.size = g at *
  refine (heldLog_nil _ _ _ _ _ _).mono ?_
  rintro e w1 ⟨rfl, hb⟩
  replace X := Aside0.mk (X.out.below hb)
  have HB1 := Aside0.mk (Below.trans HB.out (hb.mono (by rw [← hgg]; exact HB.out.size)))
  clear hb HB
  obtain ⟨lt, x0, x1, x2, x3, x4, x5⟩ := X.out
  go_wp2_with (go_at_call 69; refine (heldT_nil _ _ _ _).mono ?_; rintro e w' ⟨rfl, ⟨_, rfl⟩⟩)
  go_ret
  exact ⟨rfl, by rw [hgg]; exact pw_below_drewN HB1.out _⟩
theorem new_impl (n s r : Int) (w : World) : Calls Try.prog 19 #[.int .i64 n, .int .i64 s, .int .i64 r] w fun e w' => ∃ (A B : Option Addr) (c d : Nat), e = .returned (.agg #[.int .i64 (s0 n s r), .int .i64 (s0 n s r), .int .i64 (r0 n s r), .slice A 0 c, .int .i64 (n0 n s r), .slice B 0 d]) ∧ Below w.heap.size w w' := by
  refine (impl_NewMirror.calls n s r _ _ _ _ _ _ w (impl_f n s r)).mono ?_
  rintro e w' ⟨v0, v1, rfl, h0, h1, hb⟩
  obtain ⟨A, c, rfl⟩ := Kd.R_slice h0
  obtain ⟨B, d, rfl⟩ := Kd.R_slice h1
  exact ⟨A, B, c, d, rfl, hb⟩
theorem new_log (s r : Int) (w : World) : Calls Try.prog 61 #[.int .i64 s, .int .i64 r] w fun e w' => ∃ (A : Option Addr) (c : Nat), e = .returned (.agg #[.int .i64 (ls s r), .int .i64 (ls s r), .int .i64 (lr s r), .slice A 0 c]) ∧ Below w.heap.size w w' := by
  refine (spec_NewLog.calls s r _ _ _ _ w (log_f s r)).mono ?_
  rintro e w' ⟨v0, rfl, h0, hb⟩
  obtain ⟨A, c, rfl⟩ := Kd.R_slice h0
  exact ⟨A, c, rfl, hb⟩
theorem call_in (a b c : Int) (r : Bool) (W : World) (h : decide (b ≤ a ∧ a ≤ c) = r) : Calls Try.prog 54 #[.int .i64 a, .int .i64 b, .int .i64 c] W fun e w' => e = .returned (.bool r) ∧ Drawn0 W w' :=
  spec_l1In.calls a b c r W (by rw [in_f, h])
set_option maxHeartbeats 800000 in
theorem new_spec (n s r : Int) (w : World) : Calls Try.prog 18 #[.int .i64 n, .int .i64 s, .int .i64 r] w fun e w' => ∃ (A B : Option Addr) (c d : Nat), e = .returned (.agg #[.int .i64 (s0 n s r), .int .i64 (s0 n s r), .int .i64 (r0 n s r), .slice A 0 c, .int .i64 (n0 n s r), .slice B 0 d]) ∧ Below w.heap.size w w' := by
  have hcase : (decide (0 ≤ n ∧ n ≤ 1000000000) = false) ∨ (decide (0 ≤ n ∧ n ≤ 1000000000) = true ∧ lB s r = false) ∨ (decide (0 ≤ n ∧ n ≤ 1000000000) = true ∧ lB s r = true) := by
    cases decide (0 ≤ n ∧ n ≤ 1000000000) <;> cases lB s r <;> simp
  rcases hcase with h1 | ⟨h1, h2⟩ | ⟨h1, h2⟩
  · have e1 : s0 n s r = 0 ∧ r0 n s r = 0 ∧ n0 n s r = 0 := by
      have : okB n s r = false := by unfold okB; simp at h1 ⊢; omega
      simp [s0, r0, n0, this]
    have E1 := Aside0.mk e1
    have H1 := Aside0.mk h1
    clear e1 h1
    go_enter Try.func18, Try.ntmps18
    go_wp2_with fail
    have BK := Aside0.mk (blk_new w (.cells #[.int .i64 0, .int .i64 0, .int .i64 0, .slice none 0 0, .int .i64 0, .slice none 0 0] 39))
    have HB := Aside0.mk (bel_alloc w (.cells #[.int .i64 0, .int .i64 0, .int .i64 0, .slice none 0 0, .int .i64 0, .slice none 0 0] 39))
    have hg : w.heap.size ≤ w.heap.size := Nat.le_refl _
    generalize w.alloc (.cells #[.int .i64 0, .int .i64 0, .int .i64 0, .slice none 0 0, .int .i64 0, .slice none 0 0] 39) = W0 at *
    obtain ⟨g, hgg⟩ : ∃ g, g = w.heap.size := ⟨_, rfl⟩
    rw [← hgg] at BK
    simp only [← hgg]
    have GE := Aside0.mk (show w.heap.size ≤ g by omega)
    clear hg hgg
    refine (new_log _ _ _).mono ?_
    rintro e w1 ⟨A, c, rfl, hb⟩
    replace BK := Aside0.mk (blk_below BK.out hb)
    replace HB := Aside0.mk (bel HB.out hb)
    clear hb
    go_upto_region 2 with (fail)
    have B2 := Aside0.mk (blk_new w1 (.cells #[.int .i64 (ls s r), .int .i64 (ls s r), .int .i64 (lr s r), .slice A 0 c] 36))
    replace BK := Aside0.mk (blk_alloc BK.out (.cells #[.int .i64 (ls s r), .int .i64 (ls s r), .int .i64 (lr s r), .slice A 0 c] 36))
    replace HB := Aside0.mk (bel HB.out (bel_alloc w1 (.cells #[.int .i64 (ls s r), .int .i64 (ls s r), .int .i64 (lr s r), .slice A 0 c] 36)))
    generalize w1.alloc (.cells #[.int .i64 (ls s r), .int .i64 (ls s r), .int .i64 (lr s r), .slice A 0 c] 36) = W1 at *
    generalize w1.heap.size = g2 at *
    have NE := blk_ne BK.out B2.out (by decide)
    have hx0 := (blk_cell B2.out 0).trans rfl
    have hx1 := (blk_cell B2.out 1).trans rfl
    have hx2 := (blk_cell B2.out 2).trans rfl
    have hx3 := (blk_cell B2.out 3).trans rfl
    have hz0 := (blk_cell BK.out 0).trans rfl
    have hz1 := (blk_cell BK.out 1).trans rfl
    have hz2 := (blk_cell BK.out 2).trans rfl
    have hz3 := (blk_cell BK.out 3).trans rfl
    have hz4 := (blk_cell BK.out 4).trans rfl
    have hz5 := (blk_cell BK.out 5).trans rfl
    have hf0 := blk_frozen BK.out 0
    have hf1 := blk_frozen BK.out 1
    have hf2 := blk_frozen BK.out 2
    have hf3 := blk_frozen BK.out 3
    have hf4 := blk_frozen BK.out 4
    have hf5 := blk_frozen BK.out 5
    go_wp2_with (go_at_call 54; refine (call_in _ _ _ false _ H1.out).mono ?_; rintro e w2 ⟨rfl, ⟨_, rfl⟩⟩)
    refine bodyPost_ret (results_cell_row rfl _ _ g 39 #[.int .i64 0, .int .i64 0, .int .i64 0, .slice none 0 0, .int .i64 0, .slice none 0 0] (0, 0) _ rfl (by exact (blk_put (blk_put (blk_put (blk_put (blk_put (blk_put (blk_drewN BK.out _) 0 _ (cs' := #[.int .i64 0, .int .i64 0, .int .i64 0, .slice none 0 0, .int .i64 0, .slice none 0 0]) rfl) 1 _ (cs' := #[.int .i64 0, .int .i64 0, .int .i64 0, .slice none 0 0, .int .i64 0, .slice none 0 0]) rfl) 2 _ (cs' := #[.int .i64 0, .int .i64 0, .int .i64 0, .slice none 0 0, .int .i64 0, .slice none 0 0]) rfl) 3 _ (cs' := #[.int .i64 0, .int .i64 0, .int .i64 0, .slice none 0 0, .int .i64 0, .slice none 0 0]) rfl) 4 _ (cs' := #[.int .i64 0, .int .i64 0, .int .i64 0, .slice none 0 0, .int .i64 0, .slice none 0 0]) rfl) 5 _ (cs' := #[.int .i64 0, .int .i64 0, .int .i64 0, .slice none 0 0, .int .i64 0, .slice none 0 0]) rfl)) Try.underlying39 rfl (by kernel_rfl)) rfl ⟨none, none, 0, 0, by rw [E1.out.1, E1.out.2.1, E1.out.2.2], by exact (below_set (below_set (below_set (below_set (below_set (below_set (pw_below_drewN HB.out _) GE.out) GE.out) GE.out) GE.out) GE.out) GE.out)⟩
  · have e1 : s0 n s r = 0 ∧ r0 n s r = 0 ∧ n0 n s r = 0 := by
      have : okB n s r = false := by unfold okB; unfold lB at h2; simp at h2 ⊢; omega
      simp [s0, r0, n0, this]
    have E1 := Aside0.mk e1
    have H1 := Aside0.mk h1
    have e2 : lr s r = 0 := by simp [lr, h2]
    have k1 : (lr s r == 0) = true := beq_iff_eq.2 e2
    have k2 : (lr s r != 0) = false := bne_eq_false_iff_eq.2 e2
    clear e1 h1 h2 e2
    go_enter Try.func18, Try.ntmps18
    go_wp2_with fail
    have BK := Aside0.mk (blk_new w (.cells #[.int .i64 0, .int .i64 0, .int .i64 0, .slice none 0 0, .int .i64 0, .slice none 0 0] 39))
    have HB := Aside0.mk (bel_alloc w (.cells #[.int .i64 0, .int .i64 0, .int .i64 0, .slice none 0 0, .int .i64 0, .slice none 0 0] 39))
    have hg : w.heap.size ≤ w.heap.size := Nat.le_refl _
    generalize w.alloc (.cells #[.int .i64 0, .int .i64 0, .int .i64 0, .slice none 0 0, .int .i64 0, .slice none 0 0] 39) = W0 at *
    obtain ⟨g, hgg⟩ : ∃ g, g = w.heap.size := ⟨_, rfl⟩
    rw [← hgg] at BK
    simp only [← hgg]
    have GE := Aside0.mk (show w.heap.size ≤ g by omega)
    clear hg hgg
    refine (new_log _ _ _).mono ?_
    rintro e w1 ⟨A, c, rfl, hb⟩
    replace BK := Aside0.mk (blk_below BK.out hb)
    replace HB := Aside0.mk (bel HB.out hb)
    clear hb
    go_upto_region 2 with (fail)
    have B2 := Aside0.mk (blk_new w1 (.cells #[.int .i64 (ls s r), .int .i64 (ls s r), .int .i64 (lr s r), .slice A 0 c] 36))
    replace BK := Aside0.mk (blk_alloc BK.out (.cells #[.int .i64 (ls s r), .int .i64 (ls s r), .int .i64 (lr s r), .slice A 0 c] 36))
    replace HB := Aside0.mk (bel HB.out (bel_alloc w1 (.cells #[.int .i64 (ls s r), .int .i64 (ls s r), .int .i64 (lr s r), .slice A 0 c] 36)))
    generalize w1.alloc (.cells #[.int .i64 (ls s r), .int .i64 (ls s r), .int .i64 (lr s r), .slice A 0 c] 36) = W1 at *
    generalize w1.heap.size = g2 at *
    have NE := blk_ne BK.out B2.out (by decide)
    have hx0 := (blk_cell B2.out 0).trans rfl
    have hx1 := (blk_cell B2.out 1).trans rfl
    have hx2 := (blk_cell B2.out 2).trans rfl
    have hx3 := (blk_cell B2.out 3).trans rfl
    have hz0 := (blk_cell BK.out 0).trans rfl
    have hz1 := (blk_cell BK.out 1).trans rfl
    have hz2 := (blk_cell BK.out 2).trans rfl
    have hz3 := (blk_cell BK.out 3).trans rfl
    have hz4 := (blk_cell BK.out 4).trans rfl
    have hz5 := (blk_cell BK.out 5).trans rfl
    have hf0 := blk_frozen BK.out 0
    have hf1 := blk_frozen BK.out 1
    have hf2 := blk_frozen BK.out 2
    have hf3 := blk_frozen BK.out 3
    have hf4 := blk_frozen BK.out 4
    have hf5 := blk_frozen BK.out 5
    go_wp2_with (go_at_call 54; refine (call_in _ _ _ true _ H1.out).mono ?_; rintro e w2 ⟨rfl, ⟨_, rfl⟩⟩)
    refine bodyPost_ret (results_cell_row rfl _ _ g 39 #[.int .i64 0, .int .i64 0, .int .i64 0, .slice none 0 0, .int .i64 0, .slice none 0 0] (0, 0) _ rfl (by exact (blk_put (blk_put (blk_put (blk_put (blk_put (blk_put (blk_drewN BK.out _) 0 _ (cs' := #[.int .i64 0, .int .i64 0, .int .i64 0, .slice none 0 0, .int .i64 0, .slice none 0 0]) rfl) 1 _ (cs' := #[.int .i64 0, .int .i64 0, .int .i64 0, .slice none 0 0, .int .i64 0, .slice none 0 0]) rfl) 2 _ (cs' := #[.int .i64 0, .int .i64 0, .int .i64 0, .slice none 0 0, .int .i64 0, .slice none 0 0]) rfl) 3 _ (cs' := #[.int .i64 0, .int .i64 0, .int .i64 0, .slice none 0 0, .int .i64 0, .slice none 0 0]) rfl) 4 _ (cs' := #[.int .i64 0, .int .i64 0, .int .i64 0, .slice none 0 0, .int .i64 0, .slice none 0 0]) rfl) 5 _ (cs' := #[.int .i64 0, .int .i64 0, .int .i64 0, .slice none 0 0, .int .i64 0, .slice none 0 0]) rfl)) Try.underlying39 rfl (by kernel_rfl)) rfl ⟨none, none, 0, 0, by rw [E1.out.1, E1.out.2.1, E1.out.2.2], by exact (below_set (below_set (below_set (below_set (below_set (below_set (pw_below_drewN HB.out _) GE.out) GE.out) GE.out) GE.out) GE.out) GE.out)⟩
  · have hok : okB n s r = true := by unfold okB; unfold lB at h2; simp at h1 h2 ⊢; omega
    have e1 : s0 n s r = ls s r ∧ r0 n s r = lr s r ∧ n0 n s r = n := by simp [s0, r0, n0, hok, ls, lr, h2]
    have E1 := Aside0.mk e1
    have H1 := Aside0.mk h1
    have e2 : ¬ lr s r = 0 := by unfold lB at h2; simp [lr, lB, h2]; simp at h2; omega
    have k1 : (lr s r == 0) = false := beq_eq_false_iff_ne.2 e2
    have k2 : (lr s r != 0) = true := bne_iff_ne.2 e2
    clear e1 h1 h2 e2 hok
    go_enter Try.func18, Try.ntmps18
    go_wp2_with fail
    have BK := Aside0.mk (blk_new w (.cells #[.int .i64 0, .int .i64 0, .int .i64 0, .slice none 0 0, .int .i64 0, .slice none 0 0] 39))
    have HB := Aside0.mk (bel_alloc w (.cells #[.int .i64 0, .int .i64 0, .int .i64 0, .slice none 0 0, .int .i64 0, .slice none 0 0] 39))
    have hg : w.heap.size ≤ w.heap.size := Nat.le_refl _
    generalize w.alloc (.cells #[.int .i64 0, .int .i64 0, .int .i64 0, .slice none 0 0, .int .i64 0, .slice none 0 0] 39) = W0 at *
    obtain ⟨g, hgg⟩ : ∃ g, g = w.heap.size := ⟨_, rfl⟩
    rw [← hgg] at BK
    simp only [← hgg]
    have GE := Aside0.mk (show w.heap.size ≤ g by omega)
    clear hg hgg
    refine (new_log _ _ _).mono ?_
    rintro e w1 ⟨A, c, rfl, hb⟩
    replace BK := Aside0.mk (blk_below BK.out hb)
    replace HB := Aside0.mk (bel HB.out hb)
    clear hb
    go_upto_region 2 with (fail)
    have B2 := Aside0.mk (blk_new w1 (.cells #[.int .i64 (ls s r), .int .i64 (ls s r), .int .i64 (lr s r), .slice A 0 c] 36))
    replace BK := Aside0.mk (blk_alloc BK.out (.cells #[.int .i64 (ls s r), .int .i64 (ls s r), .int .i64 (lr s r), .slice A 0 c] 36))
    replace HB := Aside0.mk (bel HB.out (bel_alloc w1 (.cells #[.int .i64 (ls s r), .int .i64 (ls s r), .int .i64 (lr s r), .slice A 0 c] 36)))
    generalize w1.alloc (.cells #[.int .i64 (ls s r), .int .i64 (ls s r), .int .i64 (lr s r), .slice A 0 c] 36) = W1 at *
    generalize w1.heap.size = g2 at *
    have NE := blk_ne BK.out B2.out (by decide)
    have hx0 := (blk_cell B2.out 0).trans rfl
    have hx1 := (blk_cell B2.out 1).trans rfl
    have hx2 := (blk_cell B2.out 2).trans rfl
    have hx3 := (blk_cell B2.out 3).trans rfl
    have hz0 := (blk_cell BK.out 0).trans rfl
    have hz1 := (blk_cell BK.out 1).trans rfl
    have hz2 := (blk_cell BK.out 2).trans rfl
    have hz3 := (blk_cell BK.out 3).trans rfl
    have hz4 := (blk_cell BK.out 4).trans rfl
    have hz5 := (blk_cell BK.out 5).trans rfl
    have hf0 := blk_frozen BK.out 0
    have hf1 := blk_frozen BK.out 1
    have hf2 := blk_frozen BK.out 2
    have hf3 := blk_frozen BK.out 3
    have hf4 := blk_frozen BK.out 4
    have hf5 := blk_frozen BK.out 5
    go_wp2_with (go_at_call 54; refine (call_in _ _ _ true _ H1.out).mono ?_; rintro e w2 ⟨rfl, ⟨_, rfl⟩⟩)
    refine bodyPost_ret (results_cell_row rfl _ _ g 39 #[.int .i64 (ls s r), .int .i64 (ls s r), .int .i64 (lr s r), .slice A 0 c, .int .i64 n, .slice none 0 0] (0, 0) _ rfl (by exact (blk_put (blk_put (blk_put (blk_put (blk_put (blk_put (blk_drewN BK.out _) 0 _ (cs' := #[.int .i64 (ls s r), .int .i64 0, .int .i64 0, .slice none 0 0, .int .i64 0, .slice none 0 0]) rfl) 1 _ (cs' := #[.int .i64 (ls s r), .int .i64 (ls s r), .int .i64 0, .slice none 0 0, .int .i64 0, .slice none 0 0]) rfl) 2 _ (cs' := #[.int .i64 (ls s r), .int .i64 (ls s r), .int .i64 (lr s r), .slice none 0 0, .int .i64 0, .slice none 0 0]) rfl) 3 _ (cs' := #[.int .i64 (ls s r), .int .i64 (ls s r), .int .i64 (lr s r), .slice A 0 c, .int .i64 0, .slice none 0 0]) rfl) 4 _ (cs' := #[.int .i64 (ls s r), .int .i64 (ls s r), .int .i64 (lr s r), .slice A 0 c, .int .i64 n, .slice none 0 0]) rfl) 5 _ (cs' := #[.int .i64 (ls s r), .int .i64 (ls s r), .int .i64 (lr s r), .slice A 0 c, .int .i64 n, .slice none 0 0]) rfl)) Try.underlying39 rfl (by kernel_rfl)) rfl ⟨A, none, c, 0, by rw [E1.out.1, E1.out.2.1, E1.out.2.2], by exact (below_set (below_set (below_set (below_set (below_set (below_set (pw_below_drewN HB.out _) GE.out) GE.out) GE.out) GE.out) GE.out) GE.out)⟩

theorem eq_nil (A B A' B' : Option Addr) (c d c' d' : Nat) (x y z n : Int) (w : World) : Calls Try.prog 20 #[.agg #[.int .i64 x, .int .i64 y, .int .i64 z, .slice A 0 c, .int .i64 n, .slice B 0 d], .agg #[.int .i64 x, .int .i64 y, .int .i64 z, .slice A' 0 c', .int .i64 n, .slice B' 0 d']] w fun e w' => e = .returned (.bool true) ∧ Below w.heap.size w w' :=
  laws_eqMirror.calls 1 x y z A c [] n B d [] x y z A' c' [] n B' d' [] true w (nilC _ _ _) (Nat.zero_le _) (nilC _ _ _) (Nat.zero_le _) (nilC _ _ _) (Nat.zero_le _) (nilC _ _ _) (Nat.zero_le _) (eq_f _ _ _ _)
set_option maxHeartbeats 1600000 in
theorem law (n s r : Int) (w : World) : Calls Try.prog 4 #[.int .i64 n, .int .i64 s, .int .i64 r] w fun e w' => e = .returned (.bool true) ∧ Below w.heap.size w w' := by
  go_enter Try.func4, Try.ntmps4
  have HB := Aside0.mk (Below.refl w.heap.size w)
  go_wp2_with fail
  refine (new_spec _ _ _ _).mono ?_
  rintro e w1 ⟨A1, B1, c1, d1, rfl, hb⟩
  replace HB := Aside0.mk (bel HB.out hb)
  clear hb
  go_wp2_with fail
  have X1 := Aside0.mk (box_new w1 (.int .i64 (s0 n s r)) (.int .i64 (s0 n s r)) (.int .i64 (r0 n s r)) (.slice A1 0 c1) (.int .i64 (n0 n s r)) (.slice B1 0 d1) 39)
  replace HB := Aside0.mk (bel HB.out (bel_alloc w1 (.cells #[.int .i64 (s0 n s r), .int .i64 (s0 n s r), .int .i64 (r0 n s r), .slice A1 0 c1, .int .i64 (n0 n s r), .slice B1 0 d1] 39)))
  generalize w1.alloc (.cells #[.int .i64 (s0 n s r), .int .i64 (s0 n s r), .int .i64 (r0 n s r), .slice A1 0 c1, .int .i64 (n0 n s r), .slice B1 0 d1] 39) = W1 at *
  generalize w1.heap.size = g1 at *
  clear w1
  refine (new_impl _ _ _ _).mono ?_
  rintro e w2 ⟨A2, B2, c2, d2, rfl, hb⟩
  replace X1 := Aside0.mk (X1.out.below hb)
  replace HB := Aside0.mk (bel HB.out hb)
  clear hb
  obtain ⟨lt1, x10, x11, x12, x13, x14, x15⟩ := X1.out
  go_wp2_with fail
  clear lt1 x10 x11 x12 x13 x14 x15
  replace X1 := Aside0.mk (X1.out.below (bel_alloc w2 (.cells #[.int .i64 (s0 n s r), .int .i64 (s0 n s r), .int .i64 (r0 n s r), .slice A2 0 c2, .int .i64 (n0 n s r), .slice B2 0 d2] 39)))
  have X2 := Aside0.mk (box_new w2 (.int .i64 (s0 n s r)) (.int .i64 (s0 n s r)) (.int .i64 (r0 n s r)) (.slice A2 0 c2) (.int .i64 (n0 n s r)) (.slice B2 0 d2) 39)
  replace HB := Aside0.mk (bel HB.out (bel_alloc w2 (.cells #[.int .i64 (s0 n s r), .int .i64 (s0 n s r), .int .i64 (r0 n s r), .slice A2 0 c2, .int .i64 (n0 n s r), .slice B2 0 d2] 39)))
  generalize w2.alloc (.cells #[.int .i64 (s0 n s r), .int .i64 (s0 n s r), .int .i64 (r0 n s r), .slice A2 0 c2, .int .i64 (n0 n s r), .slice B2 0 d2] 39) = W2 at *
  generalize w2.heap.size = g2 at *
  clear w2
  refine (eq_nil _ _ _ _ _ _ _ _ _ _ _ _ _).mono ?_
  rintro e w3 ⟨rfl, hb⟩
  replace X1 := Aside0.mk (X1.out.below hb)
  replace X2 := Aside0.mk (X2.out.below hb)
  replace HB := Aside0.mk (bel HB.out hb)
  clear hb
  obtain ⟨lt1, x10, x11, x12, x13, x14, x15⟩ := X1.out
  obtain ⟨lt2, x20, x21, x22, x23, x24, x25⟩ := X2.out
  go_wp2_with fail
  clear lt1 x10 x11 x12 x13 x14 x15 lt2 x20 x21 x22 x23 x24 x25
  refine (markMirror_nil _ _ _ _ _ _ _ _ _ _).mono ?_
  rintro e w4 ⟨rfl, hb⟩
  replace X1 := Aside0.mk (X1.out.below hb)
  replace X2 := Aside0.mk (X2.out.below hb)
  replace HB := Aside0.mk (bel HB.out hb)
  clear hb
  obtain ⟨lt1, x10, x11, x12, x13, x14, x15⟩ := X1.out
  obtain ⟨lt2, x20, x21, x22, x23, x24, x25⟩ := X2.out
  go_wp2_with fail
  clear lt1 x10 x11 x12 x13 x14 x15 lt2 x20 x21 x22 x23 x24 x25
  refine (held_nil _ _ _ _ _ _ _ _ _).mono ?_
  rintro e w5 ⟨rfl, hb⟩
  replace X1 := Aside0.mk (X1.out.below hb)
  replace X2 := Aside0.mk (X2.out.below hb)
  replace HB := Aside0.mk (bel HB.out hb)
  clear hb
  obtain ⟨lt1, x10, x11, x12, x13, x14, x15⟩ := X1.out
  obtain ⟨lt2, x20, x21, x22, x23, x24, x25⟩ := X2.out
  go_wp2_with fail
  clear lt1 x10 x11 x12 x13 x14 x15 lt2 x20 x21 x22 x23 x24 x25
  refine (new_impl _ _ _ _).mono ?_
  rintro e w6 ⟨A6, B6, c6, d6, rfl, hb⟩
  replace X1 := Aside0.mk (X1.out.below hb)
  replace X2 := Aside0.mk (X2.out.below hb)
  replace HB := Aside0.mk (bel HB.out hb)
  clear hb
  obtain ⟨lt1, x10, x11, x12, x13, x14, x15⟩ := X1.out
  obtain ⟨lt2, x20, x21, x22, x23, x24, x25⟩ := X2.out
  go_wp2_with fail
  clear lt1 x10 x11 x12 x13 x14 x15 lt2 x20 x21 x22 x23 x24 x25
  replace X1 := Aside0.mk (X1.out.below (bel_alloc w6 (.cells #[.int .i64 (s0 n s r), .int .i64 (s0 n s r), .int .i64 (r0 n s r), .slice A6 0 c6, .int .i64 (n0 n s r), .slice B6 0 d6] 39)))
  replace X2 := Aside0.mk (X2.out.below (bel_alloc w6 (.cells #[.int .i64 (s0 n s r), .int .i64 (s0 n s r), .int .i64 (r0 n s r), .slice A6 0 c6, .int .i64 (n0 n s r), .slice B6 0 d6] 39)))
  have X6 := Aside0.mk (box_new w6 (.int .i64 (s0 n s r)) (.int .i64 (s0 n s r)) (.int .i64 (r0 n s r)) (.slice A6 0 c6) (.int .i64 (n0 n s r)) (.slice B6 0 d6) 39)
  replace HB := Aside0.mk (bel HB.out (bel_alloc w6 (.cells #[.int .i64 (s0 n s r), .int .i64 (s0 n s r), .int .i64 (r0 n s r), .slice A6 0 c6, .int .i64 (n0 n s r), .slice B6 0 d6] 39)))
  generalize w6.alloc (.cells #[.int .i64 (s0 n s r), .int .i64 (s0 n s r), .int .i64 (r0 n s r), .slice A6 0 c6, .int .i64 (n0 n s r), .slice B6 0 d6] 39) = W6 at *
  generalize w6.heap.size = g6 at *
  clear w6
  refine (eq_nil _ _ _ _ _ _ _ _ _ _ _ _ _).mono ?_
  rintro e w7 ⟨rfl, hb⟩
  replace X1 := Aside0.mk (X1.out.below hb)
  replace X2 := Aside0.mk (X2.out.below hb)
  replace X6 := Aside0.mk (X6.out.below hb)
  replace HB := Aside0.mk (bel HB.out hb)
  clear hb
  obtain ⟨lt1, x10, x11, x12, x13, x14, x15⟩ := X1.out
  obtain ⟨lt2, x20, x21, x22, x23, x24, x25⟩ := X2.out
  obtain ⟨lt6, x60, x61, x62, x63, x64, x65⟩ := X6.out
  go_wp2_with fail
  clear lt1 x10 x11 x12 x13 x14 x15 lt2 x20 x21 x22 x23 x24 x25 lt6 x60 x61 x62 x63 x64 x65
  refine (held_nil _ _ _ _ _ _ _ _ _).mono ?_
  rintro e w8 ⟨rfl, hb⟩
  replace X1 := Aside0.mk (X1.out.below hb)
  replace X2 := Aside0.mk (X2.out.below hb)
  replace X6 := Aside0.mk (X6.out.below hb)
  replace HB := Aside0.mk (bel HB.out hb)
  clear hb
  obtain ⟨lt1, x10, x11, x12, x13, x14, x15⟩ := X1.out
  obtain ⟨lt2, x20, x21, x22, x23, x24, x25⟩ := X2.out
  obtain ⟨lt6, x60, x61, x62, x63, x64, x65⟩ := X6.out
  go_wp2
  clear lt1 x10 x11 x12 x13 x14 x15 lt2 x20 x21 x22 x23 x24 x25 lt6 x60 x61 x62 x63 x64 x65
  go_ret
  exact ⟨rfl, HB.out⟩

theorem walk (W : World) (a : Int) (_ : (Lit.int .i64 a).wf = true) (b : Int) (_ : (Lit.int .i64 b).wf = true) (c : Int) (_ : (Lit.int .i64 c).wf = true) : Calls Try.prog 4 #[.int .i64 a, .int .i64 b, .int .i64 c] W fun e w' => e = .returned (.bool true) ∧ Below W.heap.size W w' := law a b c W

end Go.Proofs.Ytoacdmohgohpdaa.NewMirror
