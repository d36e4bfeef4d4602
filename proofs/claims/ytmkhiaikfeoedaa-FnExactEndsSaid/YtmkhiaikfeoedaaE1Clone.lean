/- slices.Clone of a row of numbers, called. -/
import Derived.Test.YtmkhiaikfeoedaaE1MkKit
import Derived.Lib.Slices
namespace Go.Proofs.Ytmkhiaikfeoedaa.MarkK
open Go.RowKit Go.Proofs.YtmkhiaikfeoedaaW.PrintWords Go.Proofs.YtmkhiaikfeoedaaW.PrintLast Go.Proofs.YtmkhiaikfeoedaaW.PrintMore Go.Proofs.Ytmkhiaikfeoedaa.QFnExactInputsOk Go.Proofs.Ytmkhiaikfeoedaa.EvKit
set_option linter.unusedSimpArgs false
set_option linter.unusedVariables false
abbrev KI := Kd.int .i64
set_option maxHeartbeats 1000000 in
set_option maxRecDepth 100000 in
theorem clone_ints (A0 : Option Addr) (c0 : Nat) (r : List Int) (w : World) (hr0 : KI.C w A0 r.length r) (hl : r.length * 8 ≤ 140737488355328) :
    Calls Try.prog 31 #[.slice A0 r.length c0] w fun e w' => ∃ v0_ : Value, e = .returned (v0_) ∧ KI.R 3 w' w.heap.size (fun _ => True) v0_ r ∧ Below w.heap.size w w' := by
  have HC := Aside0.mk hr0
  have HL := Aside0.mk hl
  clear hr0 hl
  have heq := fun w => Lib.run_eql_slice_nil (P := Try.prog) w 24 3 A0 r.length c0 0 0 Try.underlying24
  rcases A0 with _ | ad
  · obtain rfl : r = [] := by
      rcases r with _ | ⟨x, xs⟩
      · rfl
      · obtain ⟨ad, e, _⟩ := HC.out.2.2 (by simp)
        cases e
    clear HC HL
    simp only [List.length_nil] at heq ⊢
    simp only [Option.isNone_none] at heq
    go_enter Try.func31, Try.ntmps31
    go_wp2
    go_ret
    exact ⟨_, rfl, Kd.R_nil _ _ _ _ _, Below.refl _ _⟩
  · skip
    go_enter Try.func31, Try.ntmps31
    go_wp2_with (first | ((with_reducible refine gate_dst (N := 5) rfl ?_); refine Kd.R_lit KI (w0 := w) w.heap.size 3 rfl (N := 5) rfl (xs := []) (inner := []) (ok := fun _ => True) (okp := fun _ => False) ?hr (Reps.none _ _) (fun _ h => h.elim) trivial (Below.refl _ _) (Nat.le_refl _) (by simp) ?_; (case hr => first | (go_simp; done) | (go_simp; rfl)); intro v1 w1 ho hb hg _; have HO := Aside0.mk ho; have HB := Aside0.mk hb; clear ho hb hg) | ((with_reducible refine gate_builtin (b := .append) (xs := #[.tmp 5, .tmp 6]) rfl ?_); at_builtin; refine Kd.R_append_rows KI (Rr := KI.K w) (w0 := w) w.heap.size rfl (.tmp 5) (.tmp 6) 24 3 (.int .i64 0) 8 rfl Try.underlying24 info3 rfl (by first | exact Nat.succ_pos _ | decide) (by omega) _ [] r _ _ _ (fun _ => True) (fun _ => False) rfl rfl HO.out (ReadsRow.imp_ HC.out HB.out (fun _ _ h => h)) (fun _ _ h => h) (fun _ h => h.elim) (fun _ _ => trivial) HB.out HB.out.size (by have := HL.out; simpa using this) ?_; intro v2 w2 ho hb hg _; have HO2 := Aside0.mk ho; have HB2 := Aside0.mk hb; clear ho hb hg))
    go_ret
    exact ⟨_, rfl, by simpa using HO2.out, HB2.out⟩
end Go.Proofs.Ytmkhiaikfeoedaa.MarkK
