/- The steps of the law FnExactEnds, each as a call. -/
import Derived.Test.YtmkhiaikfeoedaaE1EndImpl
import Derived.Test.YtmkhiaikfeoedaaE1ToArr
import Derived.Test.YtmkhiaikfeoedaaE1QFnExactInputsOkx12
namespace Go.Proofs.Ytmkhiaikfeoedaa.EndsK
open Go.RowKit Go.Proofs.YtmkhiaikfeoedaaW.PrintWords Go.Proofs.YtmkhiaikfeoedaaW.PrintLast Go.Proofs.YtmkhiaikfeoedaaW.PrintMore Go.Proofs.Ytmkhiaikfeoedaa.QFnExactInputsOk Go.Proofs.Ytmkhiaikfeoedaa.EvKit Go.Proofs.Ytmkhiaikfeoedaa.MarkK Go.Proofs.Ytmkhiaikfeoedaa.GFnExactInputsOk
set_option linter.unusedSimpArgs false
set_option linter.unusedVariables false
abbrev LSrcE := S46
abbrev KLS := k46
abbrev OwnS {α : Type} (d : Kd α) (e : Nat) (W V V' w : World) (A : Option Addr) (c : Nat) (xs : List α) : Prop := Kd.S d e w W.heap.size (fun k => V.heap.size ≤ k ∧ k < V'.heap.size) (.slice A xs.length c) xs
theorem ownS {α : Type} {d : Kd α} {e : Nat} {W V w' : World} {v0 : Value} {xs : List α} (hb : Below W.heap.size W V) (h : Kd.S d e w' V.heap.size (fun _ => True) v0 xs) : ∃ A c, v0 = .slice A xs.length c ∧ OwnS d e W V w' w' A c xs := by
  obtain ⟨A, c, rfl⟩ := Kd.S_slice h
  exact ⟨A, c, rfl, Kd.S_lower (Kd.S_mono (Kd.S_bound h) (fun k hk => ⟨hk.2.1, hk.2.2.1⟩)) hb.size⟩
theorem own_srcs {W V : World} (hb : Below W.heap.size W V) (A : Option Addr) (c : Nat) (x : List LSrcE) (hx : Kd.C KLS W A x.length x) (hc : x.length ≤ c) (s : sm_SourceS (to_SourceS x)) :
    Calls Try.prog 7 #[.slice A x.length c] V fun e w' => ∃ A' c', e = .returned (.slice A' (to_SourceS x).length c') ∧ OwnS KS TS W V w' w' A' c' (to_SourceS x) ∧ Below V.heap.size V w' := by
  obtain ⟨k, hk⟩ := Ev.rounds (ev_toSourceS x s)
  refine (laws_toSourceS.calls k A c x _ V (Kd.C_below hx hb) hc hk).mono ?_
  rintro e w' ⟨v, rfl, h, hb2⟩
  obtain ⟨A', c', rfl, ho⟩ := ownS hb h
  exact ⟨A', c', rfl, ho, hb2⟩
theorem own_arrs {W V : World} (hb : Below W.heap.size W V) (A : Option Addr) (c : Nat) (y : List (List LArr)) (hy : Kd.C (Kd.slice TLA KLA) W A y.length y) (hc : y.length ≤ c) (s : sm_ArrivalSS (to_ArrivalSS y)) :
    Calls Try.prog 8 #[.slice A y.length c] V fun e w' => ∃ A' c', e = .returned (.slice A' (to_ArrivalSS y).length c') ∧ OwnS KAA TAs W V w' w' A' c' (to_ArrivalSS y) ∧ Below V.heap.size V w' := by
  refine (to_arrss A c y V (Kd.C_below hy hb) hc s).mono ?_
  rintro e w' ⟨v, rfl, h, hb2⟩
  obtain ⟨A', c', rfl, ho⟩ := ownS hb h
  exact ⟨A', c', rfl, ho, hb2⟩
theorem own_ints {W V : World} (hb : Below W.heap.size W V) (A : Option Addr) (c : Nat) (o : List Int) (ho : KI.C W A o.length o) (hc : o.length ≤ c) (s : sm_IntS o) :
    Calls Try.prog 9 #[.slice A o.length c] V fun e w' => ∃ A' c', e = .returned (.slice A' o.length c') ∧ KI.R 3 w' W.heap.size (fun k => V.heap.size ≤ k ∧ k < w'.heap.size) (.slice A' o.length c') o ∧ Below V.heap.size V w' := by
  obtain ⟨k, hk⟩ := Ev.rounds (ev_toIntS o s)
  refine (laws_toIntS.calls k A c o _ V (Kd.C_below ho hb) hc hk).mono ?_
  rintro e w' ⟨v, rfl, h, hb2⟩
  obtain ⟨A', c', rfl⟩ := Kd.R_slice h
  exact ⟨A', c', rfl, Kd.R_lower (Kd.R_mono (Kd.R_bound h) (fun k hk => ⟨hk.2.1, hk.2.2.1⟩)) hb.size, hb2⟩
section
variable {W V : World} {ok0 ok1 ok2 : Nat → Prop} {A B D : Option Addr} {c d e : Nat} {x : List SrcE} {y : List (List Arr)} {o : List Int}
theorem own_spec (hb : Below W.heap.size W V) (h0 : Kd.S KS TS V W.heap.size ok0 (.slice A x.length c) x) (h1 : Kd.S KAA TAs V W.heap.size ok1 (.slice B y.length d) y) (h2 : KI.R 3 V W.heap.size ok2 (.slice D o.length e) o) (sx : sm_SourceS x) (sy : sm_ArrivalSS y) (so : o.length ≤ 1048576) :
    Calls Try.prog 6 #[.slice A x.length c, .slice B y.length d, .slice D o.length e] V fun e w' => ∃ A' c', e = .returned (.slice A' (endsR x y o).length c') ∧ OwnS KC TC W V w' w' A' c' (endsR x y o) ∧ Below V.heap.size V w' := by
  obtain ⟨k, hk⟩ := Ev.rounds (spec_ends x y o sx sy so)
  refine (spec_Ends.calls k A c x B d y D e o _ V (Kd.S_reads' h0).2.2 (Kd.S_reads' h0).2.1 (rows_C (Kd.S_reads' h1).2.2) (Kd.S_reads' h1).2.1 (Kd.R_reads' h2).2.2 (Kd.R_reads' h2).2.1 hk).mono ?_
  rintro e w' ⟨v, rfl, h, hb2⟩
  obtain ⟨A', c', rfl, ho⟩ := ownS hb h
  exact ⟨A', c', rfl, ho, hb2⟩
theorem own_impl (hb : Below W.heap.size W V) (h0 : Kd.S KS TS V W.heap.size ok0 (.slice A x.length c) x) (h1 : Kd.S KAA TAs V W.heap.size ok1 (.slice B y.length d) y) (h2 : KI.R 3 V W.heap.size ok2 (.slice D o.length e) o) (sx : sm_SourceS x) (sy : sm_ArrivalSS y) (so : o.length ≤ 1048576) :
    Calls Try.prog 10 #[.slice A x.length c, .slice B y.length d, .slice D o.length e] V fun e w' => ∃ A' c', e = .returned (.slice A' (endsR x y o).length c') ∧ OwnS KC TC W V w' w' A' c' (endsR x y o) ∧ Below V.heap.size V w' := by
  refine (ends_call A B D c d e x y o V (Kd.S_reads' h0).2.2 (Kd.S_reads' h0).2.1 (rows_C (Kd.S_reads' h1).2.2) (Kd.S_reads' h1).2.1 (Kd.R_reads' h2).2.2 (Kd.R_reads' h2).2.1 sx sy so).mono ?_
  rintro e w' ⟨v, rfl, h, hb2⟩
  obtain ⟨A', c', rfl, ho⟩ := ownS hb h
  exact ⟨A', c', rfl, ho, hb2⟩
theorem eq_srcs {l : List SrcE} (h0 : Kd.S KS TS V W.heap.size ok0 (.slice A l.length c) l) (h1 : Kd.S KS TS V W.heap.size ok1 (.slice B l.length d) l) (s : sm_SourceS l) :
    Calls Try.prog 12 #[.slice A l.length c, .slice B l.length d] V fun e w' => e = .returned (.bool true) ∧ Below V.heap.size V w' := by
  obtain ⟨k, hk⟩ := Ev.rounds (ev_eqSourceS l s)
  exact laws_eqSourceS.calls k A c l B d l _ V (Kd.S_reads' h0).2.2 (Kd.S_reads' h0).2.1 (Kd.S_reads' h1).2.2 (Kd.S_reads' h1).2.1 hk
theorem eq_arrs {l : List (List Arr)} (h0 : Kd.S KAA TAs V W.heap.size ok0 (.slice A l.length c) l) (h1 : Kd.S KAA TAs V W.heap.size ok1 (.slice B l.length d) l) (s : sm_ArrivalSS l) :
    Calls Try.prog 13 #[.slice A l.length c, .slice B l.length d] V fun e w' => e = .returned (.bool true) ∧ Below V.heap.size V w' := by
  obtain ⟨k, hk⟩ := Ev.rounds (ev_eqArrivalSS l s)
  exact laws_eqArrivalSS.calls k A c l B d l _ V (rows_C (Kd.S_reads' h0).2.2) (Kd.S_reads' h0).2.1 (rows_C (Kd.S_reads' h1).2.2) (Kd.S_reads' h1).2.1 hk
theorem eq_ints {l : List Int} (h0 : KI.R 3 V W.heap.size ok0 (.slice A l.length c) l) (h1 : KI.R 3 V W.heap.size ok1 (.slice B l.length d) l) (s : sm_IntS l) :
    Calls Try.prog 14 #[.slice A l.length c, .slice B l.length d] V fun e w' => e = .returned (.bool true) ∧ Below V.heap.size V w' := by
  obtain ⟨k, hk⟩ := Ev.rounds (ev_eqIntS l s)
  exact (laws_eqIntS.calls k A c l B d l _ V (Kd.R_reads' h0).2.2 (Kd.R_reads' h0).2.1 (Kd.R_reads' h1).2.2 (Kd.R_reads' h1).2.1 hk).mono (fun e w' h => ⟨h.1, h.2.below⟩)
theorem ev_eqI (x : List Int) (h : x.length ≤ 1048576) : Ev (fun k => laws_eqIntS.f k x x) true := by
  unfold laws_eqIntS.f
  simp only [if_true]
  exact ev_eqInt (L := laws_eqIntS.l0) (rd := rd) (fun k x y i => by rw [laws_eqIntS.l0]) at_rd x (by omega)
theorem ev_eqC (l : List Com) (hl : l.length ≤ 1048576) (h : ∀ a ∈ l, a.f1.f1.length ≤ 1048576) : Ev (fun k => laws_eqComingS.f k l l) true := by
  unfold laws_eqComingS.f
  simp only [if_true]
  refine ev_eq (L := laws_eqComingS.l0) (E := fun k a b => laws_eqComing.f k a.f0 a.f1.f0 a.f1.f1 a.f1.f2 a.f2 b.f0 b.f1.f0 b.f1.f1 b.f1.f2 b.f2) (rd := rd_T56) (fun k x y i => by rw [laws_eqComingS.l0]) rdC l (by omega) (fun a ha => ?_)
  unfold laws_eqComing.f
  refine Ev.iteT rfl (Ev.bind ?_ (Ev.iteT rfl (Ev.iteT rfl (Ev.now _))))
  unfold laws_eqArrival.f
  exact Ev.iteT rfl (Ev.bind (ev_eqI _ (h a ha)) (Ev.iteT rfl (Ev.iteF (by simp) (Ev.now _))))
theorem eq_coms {l : List Com} (h0 : Kd.S KC TC V W.heap.size ok0 (.slice A l.length c) l) (h1 : Kd.S KC TC V W.heap.size ok1 (.slice B l.length d) l) (hl : l.length ≤ 1048576) (h : ∀ a ∈ l, a.f1.f1.length ≤ 1048576) :
    Calls Try.prog 11 #[.slice A l.length c, .slice B l.length d] V fun e w' => e = .returned (.bool true) ∧ Below V.heap.size V w' := by
  obtain ⟨k, hk⟩ := Ev.rounds (ev_eqC l hl h)
  exact laws_eqComingS.calls k A c l B d l _ V (Kd.S_reads' h0).2.2 (Kd.S_reads' h0).2.1 (Kd.S_reads' h1).2.2 (Kd.S_reads' h1).2.1 hk
theorem held_own {l : List Com} (h : Kd.S KC TC V W.heap.size ok0 (.slice A l.length c) (mkCL 1 (l.map rowN))) (hw : 1 + (wtC (l.map rowN) : Int) ≤ 8000000000000000000) :
    Calls Try.prog 19 #[.slice A l.length c, .int .i64 1] V fun e w' => e = .returned (.int .i64 (1 + wtC (l.map rowN))) ∧ Below V.heap.size V w' := by
  obtain ⟨hn, hc, hC⟩ := Kd.S_reads' h
  have hm : (l.map rowN).length = l.length := List.length_map _
  rw [mkCL_length, hm] at hC
  have h2 := held_coms (l.map rowN) A c 1 V (by rw [hm]; exact hc) (by rw [hm]; exact hC) (by omega) hw
  rw [hm] at h2
  exact h2.mono (fun e w' h => ⟨h.1, h.2.below⟩)
end
theorem step_sm {y : List (List Arr)} (hy : ∀ s, ∀ a ∈ row y s, a.f1.length ≤ 1048576) {st : St} (h : ∀ c ∈ st.2.2, c.f1.f1.length ≤ 1048576) (s : Nat) : ∀ c ∈ (step y st s).2.2, c.f1.f1.length ≤ 1048576 := by
  have hg : ((row y s).getD (rd st.1 s).toNat zArr).f1.length ≤ 1048576 := by
    rw [List.getD_eq_getElem?_getD]
    by_cases hl : (rd st.1 s).toNat < (row y s).length
    · rw [List.getElem?_eq_getElem hl]; exact hy s _ (List.getElem_mem hl)
    · rw [List.getElem?_eq_none (by omega)]; exact Nat.zero_le _
  unfold step
  split
  · exact h
  · split
    · intro c hc
      rcases List.mem_append.1 hc with hc | hc
      · rcases List.mem_append.1 hc with hc | hc
        · exact h c hc
        · rw [List.mem_singleton.1 hc]; exact Nat.zero_le _
      · rw [List.mem_singleton.1 hc]; exact hg
    · intro c hc
      rcases List.mem_append.1 hc with hc | hc
      · exact h c hc
      · rw [List.mem_singleton.1 hc]; exact hg
theorem run_sm {y : List (List Arr)} (hy : ∀ s, ∀ a ∈ row y s, a.f1.length ≤ 1048576) (l : List Nat) : ∀ {st : St}, (∀ c ∈ st.2.2, c.f1.f1.length ≤ 1048576) → ∀ c ∈ (run y st l).2.2, c.f1.f1.length ≤ 1048576 := by
  induction l with
  | nil => intro st h; exact h
  | cons s l ih => intro st h; exact ih (step_sm hy h s)
theorem ends_sm {x : List SrcE} {y : List (List Arr)} (o : List Int) (sy : sm_ArrivalSS y) : (endsR x y o).length ≤ 400 ∧ ∀ c ∈ endsR x y o, c.f1.f1.length ≤ 1048576 := by
  unfold endsR
  split
  · rename_i h
    have hy := (fit_of sy h.1).1
    unfold fin
    split
    · exact ⟨Nat.zero_le _, fun c hc => by cases hc⟩
    · refine ⟨by omega, fun c hc => ?_⟩
      rcases List.mem_append.1 hc with hc | hc
      · exact run_sm hy.sm _ (st := st0 y.length) (fun c hc => by cases hc) c hc
      · obtain ⟨j, _, rfl⟩ := List.mem_map.1 hc
        exact Nat.zero_le _
  · exact ⟨Nat.zero_le _, fun c hc => by cases hc⟩
theorem wtC_bound (B : Nat) (l : List Com) (h : ∀ a ∈ l, a.f1.f1.length ≤ B) : wtC (l.map rowN) ≤ l.length * (B + 4) := by
  induction l with
  | nil => exact Nat.zero_le _
  | cons a l ih =>
    have h1 := ih (fun b hb => h b (List.mem_cons_of_mem _ hb))
    have h2 := h a List.mem_cons_self
    show (a.f1.f1.length + 4) + wtC (l.map rowN) ≤ (l.length + 1) * (B + 4)
    rw [Nat.succ_mul]; omega
theorem wtS_bound (B : Nat) (l : List SrcE) (h : ∀ a ∈ l, a.f2.length ≤ B) : wtS l ≤ l.length * (B + 2) := by
  induction l with
  | nil => exact Nat.zero_le _
  | cons a l ih =>
    have h1 := ih (fun b hb => h b (List.mem_cons_of_mem _ hb))
    have h2 := h a List.mem_cons_self
    show (a.f2.length + 2) + wtS l ≤ (l.length + 1) * (B + 2)
    rw [Nat.succ_mul]; omega
theorem wtA_bound (B : Nat) (l : List Arr) (h : ∀ a ∈ l, a.f1.length ≤ B) : wtA l ≤ l.length * (B + 2) := by
  induction l with
  | nil => exact Nat.zero_le _
  | cons a l ih =>
    have h1 := ih (fun b hb => h b (List.mem_cons_of_mem _ hb))
    have h2 := h a List.mem_cons_self
    show (a.f1.length + 2) + wtA l ≤ (l.length + 1) * (B + 2)
    rw [Nat.succ_mul]; omega
theorem wtAA_bound (B : Nat) (l : List (List Arr)) (h : ∀ a ∈ l, wtA a ≤ B) : wtAA l ≤ l.length * B := by
  induction l with
  | nil => exact Nat.zero_le _
  | cons a l ih =>
    have h1 := ih (fun b hb => h b (List.mem_cons_of_mem _ hb))
    have h2 := h a List.mem_cons_self
    show wtA a + wtAA l ≤ (l.length + 1) * B
    rw [Nat.succ_mul]; omega
theorem wS_le {x : List SrcE} (s : sm_SourceS x) : wtS x ≤ 1099513724928 := by
  refine Nat.le_trans (wtS_bound 1048576 x (fun a ha => (s.2 a ha).2.2.1)) ?_
  exact Nat.le_trans (Nat.mul_le_mul_right _ s.1) (by decide)
theorem wAA_le {y : List (List Arr)} (s : sm_ArrivalSS y) : wtAA y ≤ 1152923703630102528 := by
  refine Nat.le_trans (wtAA_bound 1099513724928 y (fun l hl => ?_)) (Nat.le_trans (Nat.mul_le_mul_right _ s.1) (by decide))
  refine Nat.le_trans (wtA_bound 1048576 l (fun a ha => ((s.2 l hl).2 a ha).2.1.1)) ?_
  exact Nat.le_trans (Nat.mul_le_mul_right _ (s.2 l hl).1) (by decide)
theorem wC_le {l : List Com} (h1 : l.length ≤ 400) (h2 : ∀ c ∈ l, c.f1.f1.length ≤ 1048576) : 1 + (wtC (l.map rowN) : Int) ≤ 8000000000000000000 := by
  have h := Nat.le_trans (wtC_bound 1048576 l h2) (Nat.mul_le_mul_right _ h1)
  omega
end Go.Proofs.Ytmkhiaikfeoedaa.EndsK
