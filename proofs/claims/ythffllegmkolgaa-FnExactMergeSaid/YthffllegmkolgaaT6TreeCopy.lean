/- What copyTree, l17Copy and l17Join compute; and the contracts. -/
import Derived.Test.YthffllegmkolgaaT6TreeOwn
import Derived.Test.YthffllegmkolgaaT6QTreex15
import Derived.Test.YthffllegmkolgaaT6QTreex13
namespace Go.Proofs.Ythffllegmkolgaa.TreeK
open Go.RowKit Go.Proofs.YthffllegmkolgaaW.PrintWords Go.Proofs.YthffllegmkolgaaW.PrintLast Go.Proofs.YthffllegmkolgaaW.PrintMore Go.Proofs.Ythffllegmkolgaa.QTree Go.Proofs.Ythffllegmkolgaa.EvKit
set_option linter.unusedSimpArgs false
set_option linter.unusedVariables false
def Fit (m : List Cel) (rs : List (List Cel)) : Prop := m.length ≤ 1048576 ∧ rs.length ≤ 1048576 ∧ ∀ r ∈ rs, r.length ≤ 1048576
theorem ev_copy_impl (m : List Cel) (rs : List (List Cel)) (s q : Int) (h : Fit m rs) : Ev (fun k => impl_copyTree.f k m rs s q) (m, rs, s, q) := by
  obtain ⟨h1, h2, h3⟩ := h
  have hl : ∀ (d j : Nat), j + d = rs.length → Ev (fun k => impl_copyTree.l0 k rs (rs.length : Int) (j : Int) m (rs.take j) s q) (m, rs, s, q) := by
    intro d
    induction d with
    | zero =>
      intro j hj
      obtain rfl : j = rs.length := by omega
      rw [List.take_length]
      refine Ev.step (f := fun _ => some (m, rs, s, q)) (fun k => ?_) (Ev.now _)
      rw [impl_copyTree.l0, if_neg (by omega)]
    | succ d ih =>
      intro j hj
      have hlt : j < rs.length := by omega
      have ih' := ih (j + 1) (by omega)
      rw [List.take_succ_eq_append_getElem hlt] at ih'
      refine Ev.step (fun k => ?_) ih'
      have hx := h3 rs[j] (List.getElem_mem hlt)
      rw [impl_copyTree.l0, if_pos (by omega), if_pos (by omega), if_pos (by omega), rdL _ _ hlt]
      unfold impl_Cell_100.f
      rw [if_pos (by omega)]
      simp only [Option.bind_some]
      rw [if_pos (by rw [List.length_take]; omega), w64_succ hlt (by omega)]
  unfold impl_copyTree.f impl_Cell_100.f
  simp only [if_pos (show m.length * 48 ≤ 140737488355328 by omega), Option.bind_some]
  simpa using hl rs.length 0 (by omega)
theorem ev_copy_spec (m : List Cel) (rs : List (List Cel)) (s q : Int) (h : Fit m rs) : Ev (fun k => spec_l17Copy.f k m rs s q) (m, rs, s, q) := by
  obtain ⟨h1, h2, h3⟩ := h
  have hl : ∀ (d j : Nat), j + d = rs.length → Ev (fun k => spec_l17Copy.l0 k (j : Int) m rs s q m (rs.take j) s q) (m, rs, s, q) := by
    intro d
    induction d with
    | zero =>
      intro j hj
      obtain rfl : j = rs.length := by omega
      rw [List.take_length]
      refine Ev.step (f := fun _ => some (m, rs, s, q)) (fun k => ?_) (Ev.now _)
      rw [spec_l17Copy.l0, if_neg (by omega)]
    | succ d ih =>
      intro j hj
      have hlt : j < rs.length := by omega
      have ih' := ih (j + 1) (by omega)
      rw [List.take_succ_eq_append_getElem hlt] at ih'
      refine Ev.step (fun k => ?_) ih'
      have hx := h3 rs[j] (List.getElem_mem hlt)
      rw [spec_l17Copy.l0, if_pos (by omega)]
      simp only [Option.bind_some]
      rw [if_pos (by omega), rdL _ _ hlt, if_pos (by simp only [List.length_nil]; omega), if_pos (by rw [List.length_take]; omega), w64_succ hlt (by omega), List.nil_append]
  unfold spec_l17Copy.f
  simp only [Option.bind_some, List.nil_append]
  simp only [if_pos (show ([] : List Cel).length + m.length < 2932031007402 by simp only [List.length_nil]; omega)]
  simpa using hl rs.length 0 (by omega)
theorem ev_join (a b : List Cel) (ha : a.length ≤ 1048576) (hb : b.length ≤ 1048576) : Ev (fun k => spec_l17Join.f k a b) (srtOn a b) := by
  have hl : ∀ (d j : Nat) (acc : List Cel), j + d = b.length → acc.length = a.length + j → Ev (fun k => spec_l17Join.l0 k b acc (j : Int)) (srtOn acc (b.drop j)) := by
    intro d
    induction d with
    | zero =>
      intro j acc hj _
      obtain rfl : j = b.length := by omega
      rw [List.drop_length]
      refine Ev.step (f := fun _ => some acc) (fun k => ?_) (Ev.now _)
      rw [spec_l17Join.l0, if_neg (by omega)]
    | succ d ih =>
      intro j acc hj hacc
      have hlt : j < b.length := by omega
      have ih' := ih (j + 1) (insC b[j] acc) (by omega) (by rw [(insC_perm _ _).length_eq, List.length_cons]; omega)
      rw [List.drop_eq_getElem_cons hlt]
      show Ev _ (srtOn (insC b[j] acc) (b.drop (j + 1)))
      refine Ev.step (fun k => ?_) ih'
      rw [spec_l17Join.l0, if_pos (by omega), if_pos (by omega), rd48 _ _ hlt]
      unfold spec_l17In.f
      rw [if_pos (by omega)]
      simp only [Option.bind_some]
      rw [w64_succ hlt (by omega)]
  unfold spec_l17Join.f
  simp only [Option.bind_some, List.nil_append]
  simp only [if_pos (show ([] : List Cel).length + a.length < 2932031007402 by simp only [List.length_nil]; omega)]
  simpa using hl b.length 0 a (by omega) (by omega)
theorem call_copy_impl (A B : Option Addr) (c d : Nat) (x : Tre) (W : World) (h : TreeC W x A c B d) (hf : Fit x.f0 x.f1) :
    Calls Try.prog 70 #[.agg #[.slice A x.f0.length c, .slice B x.f1.length d, .int .i64 x.f2, .int .i64 x.f3]] W fun e w' => ∃ v0 v1 : Value, e = .returned (.agg #[v0, v1, .int .i64 x.f2, .int .i64 x.f3]) ∧ KC.R TC w' W.heap.size (fun _ => True) v0 x.f0 ∧ Kd.S KL TL w' W.heap.size (fun k_ => some k_ ≠ v0.ownBlock) v1 x.f1 ∧ Below W.heap.size W w' := by
  obtain ⟨k, hk⟩ := Ev.rounds (ev_copy_impl x.f0 x.f1 x.f2 x.f3 hf)
  exact impl_copyTree.calls k A c _ B d _ _ _ _ _ _ _ W h.1.2 h.1.1 h.2.2 h.2.1 hk
theorem call_copy_spec (A B : Option Addr) (c d : Nat) (x : Tre) (W : World) (h : TreeC W x A c B d) (hf : Fit x.f0 x.f1) :
    Calls Try.prog 88 #[.agg #[.slice A x.f0.length c, .slice B x.f1.length d, .int .i64 x.f2, .int .i64 x.f3]] W fun e w' => ∃ v0 v1 : Value, e = .returned (.agg #[v0, v1, .int .i64 x.f2, .int .i64 x.f3]) ∧ KC.R TC w' W.heap.size (fun _ => True) v0 x.f0 ∧ Kd.S KL TL w' W.heap.size (fun k_ => some k_ ≠ v0.ownBlock) v1 x.f1 ∧ Below W.heap.size W w' := by
  obtain ⟨k, hk⟩ := Ev.rounds (ev_copy_spec x.f0 x.f1 x.f2 x.f3 hf)
  exact spec_l17Copy.calls k A c _ B d _ _ _ _ _ _ _ W h.1.2 h.1.1 h.2.2 h.2.1 hk
theorem call_join (A B : Option Addr) (c d : Nat) (a b : List Cel) (W : World) (h : KC.C W A a.length a) (hc : a.length ≤ c) (h' : KC.C W B b.length b) (hd : b.length ≤ d) (ha : a.length ≤ 1048576) (hb : b.length ≤ 1048576) :
    Calls Try.prog 89 #[.slice A a.length c, .slice B b.length d] W fun e w' => ∃ v0 : Value, e = .returned v0 ∧ KC.R TC w' W.heap.size (fun _ => True) v0 (srtOn a b) ∧ Below W.heap.size W w' := by
  obtain ⟨k, hk⟩ := Ev.rounds (ev_join a b ha hb)
  exact spec_l17Join.calls k A c a B d b _ W h hc h' hd hk
end Go.Proofs.Ythffllegmkolgaa.TreeK
