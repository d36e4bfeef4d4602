/- Joined: TreeOwn, TreeCopy. -/
import Derived.Test.YthffllegmkolgaaT11LookPure
import Derived.Test.YthffllegmkolgaaT11QTreex12
import Derived.Test.YthffllegmkolgaaT11QTreex15
import Derived.Test.YthffllegmkolgaaT11TreeCalls
import Derived.Test.YthffllegmkolgaaT11CelSort
import Derived.Test.YthffllegmkolgaaT11In
import Derived.Test.YthffllegmkolgaaT11LookCalls
import Derived.Test.YthffllegmkolgaaT11QTreex0
import Derived.Test.YthffllegmkolgaaT11QTreex4
namespace Go.Proofs.Ythffllegmkolgaa.TreeK
open Go.RowKit Go.Proofs.YthffllegmkolgaaW.PrintWords Go.Proofs.YthffllegmkolgaaW.PrintLast Go.Proofs.YthffllegmkolgaaW.PrintMore Go.Proofs.Ythffllegmkolgaa.QTree Go.Proofs.Ythffllegmkolgaa.EvKit
set_option linter.unusedSimpArgs false
set_option linter.unusedVariables false
def sumL (ns : List Nat) : Nat := ns.foldr (· + ·) 0
end Go.Proofs.Ythffllegmkolgaa.TreeK

namespace Go.Proofs.Ythffllegmkolgaa.TreeK
open Go.RowKit Go.Proofs.YthffllegmkolgaaW.PrintWords Go.Proofs.YthffllegmkolgaaW.PrintLast Go.Proofs.YthffllegmkolgaaW.PrintMore Go.Proofs.Ythffllegmkolgaa.QTree Go.Proofs.Ythffllegmkolgaa.EvKit
set_option linter.unusedSimpArgs false
set_option linter.unusedVariables false
abbrev KC := k48
abbrev KL := Kd.slice 48 k48
abbrev TC : Nat := 48
abbrev TL : Nat := 28
theorem own_box {W : World} {base g : Nat} {f : Nat → Nat} {ok : Nat → Prop} {v0 : Value} {m : List Cel} (hb : W.heap[g]? = some (.cells #[v0] TL (0, 0))) (hg : base ≤ g) (hok : ok g) (hm : KL.M W base (fun k => (ok k ∧ k ≠ g) ∧ f k = 0) m [v0]) : (Kd.tag f KL).R TL W base ok (.slice (some ⟨g, 0, none⟩) 1 1) [(m, 0)] := by
  refine ⟨fun k hk => ?_, [v0], ⟨rfl, .inr ⟨g, 1, #[v0], rfl, hg, hb, Nat.le_refl _, by decide, rfl, rfl⟩⟩, ⟨rfl, fun j p hj => ?_⟩⟩
  · have : g = k := by simpa [Value.ownBlock] using hk
    subst this; exact hok
  · match j, hj with
    | 0, hj =>
      obtain rfl : (m, 0) = p := by simpa using hj
      exact KL.M_mono (fun k hk => ⟨⟨hk.1.1, fun he => hk.1.2 (by simpa [Value.ownBlock] using he)⟩, hk.2⟩) hm
    | j + 1, hj => simp at hj
open Classical in
theorem prepend_prep {W : World} {base g : Nat} {P0 P1 : Nat → Prop} {v0 : Value} {B : Option Addr} {n c : Nat} {m : List Cel} {rs : List (List Cel)} (hap : ∀ k, P0 k → ¬ P1 k) (h0 : KC.R TC W base P0 v0 m) (h1 : Kd.S KL TL W base P1 (.slice B n c) rs) (hb : W.heap[g]? = some (.cells #[v0] TL (0, 0))) (hg : base ≤ g) (hg0 : ∀ k, P0 k → k ≠ g) (hg1 : ∀ k, P1 k → k ≠ g) :
    ∃ f : Nat → Nat, (Kd.tag f KL).R TL W base (fun k => P0 k ∨ P1 k ∨ k = g ∨ W.heap.size ≤ k) (.slice (some ⟨g, 0, none⟩) 1 1) [(m, 0)] ∧ n = rs.length ∧ ReadsRow ((Kd.tag f KL).M W base P1) 1 W B rs.length (rs.zipIdx 1) := by
  obtain ⟨f0, h1⟩ := h1
  refine ⟨fun k => if P0 k then 0 else f0 k + 1, own_box hb hg (.inr (.inr (.inl rfl))) ?_, ?_, ?_⟩
  · exact ⟨v0, rfl, Kd.R_mono h0 (fun k hk => ⟨⟨.inl hk, hg0 k hk⟩, if_pos hk⟩)⟩
  · have := (Kd.R_reads' h1).1
    rwa [List.length_zipIdx] at this
  · obtain ⟨A', c', e, _, hr⟩ := h1.2.reads
    injection e with e1 _ _
    subst e1
    rw [List.length_zipIdx] at hr
    refine ⟨by rw [List.length_zipIdx], hr.2.1, fun hn => ?_⟩
    obtain ⟨ad, ha, hc⟩ := hr.2.2 hn
    refine ⟨ad, ha, fun j p hj => ?_⟩
    rw [List.getElem?_zipIdx] at hj
    obtain ⟨x, hx, rfl⟩ := Option.map_eq_some_iff.1 hj
    obtain ⟨cs, hcl, hM, hcc⟩ := hc j (x, j) (Kd.zip_at hx)
    exact ⟨cs, hcl, KL.M_mono (fun k hk => ⟨hk.1.1, by show (if P0 k then 0 else f0 k + 1) = 1 + j; rw [if_neg (fun h => hap k h hk.1.1), hk.2]; omega⟩) hM, hcc⟩
section
variable {ops : Array Oper} {rest : List Oper} {o : Oper} {a : Act} {Q : Exit → Act → World → Prop} {Kc : Act → World → Prop}
theorem prepend_step {W : World} {base g : Nat} {P0 P1 : Nat → Prop} {v0 : Value} {B : Option Addr} {n c : Nat} {m : List Cel} {rs : List (List Cel)} (hw : Region.wanted o (yielded ops a.tmps) = true) (s x : Operand)
    (ho : o.op = .call { callee := .builtin .append, args := #[s, x], argTypes := #[29, 29] })
    (hap : ∀ k, P0 k → ¬ P1 k) (h0 : KC.R TC W base P0 v0 m) (h1 : Kd.S KL TL W base P1 (.slice B n c) rs) (hb : W.heap[g]? = some (.cells #[v0] TL (0, 0))) (hg : base ≤ g) (hg0 : ∀ k, P0 k → k ≠ g) (hg1 : ∀ k, P1 k → k ≠ g)
    (hs : a.eval s = .slice (some ⟨g, 0, none⟩) 1 1) (hx : a.eval x = .slice B n c) (hbase : base ≤ W.heap.size) (hl : rs.length ≤ 1000)
    (h : ∀ v1 w1, Kd.S KL TL w1 base (fun k => P0 k ∨ P1 k ∨ k = g ∨ W.heap.size ≤ k) v1 (m :: rs) → W.grownBy w1 (some g) → (v1.ownBlock = some g ∨ ∃ b, v1.ownBlock = some b ∧ W.heap.size ≤ b) → Kc (a.put o.dst v1) w1) :
    if Region.wanted o (yielded ops a.tmps) = true then Oper.wp Try.prog o a W Kc Q else Kc (a.put o.dst undef) W := by
  obtain ⟨f, h2, rfl, h3⟩ := prepend_prep hap h0 h1 hb hg hg0 hg1
  exact Kd.R_append_rows_step (Kd.tag f KL) (w0 := W) base hw s x 29 TL (.slice none 0 0) 24 ho Try.underlying29 info28 rfl (show 0 < 1 by decide) (by omega) _ [(m, 0)] (rs.zipIdx 1) B rs.length c (fun k => P0 k ∨ P1 k ∨ k = g ∨ W.heap.size ≤ k) P1 hs hx h2 h3 (fun _ _ hh => hh) (fun k hk => ⟨.inr (.inl hk), fun he => hg1 k hk (by simpa [Value.ownBlock] using he)⟩) (fun k hk => .inr (.inr (.inr hk))) (Below.refl _ _) hbase (by simp only [List.length_singleton]; omega)
    (fun v1 w1 hr _ hgr hat => h v1 w1 ⟨f, hr⟩ (by simpa [Value.ownBlock] using hgr) (by simpa [Value.ownBlock] using hat))
end
end Go.Proofs.Ythffllegmkolgaa.TreeK

namespace Go.Proofs.Ythffllegmkolgaa.QTree
open Go.RowKit Go.Proofs.YthffllegmkolgaaW.PrintWords Go.Proofs.YthffllegmkolgaaW.PrintLast Go.Proofs.YthffllegmkolgaaW.PrintMore
attribute [local go_sem] max2_int min2_int max_two min_two max_three min_three max_four min_four   -- for this text's walks alone
set_option linter.unusedVariables false
set_option linter.unusedSimpArgs false
def spec_NewTree.f (a0 : Int) : Option ((List (S48)) × (List (List (S48))) × Int × Int) := (spec_l1In.f a0 1 50).bind fun t307 => (if t307 = true then (some (([] : List (S48)), ([] : List (List (S48))), 0, a0)) else (some (([] : List (S48)), ([] : List (List (S48))), 0, 0)))
def spec_l17Copy.l0 : Nat → Int → List (S48) → List (List (S48)) → Int → Int → List (S48) → List (List (S48)) → Int → Int → Option ((List (S48)) × (List (List (S48))) × Int × Int)
  | 0, _, _, _, _, _, _, _, _, _ => none
  | k + 1, x4, x309000, x309001, x309002, x309003, x317000, x317001, x317002, x317003 => if x4 < (x309001.length : Int) then ((some (([] : List (S48)) : List (S48))).bind fun y317 => (if 0 ≤ x4 then (if y317.length + (rd_L6 x309001 x4).length < 2932031007402 then (if x317001.length < 5864062014805 then (spec_l17Copy.l0 k (wrap64 (x4 + 1)) x309000 x309001 x309002 x309003 x317000 (x317001 ++ [(y317 ++ (rd_L6 x309001 x4))]) x317002 x317003) else (none)) else (none)) else (none))) else (some (x317000, x317001, x317002, x317003))
def spec_l17Copy.f (k : Nat) (l0_0 : List (S48)) (l0_1 : List (List (S48))) (a0_2 : Int) (a0_3 : Int) : Option ((List (S48)) × (List (List (S48))) × Int × Int) := (some (([] : List (S48)) : List (S48))).bind fun y310 => (if y310.length + l0_0.length < 2932031007402 then (spec_l17Copy.l0 k 0 l0_0 l0_1 a0_2 a0_3 (y310 ++ l0_0) ([] : List (List (S48))) a0_2 a0_3) else (none))
theorem spec_l17Copy.mono_l : ∀ k, (∀ y0 y1 y2 y3 y4 y5 y6 y7 y8, LeO (spec_l17Copy.l0 k y0 y1 y2 y3 y4 y5 y6 y7 y8) (spec_l17Copy.l0 (k + 1) y0 y1 y2 y3 y4 y5 y6 y7 y8))
  | 0 => fun _ _ _ _ _ _ _ _ _ r h => by simp [spec_l17Copy.l0] at h
  | k + 1 => by
    have ih0 := spec_l17Copy.mono_l k
    · intro y0 y1 y2 y3 y4 y5 y6 y7 y8
      unfold spec_l17Copy.l0
      repeat' first
      | (with_reducible exact ih0 _ _ _ _ _ _ _ _ _)
      | (with_reducible exact LeO.refl _)
      | (with_reducible exact LeO.none _)
      | (with_reducible refine LeO.ite ?_ ?_)
      | (with_reducible refine LeO.bind ?_ (fun _ => ?_))
      | exact ih0 _ _ _ _ _ _ _ _ _
      | exact LeO.none _
      | refine LeO.ite ?_ ?_
      | refine LeO.bind ?_ (fun _ => ?_)
theorem spec_l17Copy.mono : ∀ a0 a1 a2 a3 k, LeO (spec_l17Copy.f k a0 a1 a2 a3) (spec_l17Copy.f (k + 1) a0 a1 a2 a3) := by
  intro a0 a1 a2 a3 k
  have ih0 := spec_l17Copy.mono_l k
  unfold spec_l17Copy.f
  repeat' first
      | (with_reducible exact ih0 _ _ _ _ _ _ _ _ _)
      | (with_reducible exact LeO.refl _)
      | (with_reducible exact LeO.none _)
      | (with_reducible refine LeO.ite ?_ ?_)
      | (with_reducible refine LeO.bind ?_ (fun _ => ?_))
      | exact ih0 _ _ _ _ _ _ _ _ _
      | exact LeO.none _
      | refine LeO.ite ?_ ?_
      | refine LeO.bind ?_ (fun _ => ?_)
def spec_l17Copy.T1 : Bool × List (List Nat × List Nat) := (true, [([], []), ([0], [0]), ([], []), ([2], [2]), ([], []), ([], []), ([5], [5]), ([4, 6], [4, 6]), ([1, 3, 7], [1, 3, 7]), ([], []), ([9, 8, 7, 0, 1, 2, 3, 4, 5, 6, 7, 8, 9], [8, 9])])
def spec_l17Copy.B1 : List Nat := [0, 1, 0, 4, 0, 0, 32, 112, 255, 0, 1023]
def spec_l17Copy.B5 : List Nat := [0, 1, 0, 0, 8, 0, 56, 120, 252, 508, 1023, 2047, 4095]
end Go.Proofs.Ythffllegmkolgaa.QTree

namespace Go.Proofs.Ythffllegmkolgaa.TreeK
open Go.RowKit Go.Proofs.YthffllegmkolgaaW.PrintWords Go.Proofs.YthffllegmkolgaaW.PrintLast Go.Proofs.YthffllegmkolgaaW.PrintMore Go.Proofs.Ythffllegmkolgaa.QTree Go.Proofs.Ythffllegmkolgaa.EvKit
set_option linter.unusedSimpArgs false
set_option linter.unusedVariables false
def Fit (m : List Cel) (rs : List (List Cel)) : Prop := m.length ≤ 1048576 ∧ rs.length ≤ 1048576 ∧ ∀ r ∈ rs, r.length ≤ 1048576
theorem ev_copy_impl (m : List Cel) (rs : List (List Cel)) (s q : Int) (h : Fit m rs) : Ev (fun k => impl_copyTree.f k m rs s q) (m, rs, s, q) := by
  obtain ⟨h1, h2, h3⟩ := h
  have hl : ∀ (d j : Nat), j + d = rs.length → Ev (fun k => impl_copyTree.l0 k rs (rs.length : Int) (j : Int) m (rs.take j) s q) (m, rs, s, q) := by
    intro d
    induction d with
    | zero =>
      intro j hj
      obtain rfl : j = rs.length := by omega
      rw [List.take_length]
      refine Ev.step (f := fun _ => some (m, rs, s, q)) (fun k => ?_) (Ev.now _)
      rw [impl_copyTree.l0, if_neg (by omega)]
    | succ d ih =>
      intro j hj
      have hlt : j < rs.length := by omega
      have ih' := ih (j + 1) (by omega)
      rw [List.take_succ_eq_append_getElem hlt] at ih'
      refine Ev.step (fun k => ?_) ih'
      have hx := h3 rs[j] (List.getElem_mem hlt)
      rw [impl_copyTree.l0, if_pos (by omega), if_pos (by omega), if_pos (by omega), rdL _ _ hlt]
      unfold impl_Cell_100.f
      rw [if_pos (by omega)]
      simp only [Option.bind_some]
      rw [if_pos (by rw [List.length_take]; omega), w64_succ hlt (by omega)]
  unfold impl_copyTree.f impl_Cell_100.f
  simp only [if_pos (show m.length * 48 ≤ 140737488355328 by omega), Option.bind_some]
  simpa using hl rs.length 0 (by omega)
theorem call_copy_impl (A B : Option Addr) (c d : Nat) (x : Tre) (W : World) (h : TreeC W x A c B d) (hf : Fit x.f0 x.f1) :
    Calls Try.prog 70 #[.agg #[.slice A x.f0.length c, .slice B x.f1.length d, .int .i64 x.f2, .int .i64 x.f3]] W fun e w' => ∃ v0 v1 : Value, e = .returned (.agg #[v0, v1, .int .i64 x.f2, .int .i64 x.f3]) ∧ KC.R TC w' W.heap.size (fun _ => True) v0 x.f0 ∧ Kd.S KL TL w' W.heap.size (fun k_ => some k_ ≠ v0.ownBlock) v1 x.f1 ∧ Below W.heap.size W w' := by
  obtain ⟨k, hk⟩ := Ev.rounds (ev_copy_impl x.f0 x.f1 x.f2 x.f3 hf)
  exact impl_copyTree.calls k A c _ B d _ _ _ _ _ _ _ W h.1.2 h.1.1 h.2.2 h.2.1 hk
end Go.Proofs.Ythffllegmkolgaa.TreeK
