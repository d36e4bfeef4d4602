/- Joined: TreeOwn, TreeCopy. -/
import Derived.Test.YthffllegmkolgaaT5TreeMarkW
import Derived.Test.YthffllegmkolgaaT5CelSort
import Derived.Test.YthffllegmkolgaaT5In
import Derived.Test.YthffllegmkolgaaT5TreeLawKit
import Derived.Test.YthffllegmkolgaaT5QTreex15
import Derived.Test.YthffllegmkolgaaT5QTreex13
namespace Go.Proofs.Ythffllegmkolgaa.TreeK
open Go.RowKit Go.Proofs.YthffllegmkolgaaW.PrintWords Go.Proofs.YthffllegmkolgaaW.PrintLast Go.Proofs.YthffllegmkolgaaW.PrintMore Go.Proofs.Ythffllegmkolgaa.QTree Go.Proofs.Ythffllegmkolgaa.EvKit
set_option linter.unusedSimpArgs false
set_option linter.unusedVariables false
abbrev KC := k48
abbrev KL := Kd.slice 48 k48
abbrev TC : Nat := 48
abbrev TL : Nat := 28
theorem own_box {W : World} {base g : Nat} {f : Nat → Nat} {ok : Nat → Prop} {v0 : Value} {m : List Cel} (hb : W.heap[g]? = some (.cells #[v0] TL (0, 0))) (hg : base ≤ g) (hok : ok g) (hm : KL.M W base (fun k => (ok k ∧ k ≠ g) ∧ f k = 0) m [v0]) : (Kd.tag f KL).R TL W base ok (.slice (some ⟨g, 0, none⟩) 1 1) [(m, 0)] := by
  refine ⟨fun k hk => ?_, [v0], ⟨rfl, .inr ⟨g, 1, #[v0], rfl, hg, hb, Nat.le_refl _, by decide, rfl, rfl⟩⟩, ⟨rfl, fun j p hj => ?_⟩⟩
  · have : g = k := by simpa [Value.ownBlock] using hk
    subst this; exact hok
  · match j, hj with
    | 0, hj =>
      obtain rfl : (m, 0) = p := by simpa using hj
      exact KL.M_mono (fun k hk => ⟨⟨hk.1.1, fun he => hk.1.2 (by simpa [Value.ownBlock] using he)⟩, hk.2⟩) hm
    | j + 1, hj => simp at hj
open Classical in
theorem prepend_prep {W : World} {base g : Nat} {P0 P1 : Nat → Prop} {v0 : Value} {B : Option Addr} {n c : Nat} {m : List Cel} {rs : List (List Cel)} (hap : ∀ k, P0 k → ¬ P1 k) (h0 : KC.R TC W base P0 v0 m) (h1 : Kd.S KL TL W base P1 (.slice B n c) rs) (hb : W.heap[g]? = some (.cells #[v0] TL (0, 0))) (hg : base ≤ g) (hg0 : ∀ k, P0 k → k ≠ g) (hg1 : ∀ k, P1 k → k ≠ g) :
    ∃ f : Nat → Nat, (Kd.tag f KL).R TL W base (fun k => P0 k ∨ P1 k ∨ k = g ∨ W.heap.size ≤ k) (.slice (some ⟨g, 0, none⟩) 1 1) [(m, 0)] ∧ n = rs.length ∧ ReadsRow ((Kd.tag f KL).M W base P1) 1 W B rs.length (rs.zipIdx 1) := by
  obtain ⟨f0, h1⟩ := h1
  refine ⟨fun k => if P0 k then 0 else f0 k + 1, own_box hb hg (.inr (.inr (.inl rfl))) ?_, ?_, ?_⟩
  · exact ⟨v0, rfl, Kd.R_mono h0 (fun k hk => ⟨⟨.inl hk, hg0 k hk⟩, if_pos hk⟩)⟩
  · have := (Kd.R_reads' h1).1
    rwa [List.length_zipIdx] at this
  · obtain ⟨A', c', e, _, hr⟩ := h1.2.reads
    injection e with e1 _ _
    subst e1
    rw [List.length_zipIdx] at hr
    refine ⟨by rw [List.length_zipIdx], hr.2.1, fun hn => ?_⟩
    obtain ⟨ad, ha, hc⟩ := hr.2.2 hn
    refine ⟨ad, ha, fun j p hj => ?_⟩
    rw [List.getElem?_zipIdx] at hj
    obtain ⟨x, hx, rfl⟩ := Option.map_eq_some_iff.1 hj
    obtain ⟨cs, hcl, hM, hcc⟩ := hc j (x, j) (Kd.zip_at hx)
    exact ⟨cs, hcl, KL.M_mono (fun k hk => ⟨hk.1.1, by show (if P0 k then 0 else f0 k + 1) = 1 + j; rw [if_neg (fun h => hap k h hk.1.1), hk.2]; omega⟩) hM, hcc⟩
section
variable {ops : Array Oper} {rest : List Oper} {o : Oper} {a : Act} {Q : Exit → Act → World → Prop} {Kc : Act → World → Prop}
theorem prepend_step {W : World} {base g : Nat} {P0 P1 : Nat → Prop} {v0 : Value} {B : Option Addr} {n c : Nat} {m : List Cel} {rs : List (List Cel)} (hw : Region.wanted o (yielded ops a.tmps) = true) (s x : Operand)
    (ho : o.op = .call { callee := .builtin .append, args := #[s, x], argTypes := #[29, 29] })
    (hap : ∀ k, P0 k → ¬ P1 k) (h0 : KC.R TC W base P0 v0 m) (h1 : Kd.S KL TL W base P1 (.slice B n c) rs) (hb : W.heap[g]? = some (.cells #[v0] TL (0, 0))) (hg : base ≤ g) (hg0 : ∀ k, P0 k → k ≠ g) (hg1 : ∀ k, P1 k → k ≠ g)
    (hs : a.eval s = .slice (some ⟨g, 0, none⟩) 1 1) (hx : a.eval x = .slice B n c) (hbase : base ≤ W.heap.size) (hl : rs.length ≤ 1000)
    (h : ∀ v1 w1, Kd.S KL TL w1 base (fun k => P0 k ∨ P1 k ∨ k = g ∨ W.heap.size ≤ k) v1 (m :: rs) → W.grownBy w1 (some g) → (v1.ownBlock = some g ∨ ∃ b, v1.ownBlock = some b ∧ W.heap.size ≤ b) → Kc (a.put o.dst v1) w1) :
    if Region.wanted o (yielded ops a.tmps) = true then Oper.wp Try.prog o a W Kc Q else Kc (a.put o.dst undef) W := by
  obtain ⟨f, h2, rfl, h3⟩ := prepend_prep hap h0 h1 hb hg hg0 hg1
  exact Kd.R_append_rows_step (Kd.tag f KL) (w0 := W) base hw s x 29 TL (.slice none 0 0) 24 ho Try.underlying29 info28 rfl (show 0 < 1 by decide) (by omega) _ [(m, 0)] (rs.zipIdx 1) B rs.length c (fun k => P0 k ∨ P1 k ∨ k = g ∨ W.heap.size ≤ k) P1 hs hx h2 h3 (fun _ _ hh => hh) (fun k hk => ⟨.inr (.inl hk), fun he => hg1 k hk (by simpa [Value.ownBlock] using he)⟩) (fun k hk => .inr (.inr (.inr hk))) (Below.refl _ _) hbase (by simp only [List.length_singleton]; omega)
    (fun v1 w1 hr _ hgr hat => h v1 w1 ⟨f, hr⟩ (by simpa [Value.ownBlock] using hgr) (by simpa [Value.ownBlock] using hat))
theorem prepend_list {W : World} {base g : Nat} {P0 P1 : Nat → Prop} {v0 : Value} {B : Option Addr} {n c : Nat} {m : List Cel} {rs : List (List Cel)} (hgd : o.guard = none) (s x : Operand)
    (ho : o.op = .call { callee := .builtin .append, args := #[s, x], argTypes := #[29, 29] })
    (hap : ∀ k, P0 k → ¬ P1 k) (h0 : KC.R TC W base P0 v0 m) (h1 : Kd.S KL TL W base P1 (.slice B n c) rs) (hb : W.heap[g]? = some (.cells #[v0] TL (0, 0))) (hg : base ≤ g) (hg0 : ∀ k, P0 k → k ≠ g) (hg1 : ∀ k, P1 k → k ≠ g)
    (hs : a.eval s = .slice (some ⟨g, 0, none⟩) 1 1) (hx : a.eval x = .slice B n c) (hbase : base ≤ W.heap.size) (hl : rs.length ≤ 1000)
    (h : ∀ v1 w1, Kd.S KL TL w1 base (fun k => P0 k ∨ P1 k ∨ k = g ∨ W.heap.size ≤ k) v1 (m :: rs) → W.grownBy w1 (some g) → (v1.ownBlock = some g ∨ ∃ b, v1.ownBlock = some b ∧ W.heap.size ≤ b) → wpList Try.prog ops Q rest (a.put o.dst v1) w1) :
    wpList Try.prog ops Q (o :: rest) a W := by
  obtain ⟨f, h2, rfl, h3⟩ := prepend_prep hap h0 h1 hb hg hg0 hg1
  exact Kd.R_append_rows (Kd.tag f KL) (w0 := W) base hgd s x 29 TL (.slice none 0 0) 24 ho Try.underlying29 info28 rfl (show 0 < 1 by decide) (by omega) _ [(m, 0)] (rs.zipIdx 1) B rs.length c (fun k => P0 k ∨ P1 k ∨ k = g ∨ W.heap.size ≤ k) P1 hs hx h2 h3 (fun _ _ hh => hh) (fun k hk => ⟨.inr (.inl hk), fun he => hg1 k hk (by simpa [Value.ownBlock] using he)⟩) (fun k hk => .inr (.inr (.inr hk))) (Below.refl _ _) hbase (by simp only [List.length_singleton]; omega)
    (fun v1 w1 hr _ hgr hat => h v1 w1 ⟨f, hr⟩ (by simpa [Value.ownBlock] using hgr) (by simpa [Value.ownBlock] using hat))
end
set_option maxHeartbeats 1600000 in
set_option maxRecDepth 100000 in
theorem mark_tree' (u0 u1 : Value) (x : List Cel) (ls : List (List Cel)) (s q : Int) (k : Int) (P0 P1 : Nat → Prop) (w0 w : World) (hB : Below w0.heap.size w0 w) (h0 : KC.R TC w w0.heap.size P0 u0 x) (h1 : Kd.S KL TL w w0.heap.size P1 u1 ls) (hap : ∀ k, P0 k → ¬ P1 k) (hl0 : ∀ k, P0 k → k < w.heap.size) (hl1 : ∀ k, P1 k → k < w.heap.size) (hk : 0 ≤ k) (hl : k + 4 * x.length + 4 * sumL (ls.map List.length) ≤ 100000000000000) :
    Calls Try.prog 32 #[.agg #[u0, u1, .int .i64 s, .int .i64 q], .int .i64 k] w fun e w' => e = .returned (.int .i64 (k + 4 * x.length + 4 * sumL (ls.map List.length))) ∧ KC.R TC w' w0.heap.size P0 u0 (markL k x.length) ∧ Kd.S KL TL w' w0.heap.size (fun k_ => P1 k_ ∨ w.heap.size ≤ k_) u1 (markR (k + 4 * x.length) (ls.map List.length)) ∧ Below w0.heap.size w0 w' ∧ Kept w w' (fun k_ => P0 k_ ∨ P1 k_) := by
  have HP := zA h0.1
  have HAP := zA hap
  have HL0 := zA hl0
  have HL1 := zA hl1
  have HK := zA ((Kept.refl w (fun k_ => P0 k_ ∨ P1 k_)).alloc (.cells #[u0, u1, .int .i64 s, .int .i64 q] 31))
  have HLE := zA ((Below.size (below_alloc (Below.refl w.heap.size w) (.cells #[u0, u1, .int .i64 s, .int .i64 q] 31))))
  have HB := zA (bel hB (bel_alloc w (.cells #[u0, u1, .int .i64 s, .int .i64 q] 31)))
  have H0 := zA (Kd.R_alloc h0 (.cells #[u0, u1, .int .i64 s, .int .i64 q] 31))
  have H1 := zA (Kd.S_alloc h1 (.cells #[u0, u1, .int .i64 s, .int .i64 q] 31))
  have BK := zA (blk_new w (.cells #[u0, u1, .int .i64 s, .int .i64 q] 31))
  obtain ⟨A, c, rfl⟩ := Kd.R_slice h0
  obtain ⟨B, d, rfl⟩ := Kd.S_slice h1
  clear hB h0 h1 hap hl0 hl1
  go_enter Try.func32, Try.ntmps32
  go_upto_region 1 with (fail)
  obtain ⟨g, hgg⟩ : ∃ g, g = w.heap.size := ⟨_, rfl⟩
  rw [← hgg] at BK
  have HG := zA hgg
  generalize hW : w.alloc (.cells #[.slice A x.length c, .slice B ls.length d, .int .i64 s, .int .i64 q] 31) = W at *
  rw [← hgg]
  clear hgg hW
  have hkBK := keep4 BK.out; obtain ⟨BK0, BK1, BK2, BK3⟩ := hkBK
  go_wp2_with (fail)
  refine (mark_cells P0 (.slice A x.length c) x k w0 W HB.out H0.out hk (by omega)).mono ?_; rintro e w2 ⟨rfl, hR, hb, hkp⟩
  have hR1 := Kd.R_mono (Kd.R_tight rfl hR) (fun k_ hk_ => HP.out k_ hk_.symm)
  replace BK := zA (blk_kept BK.out hkp (fun h => by have := HL0.out g h; have := HG.out; omega))
  replace H0 := zA hR1
  replace H1 := zA (Kd.S_kept H1.out hkp (fun k_ h h' => HAP.out k_ h' h))
  replace HK := zA (HK.out.then_ hkp (fun k_ h => .inl (.inl h)))
  replace HB := zA hb
  have HLE2 := zA (Nat.le_trans HLE.out hkp.1)
  clear hR hR1 hb hkp BK0 BK1 BK2 BK3
  have hkBK := keep4 BK.out; obtain ⟨BK0, BK1, BK2, BK3⟩ := hkBK
  go_wp2_with (fail)
  refine (mark_rows P1 (.slice B ls.length d) ls (k + 4 * x.length) w0 w2 HB.out H1.out (by omega) (by omega)).mono ?_; rintro e w3 ⟨rfl, hR, hb, hkp⟩
  replace H0 := zA (Kd.R_kept H0.out hkp (fun k_ h h' => HAP.out k_ h h'))
  replace H1 := zA (Kd.S_mono hR (ok' := fun k_ => P1 k_ ∨ w.heap.size ≤ k_) (fun k_ h => h.imp id (fun h => Nat.le_trans HLE2.out h)))
  replace HK := zA (HK.out.then_ hkp (fun k_ h => .inl (.inr h)))
  replace HB := zA hb
  clear hR hb hkp BK BK0 BK1 BK2 BK3
  go_wp2_with (fail)
  go_ret
  exact ⟨rfl, by first | exact H0.out | exact Kd.R_drewN H0.out _, by first | exact H1.out | exact Kd.S_drewN H1.out _, by first | exact HB.out | exact pw_below_drewN HB.out _, by first | exact HK.out | exact HK.out.drewN _⟩
theorem mark_tree (u0 u1 : Value) (x : List Cel) (ls : List (List Cel)) (s q : Int) (k : Int) (P0 P1 : Nat → Prop) (w0 w : World) (hB : Below w0.heap.size w0 w) (h0 : KC.R TC w w0.heap.size P0 u0 x) (h1 : Kd.S KL TL w w0.heap.size P1 u1 ls) (hap : ∀ k, P0 k → ¬ P1 k) (hk : 0 ≤ k) (hl : k + 4 * x.length + 4 * sumL (ls.map List.length) ≤ 100000000000000) :
    Calls Try.prog 32 #[.agg #[u0, u1, .int .i64 s, .int .i64 q], .int .i64 k] w fun e w' => e = .returned (.int .i64 (k + 4 * x.length + 4 * sumL (ls.map List.length))) ∧ KC.R TC w' w0.heap.size P0 u0 (markL k x.length) ∧ Kd.S KL TL w' w0.heap.size (fun k_ => P1 k_ ∨ w.heap.size ≤ k_) u1 (markR (k + 4 * x.length) (ls.map List.length)) ∧ Below w0.heap.size w0 w' ∧ Kept w w' (fun k_ => P0 k_ ∨ P1 k_) := by
  refine (mark_tree' u0 u1 x ls s q k (fun k => P0 k ∧ k < w.heap.size) (fun k => P1 k ∧ k < w.heap.size) w0 w hB (Kd.R_mono (Kd.R_bound h0) (fun k h => ⟨h.1, h.2.2.1⟩)) (Kd.S_mono (Kd.S_bound h1) (fun k h => ⟨h.1, h.2.2.1⟩)) (fun k h h' => hap k h.1 h'.1) (fun k h => h.2) (fun k h => h.2) hk hl).mono ?_
  rintro e w' ⟨rfl, h0, h1, hb, hkp⟩
  exact ⟨rfl, Kd.R_mono h0 (fun _ h => h.1), Kd.S_mono h1 (fun _ h => h.imp And.left id), hb, hkp.mono (fun k h => h.imp And.left And.left)⟩
end Go.Proofs.Ythffllegmkolgaa.TreeK

namespace Go.Proofs.Ythffllegmkolgaa.TreeK
open Go.RowKit Go.Proofs.YthffllegmkolgaaW.PrintWords Go.Proofs.YthffllegmkolgaaW.PrintLast Go.Proofs.YthffllegmkolgaaW.PrintMore Go.Proofs.Ythffllegmkolgaa.QTree Go.Proofs.Ythffllegmkolgaa.EvKit
set_option linter.unusedSimpArgs false
set_option linter.unusedVariables false
def Fit (m : List Cel) (rs : List (List Cel)) : Prop := m.length ≤ 1048576 ∧ rs.length ≤ 1048576 ∧ ∀ r ∈ rs, r.length ≤ 1048576
theorem ev_copy_impl (m : List Cel) (rs : List (List Cel)) (s q : Int) (h : Fit m rs) : Ev (fun k => impl_copyTree.f k m rs s q) (m, rs, s, q) := by
  obtain ⟨h1, h2, h3⟩ := h
  have hl : ∀ (d j : Nat), j + d = rs.length → Ev (fun k => impl_copyTree.l0 k rs (rs.length : Int) (j : Int) m (rs.take j) s q) (m, rs, s, q) := by
    intro d
    induction d with
    | zero =>
      intro j hj
      obtain rfl : j = rs.length := by omega
      rw [List.take_length]
      refine Ev.step (f := fun _ => some (m, rs, s, q)) (fun k => ?_) (Ev.now _)
      rw [impl_copyTree.l0, if_neg (by omega)]
    | succ d ih =>
      intro j hj
      have hlt : j < rs.length := by omega
      have ih' := ih (j + 1) (by omega)
      rw [List.take_succ_eq_append_getElem hlt] at ih'
      refine Ev.step (fun k => ?_) ih'
      have hx := h3 rs[j] (List.getElem_mem hlt)
      rw [impl_copyTree.l0, if_pos (by omega), if_pos (by omega), if_pos (by omega), rdL _ _ hlt]
      unfold impl_Cell_100.f
      rw [if_pos (by omega)]
      simp only [Option.bind_some]
      rw [if_pos (by rw [List.length_take]; omega), w64_succ hlt (by omega)]
  unfold impl_copyTree.f impl_Cell_100.f
  simp only [if_pos (show m.length * 48 ≤ 140737488355328 by omega), Option.bind_some]
  simpa using hl rs.length 0 (by omega)
theorem ev_copy_spec (m : List Cel) (rs : List (List Cel)) (s q : Int) (h : Fit m rs) : Ev (fun k => spec_l17Copy.f k m rs s q) (m, rs, s, q) := by
  obtain ⟨h1, h2, h3⟩ := h
  have hl : ∀ (d j : Nat), j + d = rs.length → Ev (fun k => spec_l17Copy.l0 k (j : Int) m rs s q m (rs.take j) s q) (m, rs, s, q) := by
    intro d
    induction d with
    | zero =>
      intro j hj
      obtain rfl : j = rs.length := by omega
      rw [List.take_length]
      refine Ev.step (f := fun _ => some (m, rs, s, q)) (fun k => ?_) (Ev.now _)
      rw [spec_l17Copy.l0, if_neg (by omega)]
    | succ d ih =>
      intro j hj
      have hlt : j < rs.length := by omega
      have ih' := ih (j + 1) (by omega)
      rw [List.take_succ_eq_append_getElem hlt] at ih'
      refine Ev.step (fun k => ?_) ih'
      have hx := h3 rs[j] (List.getElem_mem hlt)
      rw [spec_l17Copy.l0, if_pos (by omega)]
      simp only [Option.bind_some]
      rw [if_pos (by omega), rdL _ _ hlt, if_pos (by simp only [List.length_nil]; omega), if_pos (by rw [List.length_take]; omega), w64_succ hlt (by omega), List.nil_append]
  unfold spec_l17Copy.f
  simp only [Option.bind_some, List.nil_append]
  simp only [if_pos (show ([] : List Cel).length + m.length < 2932031007402 by simp only [List.length_nil]; omega)]
  simpa using hl rs.length 0 (by omega)
theorem ev_join (a b : List Cel) (ha : a.length ≤ 1048576) (hb : b.length ≤ 1048576) : Ev (fun k => spec_l17Join.f k a b) (srtOn a b) := by
  have hl : ∀ (d j : Nat) (acc : List Cel), j + d = b.length → acc.length = a.length + j → Ev (fun k => spec_l17Join.l0 k b acc (j : Int)) (srtOn acc (b.drop j)) := by
    intro d
    induction d with
    | zero =>
      intro j acc hj _
      obtain rfl : j = b.length := by omega
      rw [List.drop_length]
      refine Ev.step (f := fun _ => some acc) (fun k => ?_) (Ev.now _)
      rw [spec_l17Join.l0, if_neg (by omega)]
    | succ d ih =>
      intro j acc hj hacc
      have hlt : j < b.length := by omega
      have ih' := ih (j + 1) (insC b[j] acc) (by omega) (by rw [(insC_perm _ _).length_eq, List.length_cons]; omega)
      rw [List.drop_eq_getElem_cons hlt]
      show Ev _ (srtOn (insC b[j] acc) (b.drop (j + 1)))
      refine Ev.step (fun k => ?_) ih'
      rw [spec_l17Join.l0, if_pos (by omega), if_pos (by omega), rd48 _ _ hlt]
      unfold spec_l17In.f
      rw [if_pos (by omega)]
      simp only [Option.bind_some]
      rw [w64_succ hlt (by omega)]
  unfold spec_l17Join.f
  simp only [Option.bind_some, List.nil_append]
  simp only [if_pos (show ([] : List Cel).length + a.length < 2932031007402 by simp only [List.length_nil]; omega)]
  simpa using hl b.length 0 a (by omega) (by omega)
theorem call_copy_spec (A B : Option Addr) (c d : Nat) (x : Tre) (W : World) (h : TreeC W x A c B d) (hf : Fit x.f0 x.f1) :
    Calls Try.prog 88 #[.agg #[.slice A x.f0.length c, .slice B x.f1.length d, .int .i64 x.f2, .int .i64 x.f3]] W fun e w' => ∃ v0 v1 : Value, e = .returned (.agg #[v0, v1, .int .i64 x.f2, .int .i64 x.f3]) ∧ KC.R TC w' W.heap.size (fun _ => True) v0 x.f0 ∧ Kd.S KL TL w' W.heap.size (fun k_ => some k_ ≠ v0.ownBlock) v1 x.f1 ∧ Below W.heap.size W w' := by
  obtain ⟨k, hk⟩ := Ev.rounds (ev_copy_spec x.f0 x.f1 x.f2 x.f3 hf)
  exact spec_l17Copy.calls k A c _ B d _ _ _ _ _ _ _ W h.1.2 h.1.1 h.2.2 h.2.1 hk
theorem call_join (A B : Option Addr) (c d : Nat) (a b : List Cel) (W : World) (h : KC.C W A a.length a) (hc : a.length ≤ c) (h' : KC.C W B b.length b) (hd : b.length ≤ d) (ha : a.length ≤ 1048576) (hb : b.length ≤ 1048576) :
    Calls Try.prog 89 #[.slice A a.length c, .slice B b.length d] W fun e w' => ∃ v0 : Value, e = .returned v0 ∧ KC.R TC w' W.heap.size (fun _ => True) v0 (srtOn a b) ∧ Below W.heap.size W w' := by
  obtain ⟨k, hk⟩ := Ev.rounds (ev_join a b ha hb)
  exact spec_l17Join.calls k A c a B d b _ W h hc h' hd hk
end Go.Proofs.Ythffllegmkolgaa.TreeK
