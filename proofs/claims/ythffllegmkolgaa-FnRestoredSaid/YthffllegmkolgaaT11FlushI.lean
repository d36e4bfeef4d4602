/- The program's flush of a tree, in memory. -/
import Derived.Test.YthffllegmkolgaaT11TreeCopy
import Derived.Handy
namespace Go.Proofs.Ythffllegmkolgaa.TreeK
open Go.RowKit Go.Proofs.YthffllegmkolgaaW.PrintWords Go.Proofs.YthffllegmkolgaaW.PrintLast Go.Proofs.YthffllegmkolgaaW.PrintMore Go.Proofs.Ythffllegmkolgaa.QTree Go.Proofs.Ythffllegmkolgaa.EvKit
set_option linter.unusedSimpArgs false
set_option linter.unusedVariables false
def joinL (l : List (List Cel)) : List (List Cel) := if l.length > 6 then l.take (l.length - 2) ++ [srt (l.getD (l.length - 2) [] ++ l.getD (l.length - 1) [])] else l
def flR (m : List Cel) (rs : List (List Cel)) : List (List Cel) := if m = [] then rs else joinL (m :: rs)
theorem rows2 {W : World} {g : Nat} {A5 A6 : Option Addr} {c5 c6 : Nat} {x y : List Cel} (hb : W.heap[g]? = some (.cells #[.slice A5 x.length c5, .slice A6 y.length c6] TL (0, 0))) (h5 : x.length ≤ c5 ∧ KC.C W A5 x.length x) (h6 : y.length ≤ c6 ∧ KC.C W A6 y.length y) : KL.C W (some ⟨g, 0, none⟩) 2 [x, y] := by
  refine ⟨rfl, by decide, fun _ => ⟨_, rfl, fun j p hj => ?_⟩⟩
  match j, hj with
  | 0, hj =>
    obtain rfl : x = p := by simpa using hj
    refine ⟨_, rfl, ⟨A5, c5, rfl, h5.1, h5.2⟩, fun i u hu => ?_⟩
    match i, hu with
    | 0, hu => obtain rfl : _ = u := by simpa using hu
               exact (blk_cell hb 0).trans rfl
    | i + 1, hu => simp at hu
  | 1, hj =>
    obtain rfl : y = p := by simpa using hj
    refine ⟨_, rfl, ⟨A6, c6, rfl, h6.1, h6.2⟩, fun i u hu => ?_⟩
    match i, hu with
    | 0, hu => obtain rfl : _ = u := by simpa using hu
               exact (blk_cell hb 1).trans rfl
    | i + 1, hu => simp at hu
  | j + 2, hj => simp at hj
theorem cellAl {w : World} {a : Addr} {v : Value} (h : w.cell? a = some v) (o : Obj) : (w.alloc o).cell? a = some v := ((bel_alloc w o).cell (zB w _ h)).trans h
theorem w5_ : wrap64 5 = 5 := w64 (by omega) (by omega)
theorem w6_ : wrap64 6 = 6 := w64 (by omega) (by omega)
theorem cellU {w w' : World} {a : Addr} {v : Value} (h : w.cell? a = some v) (hb : Below w.heap.size w w') : w'.cell? a = some v := (hb.cell (zB w _ h)).trans h
theorem noTie_sub {a b : List Cel} (h : a.Sublist b) (hn : noTie b = true) : noTie a = true := by
  unfold noTie at hn ⊢
  exact decide_eq_true ((of_decide_eq_true hn).sublist h)
abbrev blkT (w : World) (g : Nat) (v0 v1 : Value) (s q : Int) : Prop := w.heap[g]? = some (.cells #[v0, v1, .int .i64 s, .int .i64 q] 31 (0, 0))
theorem blkT_put0 {w : World} {g : Nat} {v0 v1 : Value} {s q : Int} (h : blkT w g v0 v1 s q) (u : Value) : blkT (w.setCell ⟨g, 0, none⟩ u) g u v1 s q := blk_put h 0 u rfl
theorem blkT_put1 {w : World} {g : Nat} {v0 v1 : Value} {s q : Int} (h : blkT w g v0 v1 s q) (u : Value) : blkT (w.setCell ⟨g, 1, none⟩ u) g v0 u s q := blk_put h 1 u rfl
theorem blkT_put2 {w : World} {g : Nat} {v0 v1 : Value} {s q : Int} (h : blkT w g v0 v1 s q) (x : Int) : blkT (w.setCell ⟨g, 2, none⟩ (.int .i64 x)) g v0 v1 x q := blk_put h 2 _ rfl
set_option maxHeartbeats 600000 in
set_option maxRecDepth 100000 in
theorem flush_one (base : Nat) (w0 w : World) (g : Nat) (A B : Option Addr) (c d : Nat) (m : List Cel) (rs : List (List Cel)) (s q : Int) (hB : Below w0.heap.size w0 w) (hg : w0.heap.size ≤ g) (hbs : w0.heap.size ≤ base) (hbw : base ≤ w.heap.size)
    (bk : blkT w g (.slice A m.length c) (.slice B rs.length d) s q) (P : Nat → Prop) (h0 : KC.R TC w base P (.slice A m.length c) m) (h1 : Kd.S KL TL w base (fun k => some k ≠ (Value.slice A m.length c).ownBlock ∧ P k) (.slice B rs.length d) rs) (hf : Fit m rs) (hr : rs.length ≤ 6) (hin : ∀ r ∈ m :: rs, ∀ c ∈ r, 1 ≤ c.f2 ∧ c.f2 ≤ 400) (hn : noTie (m :: rs).flatten = true) (hm : m ≠ []) :
    Calls Try.prog 71 #[.pointer (some ⟨g, 0, none⟩)] w fun e w' => e = .returned (.tuple #[]) ∧ ∃ v1', blkT w' g (.slice none 0 0) v1' s q ∧ Kd.S KL TL w' base (fun k => P k ∨ w.heap.size ≤ k) v1' (joinL (m :: rs)) ∧ Below w0.heap.size w0 w' ∧ Kept w w' (fun k => k = g) := by
  have HL : Aside0 (∀ k, some k = (Value.slice A m.length c).ownBlock → k < w.heap.size) := ⟨fun k hk => Kd.R_lt h0 k hk.symm⟩
  have HP0 : Aside0 (∀ k, some k = (Value.slice A m.length c).ownBlock → P k) := ⟨fun k hk => h0.1 k hk.symm⟩
  have H0 := zA (Kd.R_tight rfl h0)
  have H1 := zA (Kd.S_mono (Kd.S_bound h1) (ok' := fun k => (some k ≠ (Value.slice A m.length c).ownBlock ∧ P k) ∧ k < w.heap.size) (fun k hk => ⟨hk.1, hk.2.2.1⟩))
  have HB := zA hB
  have HBS := zA hbw
  have BK := zA bk
  have hpos : decide ((0 : Int) < (m.length : Int)) = true := by
    have : 0 < m.length := List.length_pos_iff.2 hm
    exact decide_eq_true (by omega)
  have hposN : 0 < m.length := List.length_pos_iff.2 hm
  clear hB h0 h1 hbw bk
  obtain ⟨BK0, BK1, BK2, BK3⟩ := keep4 BK.out
  go_enter Try.func71, Try.ntmps71
  go_upto_region 1 with (fail)
  clear BK0 BK1 BK2 BK3
  refine start_ (n := 14) (S := fun w' => w'.cell? ⟨g, 0, none⟩ = some (.slice A m.length c) ∧ w'.cell? ⟨g, 1, none⟩ = some (.slice B rs.length d)) (ds := [13]) #[false, false, false, false, false, false, false, false, false, false, false, false, false, false] (by kernel_rfl) rfl rfl ⟨(blk_cell BK.out 0).trans rfl, (blk_cell BK.out 1).trans rfl⟩ (fun hHeld => ?_)
  replace HL : Aside0 (∀ k, some k = (Value.slice A m.length c).ownBlock → k < w.drew.heap.size) := ⟨HL.out⟩
  replace H0 := zA (Kd.R_drew H0.out)
  replace H1 : Aside0 (Kd.S KL TL w.drew base (fun k => (some k ≠ (Value.slice A m.length c).ownBlock ∧ P k) ∧ k < w.drew.heap.size) (.slice B rs.length d) rs) := ⟨Kd.S_drew H1.out⟩
  replace BK : Aside0 (blkT w.drew g (.slice A m.length c) (.slice B rs.length d) s q) := ⟨BK.out⟩
  replace HB := zA (below_drew HB.out)
  replace HBS : Aside0 (base ≤ w.drew.heap.size) := ⟨HBS.out⟩
  have HK : Aside0 (Kept w w.drew (fun k => k = g)) := ⟨(Kept.refl w _).drew⟩
  have HWS : Aside0 (w.heap.size ≤ w.drew.heap.size) := ⟨Nat.le_refl _⟩
  generalize w.drew = wd at HL H0 H1 BK HB HBS HK HWS hHeld ⊢
  refine pure_ (i := 0) (N := some 10) (v := ?_) (a' := ?_) #[true, false, false, false, false, false, false, false, false, false, false, false, false, false] rfl rfl (by kernel_rfl) (fun _ _ _ h => h) (Or.inl ⟨by rfl, ?_⟩) ?_ ?_
  rotate_left
  · intro w'
    go_simp
    with_reducible rfl
  rotate_left
  · simp only [Act.put, sT_, s0_, sS_, i64_w, i32_w]
    rfl
  refine pure_ (i := 1) (N := some 11) (v := ?_) (a' := ?_) #[true, true, false, false, false, false, false, false, false, false, false, false, false, false] rfl rfl (by kernel_rfl) (fun _ _ _ h => h) (Or.inl ⟨by rfl, ?_⟩) ?_ ?_
  rotate_left
  · intro w'
    go_simp
    with_reducible rfl
  rotate_left
  · simp only [Act.put, sT_, s0_, sS_, i64_w, i32_w]
    rfl
  refine pure_ (i := 2) (N := some 12) (v := ?_) (a' := ?_) #[true, true, true, false, false, false, false, false, false, false, false, false, false, false] rfl rfl (by kernel_rfl) (fun _ _ _ h => h) (Or.inl ⟨by rfl, ?_⟩) ?_ ?_
  rotate_left
  · intro w'
    go_simp
    with_reducible rfl
  rotate_left
  · simp only [Act.put, sT_, s0_, sS_, i64_w, i32_w]
    rfl
  refine pure_ (i := 3) (N := some 13) (v := ?_) (a' := ?_) #[true, true, true, true, false, false, false, false, false, false, false, false, false, false] rfl rfl (by kernel_rfl) (fun _ _ _ h => h) (Or.inl ⟨by rfl, ?_⟩) ?_ ?_
  rotate_left
  · intro w'
    go_simp
    with_reducible rfl
  rotate_left
  · simp only [Act.put, sT_, s0_, sS_, i64_w, i32_w]
    rfl
  refine pure_ (i := 6) (N := some 16) (v := ?_) (a' := ?_) #[true, true, true, true, false, false, true, false, false, false, false, false, false, false] rfl rfl (by kernel_rfl) (fun _ _ _ h => h) (Or.inl ⟨by rfl, ?_⟩) ?_ ?_
  rotate_left
  · intro w'
    go_simp
    with_reducible rfl
  rotate_left
  · simp only [Act.put, sT_, s0_, sS_, i64_w, i32_w]
    rfl
  refine pure_ (i := 7) (N := some 17) (v := ?_) (a' := ?_) #[true, true, true, true, false, false, true, true, false, false, false, false, false, false] rfl rfl (by kernel_rfl) (fun _ _ _ h => h) (Or.inl ⟨by rfl, ?_⟩) ?_ ?_
  rotate_left
  · intro w'
    go_simp
    with_reducible rfl
  rotate_left
  · simp only [Act.put, sT_, s0_, sS_, i64_w, i32_w]
    rfl
  refine pure_ (i := 8) (N := some 18) (v := ?_) (a' := ?_) #[true, true, true, true, false, false, true, true, true, false, false, false, false, false] rfl rfl (by kernel_rfl) (fun _ _ _ h => h) (Or.inl ⟨by rfl, ?_⟩) ?_ ?_
  rotate_left
  · intro w'
    go_simp
    with_reducible rfl
  rotate_left
  · simp only [Act.put, sT_, s0_, sS_, i64_w, i32_w]
    rfl
  refine take_ (i := 4) (N := some 14) (v := ?_) (a' := ?_) #[true, true, true, true, true, false, true, true, true, false, false, false, false, false] rfl rfl (by kernel_rfl) (fun _ _ _ h => h) (Or.inl ⟨by rfl, ?_⟩) hHeld ?_ ?_
  rotate_left
  · rintro w' ⟨s0, s1⟩
    go_simp
    with_reducible rfl
  rotate_left
  · simp only [Act.put, sT_, s0_, sS_, i64_w, i32_w]
    rfl
  refine take_ (i := 9) (N := some 19) (v := ?_) (a' := ?_) #[true, true, true, true, true, false, true, true, true, true, false, false, false, false] rfl rfl (by kernel_rfl) (fun _ _ _ h => h) (Or.inl ⟨by rfl, ?_⟩) hHeld ?_ ?_
  rotate_left
  · rintro w' ⟨s0, s1⟩
    go_simp
    with_reducible rfl
  rotate_left
  · simp only [Act.put, sT_, s0_, sS_, i64_w, i32_w]
    rfl
  refine one_ (i := 5) (N := some 15) #[true, true, true, true, true, true, true, true, true, true, false, false, false, false] rfl rfl (by kernel_rfl) (by decide) (fun K hK => ?_)
  refine value_ (w1 := ?_) (v := ?_) (by rfl) rfl ?_ ?_
  rotate_left 2
  · go_simp
    constructor
    · rfl
    · rfl
  refine hK.out _ _ ⟨(blk_cell (blk_alloc BK.out _) 0).trans rfl, (blk_cell (blk_alloc BK.out _) 1).trans rfl⟩ (fun hHeld => ?_)
  clear hK K
  refine norm_ (a' := ?_) ?_ ?_
  rotate_left
  · show Act.put _ (some 15) _ = _
    simp only [Act.put, sT_, s0_, sS_, i64_w, i32_w]
    rfl
  refine one_ (i := 10) (N := some 20) #[true, true, true, true, true, true, true, true, true, true, true, false, false, false] rfl rfl (by kernel_rfl) (by decide) (fun K hK => ?_)
  refine prepend_step (base := base) (g := wd.heap.size) (P0 := fun k => some k = (Value.slice A m.length c).ownBlock) (P1 := fun k => (some k ≠ (Value.slice A m.length c).ownBlock ∧ P k) ∧ k < wd.heap.size) (v0 := .slice A m.length c) (B := B) (n := rs.length) (c := d) (m := m) (rs := rs) (by rfl) (.tmp 15) (.tmp 19) rfl (fun k h h' => h'.1.1 h) (Kd.R_alloc H0.out _) (Kd.S_alloc H1.out _) (blk_new wd _) HBS.out (fun k h => by have := HL.out k h; omega) (fun k h => by have := h.2; omega) rfl rfl ?_ ?_ ?_
  · exact Nat.le_trans HBS.out (below_alloc (Below.refl _ _) _).size
  · omega
  intro v1 w2 hS hgr hat
  have hsz := (below_alloc (Below.refl wd.heap.size wd) (.cells #[.slice A m.length c] TL)).size
  have hsz28 := (below_alloc (Below.refl wd.heap.size wd) (.cells #[.slice A m.length c] 28)).size
  have hlt := blk_lt BK.out
  have hB0 := HB.out.size
  have hbs2 := HBS.out
  have hws := HWS.out
  replace BK := zA (blk_grown (blk_alloc BK.out _) hgr (by intro he; injection he with he; omega))
  replace HK := zA (Kept.of_grown hgr (HK.out.alloc _) (fun k hk => .inr (by injection hk with hk; omega)))
  replace HB := zA (Below.grown (bel HB.out (bel_alloc wd (.cells #[.slice A m.length c] TL))) hgr (Nat.le_trans HB.out.size hsz) (fun k hk => by injection hk with hk; omega))
  replace HBS := zA (Nat.le_trans HBS.out (Nat.le_trans hsz hgr.size))
  obtain ⟨L, hL⟩ : ∃ L, L = m :: rs := ⟨_, rfl⟩
  rw [← hL] at hS
  have HLE := zA hL
  clear hL
  have HS := zA (Kd.S_mono hS (ok' := fun k => P k ∨ w.heap.size ≤ k) (fun k hk => by
    rcases hk with h | h | h | h
    · exact .inl (HP0.out k h)
    · exact .inl h.1.2
    · exact .inr (by omega)
    · exact .inr (by omega)))
  have HV : Aside0 (∀ k, v1.ownBlock = some k → w.heap.size ≤ k) := ⟨fun k hk => by
    rcases hat with h | ⟨b, h, hle⟩
    · rw [h] at hk; injection hk with hk; omega
    · rw [h] at hk; injection hk with hk; omega⟩
  obtain ⟨B1, d1, rfl⟩ := Kd.S_slice hS
  clear hS hgr hat hsz hsz28 hlt hB0 hbs2 hws H0 H1 HL HWS
  refine hK.out _ _ ⟨(blk_cell BK.out 0).trans rfl, (blk_cell BK.out 1).trans rfl⟩ (fun hHeld => ?_)
  clear hK K
  refine norm_ (a' := ?_) ?_ ?_
  rotate_left
  · show Act.put _ (some 20) _ = _
    simp only [Act.put, sT_, s0_, sS_, i64_w, i32_w]
    rfl
  refine pure_ (i := 11) (N := some 21) (v := ?_) (a' := ?_) #[true, true, true, true, true, true, true, true, true, true, true, true, false, false] rfl rfl (by kernel_rfl) (fun _ _ _ h => h) (Or.inl ⟨by rfl, ?_⟩) ?_ ?_
  rotate_left
  · intro w'
    go_simp
    with_reducible rfl
  rotate_left
  · simp only [Act.put, sT_, s0_, sS_, i64_w, i32_w]
    rfl
  refine pure_ (i := 12) (N := some 22) (v := ?_) (a' := ?_) #[true, true, true, true, true, true, true, true, true, true, true, true, true, false] rfl rfl (by kernel_rfl) (fun _ _ _ h => h) (Or.inl ⟨by rfl, ?_⟩) ?_ ?_
  rotate_left
  · intro w'
    go_simp
    with_reducible rfl
  rotate_left
  · simp only [Act.put, sT_, s0_, sS_, i64_w, i32_w]
    rfl
  have hs0 : w2.cell? ⟨g, 1, none⟩ = some (.slice B rs.length d) := (blk_cell BK.out 1).trans rfl
  have hs1 := blk_frozen BK.out 1
  refine last_ (i := 13) (N := none) #[true, true, true, true, true, true, true, true, true, true, true, true, true, true] rfl rfl (by kernel_rfl) (by decide) (fun K hK => ?_)
  refine skip_ (w1 := ?_) (by rfl) rfl ?_ ?_
  rotate_left
  · go_simp
    rfl
  refine hK.out _ _ ?_
  clear hK K
  refine done_ (by kernel_rfl) ?_
  replace HS := zA (Kd.S_set HS.out BK.out (by decide) 1 (.slice B1 L.length d1))
  replace BK := zA (blkT_put1 BK.out (.slice B1 L.length d1))
  replace HK := zA (HK.out.setCell (p := ⟨g, 1, none⟩) (.inl rfl) (.slice B1 L.length d1))
  replace HB := zA (below_set HB.out hg (j := 1) (v := .slice B1 L.length d1))
  replace HBS : Aside0 (base ≤ (w2.setCell ⟨g, 1, none⟩ (.slice B1 L.length d1)).heap.size) := ⟨by simpa [World.setCell] using HBS.out⟩
  clear hs0 hs1 hHeld
  generalize w2.setCell ⟨g, 1, none⟩ (.slice B1 L.length d1) = w3 at HS BK HK HB HBS ⊢
  obtain ⟨BK0, BK1, BK2, BK3⟩ := keep4 BK.out
  have bf0 := blk_frozen BK.out 0
  have bf1 := blk_frozen BK.out 1
  go_upto_region 3 with (fail)
  replace HS := zA (Kd.S_set HS.out BK.out (by decide) 0 (.slice none 0 0))
  replace BK := zA (blkT_put0 BK.out (.slice none 0 0))
  replace HK := zA (HK.out.setCell (p := ⟨g, 0, none⟩) (.inl rfl) (.slice none 0 0))
  replace HB := zA (below_set HB.out hg (j := 0) (v := .slice none 0 0))
  replace HBS : Aside0 (base ≤ (w3.setCell ⟨g, 0, none⟩ (.slice none 0 0)).heap.size) := ⟨by simpa [World.setCell] using HBS.out⟩
  clear BK0 BK1 BK2 BK3 bf0 bf1
  generalize w3.setCell ⟨g, 0, none⟩ (.slice none 0 0) = w4 at HS BK HK HB HBS ⊢
  obtain ⟨BK0, BK1, BK2, BK3⟩ := keep4 BK.out
  have HLL : Aside0 (L.length = rs.length + 1) := ⟨by rw [HLE.out]; rfl⟩
  by_cases h6 : 6 < L.length
  case neg =>
    have hd6 : decide ((6 : Int) < (L.length : Int)) = false := decide_eq_false (by omega)
    go_wp2
    go_returns
    exact ⟨rfl, .slice B1 L.length d1, BK.out, by rw [← HLE.out, joinL, if_neg h6]; exact HS.out, HB.out, HK.out⟩
  obtain ⟨L0, L1, L2, L3, L4, x, y, rfl⟩ : ∃ L0 L1 L2 L3 L4 x y, L = [L0, L1, L2, L3, L4, x, y] := by
    match L, HLL.out, h6 with
    | [L0, L1, L2, L3, L4, x, y], _, _ => exact ⟨_, _, _, _, _, _, _, rfl⟩
    | [], _, h => simp at h
    | [_], _, h => simp at h
    | [_, _], _, h => simp at h
    | [_, _, _], _, h => simp at h
    | [_, _, _, _], _, h => simp at h
    | [_, _, _, _, _], _, h => simp at h
    | [_, _, _, _, _, _], _, h => simp at h
    | _ :: _ :: _ :: _ :: _ :: _ :: _ :: _ :: _, h, _ => exfalso; simp at h; omega
  obtain ⟨gr, cr, ev, hgr1, hgr2, hgr3⟩ := Kd.S_form HS.out (by simp)
  injection ev with ev1 ev2 ev3
  subst ev1 ev3
  have HRR := (Kd.S_reads' HS.out).2.2
  obtain ⟨a5, A5, c5, e5, hx5, hl5, hC5⟩ := at_L6 HRR 5 (by decide) (by simp)
  cases e5
  obtain ⟨a6, A6, c6, e6, hx6, hl6, hC6⟩ := at_L6 HRR 6 (by decide) (by simp)
  cases e6
  replace hx5 : w4.cell? ⟨gr, 5, none⟩ = some (.slice A5 x.length c5) := hx5
  replace hx6 : w4.cell? ⟨gr, 6, none⟩ = some (.slice A6 y.length c6) := hx6
  have HF : Aside0 (x.length ≤ 1048576 ∧ y.length ≤ 1048576) := by
    have h1 : x ∈ m :: rs := by rw [← HLE.out]; simp
    have h2 : y ∈ m :: rs := by rw [← HLE.out]; simp
    have hall : ∀ r ∈ m :: rs, r.length ≤ 1048576 := fun r hr => by
      rcases List.mem_cons.1 hr with rfl | h
      · exact hf.1
      · exact hf.2.2 r h
    exact ⟨hall x h1, hall y h2⟩
  have H5 : Aside0 (x.length ≤ c5 ∧ KC.C w4 A5 x.length x) := ⟨hl5, hC5⟩
  have H6 : Aside0 (y.length ≤ c6 ∧ KC.C w4 A6 y.length y) := ⟨hl6, hC6⟩
  have HX : Aside0 (w4.cell? ⟨gr, 5, none⟩ = some (.slice A5 x.length c5) ∧ w4.cell? ⟨gr, 6, none⟩ = some (.slice A6 y.length c6)) := ⟨hx5, hx6⟩
  have HG : Aside0 (base ≤ gr ∧ gr < w4.heap.size ∧ w.heap.size ≤ gr) := ⟨hgr1, hgr2, HV.out gr rfl⟩
  clear hl5 hC5 hl6 hC6 hx5 hx6 HRR hgr1 hgr2 hgr3 h6 HLL
  simp only [List.length_cons, List.length_nil, Nat.reduceAdd] at HS BK BK1 ⊢
  go_upto_region 5 with (fail)
  clear BK0 BK1 BK2 BK3
  refine start_ (n := 19) (S := fun w' => w'.cell? ⟨g, 0, none⟩ = some (.slice none 0 0) ∧ w'.cell? ⟨g, 1, none⟩ = some (.slice (some ⟨gr, 0, none⟩) 7 d1) ∧ w'.cell? ⟨gr, 5, none⟩ = some (.slice A5 x.length c5) ∧ w'.cell? ⟨gr, 6, none⟩ = some (.slice A6 y.length c6)) (ds := [18]) #[false, false, false, false, false, false, false, false, false, false, false, false, false, false, false, false, false, false, false] (by kernel_rfl) rfl rfl ⟨(blk_cell BK.out 0).trans rfl, (blk_cell BK.out 1).trans rfl, HX.out.1, HX.out.2⟩ (fun hHeld => ?_)
  replace HS := zA (Kd.S_drew HS.out)
  replace BK : Aside0 (blkT w4.drew g (.slice none 0 0) (.slice (some ⟨gr, 0, none⟩) 7 d1) s q) := ⟨BK.out⟩
  replace HB := zA (below_drew HB.out)
  replace HBS : Aside0 (base ≤ w4.drew.heap.size) := ⟨HBS.out⟩
  replace HK := zA HK.out.drew
  replace H5 : Aside0 (x.length ≤ c5 ∧ KC.C w4.drew A5 x.length x) := ⟨H5.out.1, Kd.C_drew H5.out.2⟩
  replace H6 : Aside0 (y.length ≤ c6 ∧ KC.C w4.drew A6 y.length y) := ⟨H6.out.1, Kd.C_drew H6.out.2⟩
  replace HX : Aside0 (w4.drew.cell? ⟨gr, 5, none⟩ = some (.slice A5 x.length c5) ∧ w4.drew.cell? ⟨gr, 6, none⟩ = some (.slice A6 y.length c6)) := ⟨HX.out⟩
  replace HG : Aside0 (base ≤ gr ∧ gr < w4.drew.heap.size ∧ w.heap.size ≤ gr) := ⟨HG.out⟩
  generalize w4.drew = w5 at HS BK HB HBS HK H5 H6 HX HG hHeld ⊢
  refine pure_ (i := 0) (N := some 33) (v := ?_) (a' := ?_) #[true, false, false, false, false, false, false, false, false, false, false, false, false, false, false, false, false, false, false] rfl rfl (by kernel_rfl) (fun _ _ _ h => h) (Or.inl ⟨by rfl, ?_⟩) ?_ ?_
  rotate_left
  · intro w'
    go_simp
    with_reducible rfl
  rotate_left
  · simp only [Act.put, sT_, s0_, sS_, i64_w, i32_w]
    rfl
  refine pure_ (i := 1) (N := some 34) (v := ?_) (a' := ?_) #[true, true, false, false, false, false, false, false, false, false, false, false, false, false, false, false, false, false, false] rfl rfl (by kernel_rfl) (fun _ _ _ h => h) (Or.inl ⟨by rfl, ?_⟩) ?_ ?_
  rotate_left
  · intro w'
    go_simp
    with_reducible rfl
  rotate_left
  · simp only [Act.put, sT_, s0_, sS_, i64_w, i32_w]
    rfl
  refine pure_ (i := 2) (N := some 35) (v := ?_) (a' := ?_) #[true, true, true, false, false, false, false, false, false, false, false, false, false, false, false, false, false, false, false] rfl rfl (by kernel_rfl) (fun _ _ _ h => h) (Or.inl ⟨by rfl, ?_⟩) ?_ ?_
  rotate_left
  · intro w'
    go_simp
    with_reducible rfl
  rotate_left
  · simp only [Act.put, sT_, s0_, sS_, i64_w, i32_w]
    rfl
  refine pure_ (i := 4) (N := some 37) (v := ?_) (a' := ?_) #[true, true, true, false, true, false, false, false, false, false, false, false, false, false, false, false, false, false, false] rfl rfl (by kernel_rfl) (fun _ _ _ h => h) (Or.inl ⟨by rfl, ?_⟩) ?_ ?_
  rotate_left
  · intro w'
    go_simp
    with_reducible rfl
  rotate_left
  · simp only [Act.put, sT_, s0_, sS_, i64_w, i32_w]
    rfl
  refine pure_ (i := 8) (N := some 41) (v := ?_) (a' := ?_) #[true, true, true, false, true, false, false, false, true, false, false, false, false, false, false, false, false, false, false] rfl rfl (by kernel_rfl) (fun _ _ _ h => h) (Or.inl ⟨by rfl, ?_⟩) ?_ ?_
  rotate_left
  · intro w'
    go_simp
    with_reducible rfl
  rotate_left
  · simp only [Act.put, sT_, s0_, sS_, i64_w, i32_w]
    rfl
  refine pure_ (i := 9) (N := some 42) (v := ?_) (a' := ?_) #[true, true, true, false, true, false, false, false, true, true, false, false, false, false, false, false, false, false, false] rfl rfl (by kernel_rfl) (fun _ _ _ h => h) (Or.inl ⟨by rfl, ?_⟩) ?_ ?_
  rotate_left
  · intro w'
    go_simp
    with_reducible rfl
  rotate_left
  · simp only [Act.put, sT_, s0_, sS_, i64_w, i32_w]
    rfl
  refine pure_ (i := 10) (N := some 43) (v := ?_) (a' := ?_) #[true, true, true, false, true, false, false, false, true, true, true, false, false, false, false, false, false, false, false] rfl rfl (by kernel_rfl) (fun _ _ _ h => h) (Or.inl ⟨by rfl, ?_⟩) ?_ ?_
  rotate_left
  · intro w'
    go_simp
    with_reducible rfl
  rotate_left
  · simp only [Act.put, sT_, s0_, sS_, i64_w, i32_w]
    rfl
  refine pure_ (i := 12) (N := some 45) (v := ?_) (a' := ?_) #[true, true, true, false, true, false, false, false, true, true, true, false, true, false, false, false, false, false, false] rfl rfl (by kernel_rfl) (fun _ _ _ h => h) (Or.inl ⟨by rfl, ?_⟩) ?_ ?_
  rotate_left
  · intro w'
    go_simp
    with_reducible rfl
  rotate_left
  · simp only [Act.put, sT_, s0_, sS_, i64_w, i32_w]
    rfl
  refine pure_ (i := 5) (N := some 38) (v := ?_) (a' := ?_) #[true, true, true, false, true, true, false, false, true, true, true, false, true, false, false, false, false, false, false] rfl rfl (by kernel_rfl) (fun _ _ _ h => h) (Or.inl ⟨by rfl, ?_⟩) ?_ ?_
  rotate_left
  · intro w'
    go_simp
    with_reducible rfl
  rotate_left
  · simp only [Act.put, sT_, s0_, sS_, i64_w, i32_w]
    rfl
  refine pure_ (i := 13) (N := some 46) (v := ?_) (a' := ?_) #[true, true, true, false, true, true, false, false, true, true, true, false, true, true, false, false, false, false, false] rfl rfl (by kernel_rfl) (fun _ _ _ h => h) (Or.inl ⟨by rfl, ?_⟩) ?_ ?_
  rotate_left
  · intro w'
    go_simp
    with_reducible rfl
  rotate_left
  · simp only [Act.put, sT_, s0_, sS_, i64_w, i32_w]
    rfl
  refine take_ (i := 3) (N := some 36) (v := ?_) (a' := ?_) #[true, true, true, true, true, true, false, false, true, true, true, false, true, true, false, false, false, false, false] rfl rfl (by kernel_rfl) (fun _ _ _ h => h) (Or.inl ⟨by rfl, ?_⟩) hHeld ?_ ?_
  rotate_left
  · rintro w' ⟨s0, s1, s2, s3⟩
    go_simp
    with_reducible rfl
  rotate_left
  · simp only [Act.put, sT_, s0_, sS_, i64_w, i32_w]
    rfl
  refine take_ (i := 11) (N := some 44) (v := ?_) (a' := ?_) #[true, true, true, true, true, true, false, false, true, true, true, true, true, true, false, false, false, false, false] rfl rfl (by kernel_rfl) (fun _ _ _ h => h) (Or.inl ⟨by rfl, ?_⟩) hHeld ?_ ?_
  rotate_left
  · rintro w' ⟨s0, s1, s2, s3⟩
    go_simp
    with_reducible rfl
  rotate_left
  · simp only [Act.put, sT_, s0_, sS_, i64_w, i32_w]
    rfl
  refine pure_ (i := 6) (N := some 39) (v := ?_) (a' := ?_) #[true, true, true, true, true, true, true, false, true, true, true, true, true, true, false, false, false, false, false] rfl rfl (by kernel_rfl) (fun _ _ _ h => h) (Or.inl ⟨by rfl, ?_⟩) ?_ ?_
  rotate_left
  · intro w'
    go_simp
    simp only [w5_, w6_]
    go_simp
    first | (with_reducible rfl) | rfl
  rotate_left
  · simp only [Act.put, sT_, s0_, sS_, i64_w, i32_w]
    rfl
  refine pure_ (i := 14) (N := some 47) (v := ?_) (a' := ?_) #[true, true, true, true, true, true, true, false, true, true, true, true, true, true, true, false, false, false, false] rfl rfl (by kernel_rfl) (fun _ _ _ h => h) (Or.inl ⟨by rfl, ?_⟩) ?_ ?_
  rotate_left
  · intro w'
    go_simp
    simp only [w5_, w6_]
    go_simp
    first | (with_reducible rfl) | rfl
  rotate_left
  · simp only [Act.put, sT_, s0_, sS_, i64_w, i32_w]
    rfl
  refine take_ (i := 7) (N := some 40) (v := ?_) (a' := ?_) #[true, true, true, true, true, true, true, true, true, true, true, true, true, true, true, false, false, false, false] rfl rfl (by kernel_rfl) (fun _ _ _ h => h) (Or.inl ⟨by rfl, ?_⟩) hHeld ?_ ?_
  rotate_left
  · rintro w' ⟨s0, s1, s2, s3⟩
    go_simp
    with_reducible rfl
  rotate_left
  · simp only [Act.put, sT_, s0_, sS_, i64_w, i32_w]
    rfl
  refine take_ (i := 15) (N := some 48) (v := ?_) (a' := ?_) #[true, true, true, true, true, true, true, true, true, true, true, true, true, true, true, true, false, false, false] rfl rfl (by kernel_rfl) (fun _ _ _ h => h) (Or.inl ⟨by rfl, ?_⟩) hHeld ?_ ?_
  rotate_left
  · rintro w' ⟨s0, s1, s2, s3⟩
    go_simp
    with_reducible rfl
  rotate_left
  · simp only [Act.put, sT_, s0_, sS_, i64_w, i32_w]
    rfl
  refine one_ (i := 16) (N := some 49) #[true, true, true, true, true, true, true, true, true, true, true, true, true, true, true, true, true, false, false] rfl rfl (by kernel_rfl) (by decide) (fun K hK => ?_)
  refine value_ (w1 := ?_) (v := ?_) (by rfl) rfl ?_ ?_
  rotate_left 2
  · go_simp
    constructor
    · rfl
    · rfl
  refine hK.out _ _ ⟨(blk_cell (blk_alloc BK.out _) 0).trans rfl, (blk_cell (blk_alloc BK.out _) 1).trans rfl, cellAl HX.out.1 _, cellAl HX.out.2 _⟩ (fun hHeld => ?_)
  clear hK K
  refine norm_ (a' := ?_) ?_ ?_
  rotate_left
  · show Act.put _ (some 49) _ = _
    simp only [Act.put, sT_, s0_, sS_, i64_w, i32_w]
    rfl
  refine one_ (i := 17) (N := some 50) #[true, true, true, true, true, true, true, true, true, true, true, true, true, true, true, true, true, true, false] rfl rfl (by kernel_rfl) (by decide) (fun K hK => ?_)
  obtain ⟨z, hz⟩ : ∃ z : List Cel, z = x ++ y := ⟨_, rfl⟩
  have HZ := zA hz
  clear hz
  refine goes_ Try.func72 (by kernel_rfl) rfl #[.slice (some ⟨w5.heap.size, 0, none⟩) 2 2] (by rfl) rfl rfl (by (try simp only [List.map_toArray, List.map_cons, List.map_nil]); first | done | rfl) ?_
  refine (impl_Cell_72.calls (some ⟨w5.heap.size, 0, none⟩) 2 [x, y] z _ (rows2 (blk_new w5 _) ⟨H5.out.1, Kd.C_alloc H5.out.2 _⟩ ⟨H6.out.1, Kd.C_alloc H6.out.2 _⟩) (Nat.le_refl 2) ?_).mono ?_
  · unfold impl_Cell_72.f
    have hxy : ([x, y] : List (List Cel)).flatten = x ++ y := by simp
    rw [hxy, if_pos (by rw [List.length_append]; have := HF.out; omega), HZ.out]
  rintro e w6 ⟨v3, rfl, hR, hb⟩
  refine ⟨_, rfl, ?_⟩
  have HB6 : Aside0 (Below w5.heap.size w5 w6) := ⟨bel (bel_alloc w5 _) hb⟩
  have HR := zA (Kd.R_tight rfl (Kd.R_lower hR (bel_alloc w5 _).size))
  obtain ⟨A3, c3, rfl⟩ := Kd.R_slice HR.out
  refine hK.out _ _ ⟨(blk_cell (blk_below BK.out HB6.out) 0).trans rfl, (blk_cell (blk_below BK.out HB6.out) 1).trans rfl, cellU HX.out.1 HB6.out, cellU HX.out.2 HB6.out⟩ (fun hHeld => ?_)
  clear hK K
  refine norm_ (a' := ?_) ?_ ?_
  rotate_left
  · show Act.put _ (some 50) _ = _
    simp only [Act.put, sT_, s0_, sS_, i64_w, i32_w]
    rfl
  refine pure_ (i := 18) (N := some 3) (v := ?_) (a' := ?_) #[true, true, true, true, true, true, true, true, true, true, true, true, true, true, true, true, true, true, true] rfl rfl (by kernel_rfl) (fun _ _ _ h => h) (Or.inl ⟨by rfl, ?_⟩) ?_ ?_
  rotate_left
  · intro w'
    go_simp
    with_reducible rfl
  rotate_left
  · simp only [Act.put, sT_, s0_, sS_, i64_w, i32_w]
    rfl
  refine done_ (by kernel_rfl) ?_
  go_wp2_with (fail)
  refine (sort_cells (fun k => some k = (Value.slice A3 z.length c3).ownBlock) (.slice A3 z.length c3) z w5 w6 HB6.out HR.out (fun c hc => ?_) ?_ ?_).mono ?_
  · rw [HZ.out] at hc
    rcases List.mem_append.1 hc with h | h
    · exact hin x (by rw [← HLE.out]; simp) c h
    · exact hin y (by rw [← HLE.out]; simp) c h
  · rw [← HLE.out] at hn
    rw [HZ.out]
    refine noTie_sub ?_ hn
    rw [show ([L0, L1, L2, L3, L4, x, y] : List (List Cel)).flatten = [L0, L1, L2, L3, L4].flatten ++ (x ++ y) by simp]
    exact List.sublist_append_right _ _
  · rw [HZ.out, List.length_append]; have := HF.out; omega
  rintro e w7 ⟨rfl, hR, hb, hkp⟩
  replace HG : Aside0 (base ≤ gr ∧ gr < w5.heap.size ∧ base ≤ w5.heap.size ∧ w.heap.size ≤ gr ∧ w.heap.size ≤ w5.heap.size) := ⟨HG.out.1, HG.out.2.1, HBS.out, HG.out.2.2, HK.out.1⟩
  replace HBS : Aside0 (base ≤ w7.heap.size) := ⟨Nat.le_trans HBS.out hb.size⟩
  replace BK := zA (blk_below BK.out hb)
  replace HS := zA (Kd.S_below (Kd.S_mono (Kd.S_bound HS.out) (ok' := fun k => (P k ∨ w.heap.size ≤ k) ∧ k < w5.heap.size) (fun k hk => ⟨hk.1, hk.2.2.1⟩)) hb)
  replace HB := zA (bel HB.out hb)
  replace HK := zA (HK.out.below hb)
  replace HR := zA hR
  clear hR hb hkp HX H5 H6 hHeld
  have hv3 : ∀ k, some k = (Value.slice A3 z.length c3).ownBlock → w5.heap.size ≤ k := fun k hk => Kd.R_base HR.out k hk.symm
  have hng : some g ≠ (Value.slice (some ⟨gr, 0, none⟩) 7 d1).ownBlock := Kd.S_ne HS.out BK.out (by decide)
  have hcap : 7 ≤ d1 := (Kd.S_reads' HS.out).2.1
  have hcap5 : (5 : Int) ≤ (d1 : Int) := by omega
  obtain ⟨BK0, BK1, BK2, BK3⟩ := keep4 BK.out
  go_wp2_with (first | simp only [w5_] | ((with_reducible refine gate_builtin (b := .append) (xs := #[.tmp 60, .tmp 62]) rfl ?_); at_builtin; refine Kd.S_append KL (w0 := w7) base rfl (.tmp 60) (.tmp 62) 29 TL (.slice none 0 0) 24 rfl Try.underlying29 info28 rfl (by decide) (by omega) (.slice (some ⟨gr, 0, none⟩) 5 d1) [L0, L1, L2, L3, L4] (srt z) [.slice A3 z.length c3] (fun k => P k ∨ w.heap.size ≤ k) (fun k => some k = (Value.slice A3 z.length c3).ownBlock) ?aS rfl ?aP ?aK (fun k hk => .inr (Nat.le_trans HK.out.1 hk)) ?aO (Below.refl _ _) HBS.out (by simp) ?_; (case aS => first | rfl | (simp only [w5_]; rfl)); (case aP => exact Kd.M_row (Kd.R_lower HR.out HG.out.2.2.1)); (case aK => exact fun k hk => ⟨.inr (Nat.le_trans HG.out.2.2.2.2 (hv3 k hk)), fun he => by have h1 := hv3 k hk; have h2 : k = gr := (by simpa [Value.ownBlock] using he); have := HG.out.2.1; omega⟩); (case aO => exact Kd.S_mono (Kd.S_take HS.out (m := 5) (by simp)) (fun k hk => ⟨hk.1, fun he => by have h1 := hv3 k he; have h2 := hk.2; omega⟩)); intro v1 w9 hS _ hgr hat; obtain ⟨B9, d9, e9⟩ := Kd.S_slice hS; obtain rfl : v1 = .slice B9 6 d9 := e9; replace BK := zA (blk_grown BK.out hgr (by simpa [Value.ownBlock] using hng)); replace HK := zA (Kept.of_grown hgr HK.out (fun k hk => .inr (by have := HG.out.2.2.2.1; have : gr = k := (by simpa [Value.ownBlock] using hk); omega))); replace HB := zA (Below.grown HB.out hgr HB.out.size (fun k hk => by have := HG.out.1; have : gr = k := (by simpa [Value.ownBlock] using hk); omega)); have HS2 := zA hS; have hs0 : w9.cell? ⟨g, 1, none⟩ = some (.slice (some ⟨gr, 0, none⟩) 7 d1) := (blk_cell BK.out 1).trans rfl; have hs1 := blk_frozen BK.out 1; clear hS hgr hat hv3 hng HS HR HBS BK0 BK1 BK2 BK3))
  replace HS2 := zA (Kd.S_set HS2.out BK.out (by decide) 1 (.slice B9 6 d9))
  replace BK := zA (blkT_put1 BK.out (.slice B9 6 d9))
  replace HK := zA (HK.out.setCell (p := ⟨g, 1, none⟩) (.inl rfl) (.slice B9 6 d9))
  replace HB := zA (below_set HB.out hg (j := 1) (v := .slice B9 6 d9))
  try go_wp2
  go_returns
  exact ⟨rfl, .slice B9 6 d9, BK.out, by rw [← HLE.out]; have h9 := HS2.out; rw [HZ.out] at h9; exact h9, HB.out, HK.out⟩
end Go.Proofs.Ythffllegmkolgaa.TreeK
