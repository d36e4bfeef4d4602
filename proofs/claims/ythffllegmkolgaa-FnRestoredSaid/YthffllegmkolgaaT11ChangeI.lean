/- The program's change of a tree, in memory. -/
import Derived.Test.YthffllegmkolgaaT11FlOwn
import Derived.Test.YthffllegmkolgaaT11ChPure
namespace Go.Proofs.Ythffllegmkolgaa.TreeK
open Go.RowKit Go.Proofs.YthffllegmkolgaaW.PrintWords Go.Proofs.YthffllegmkolgaaW.PrintLast Go.Proofs.YthffllegmkolgaaW.PrintMore Go.Proofs.Ythffllegmkolgaa.QTree Go.Proofs.Ythffllegmkolgaa.EvKit
set_option linter.unusedSimpArgs false
set_option linter.unusedVariables false
set_option linter.unnecessarySimpa false
theorem text_ok (a : ByteArray) (w : World) : Calls Try.prog 97 #[.string a] w fun e w' => e = .returned (.bool (decide ((a.size : Int) ≤ 100))) ∧ Drawn0 w w' := impl_textOk.calls a _ w rfl
set_option maxHeartbeats 1600000 in
set_option maxRecDepth 100000 in
theorem change_no (w0 w : World) (g : Nat) (v0 v1 : Value) (s q : Int) (c0 c1 : ByteArray) (c2 : Int) (c3 : Bool) (P : Nat → Prop) (hB : Below w0.heap.size w0 w)
    (bk : blkT w g v0 v1 s q) (hc : chB s ⟨c0, c1, c2, c3⟩ = false) :
    Calls Try.prog 86 #[.pointer (some ⟨g, 0, none⟩), .agg #[.string c0, .string c1, .int .i64 c2, .bool c3]] w fun e w' => e = .returned (.bool false) ∧ Below w0.heap.size w0 w' ∧ Kept w w' (fun k => k = g ∨ P k) := by
  have hb0 := bel_alloc w (.cells #[.string c0, .string c1, .int .i64 c2, .bool c3] 48)
  have HB := zA (bel hB hb0)
  have BK := zA (blk_below bk hb0)
  have BC := zA (blk_new w (.cells #[.string c0, .string c1, .int .i64 c2, .bool c3] 48))
  have HK := zA ((Kept.refl w (fun k => k = g ∨ P k)).below hb0)
  unfold chB at hc
  obtain ⟨b1, h1⟩ : ∃ b, (s == 400) = b := ⟨_, rfl⟩
  have T0 := fun W => text_ok c0 W
  have T1 := fun W => text_ok c1 W
  obtain ⟨b2, h2⟩ : ∃ b, decide ((c0.size : Int) ≤ 100) = b := ⟨_, rfl⟩
  obtain ⟨b3, h3⟩ : ∃ b, decide ((c1.size : Int) ≤ 100) = b := ⟨_, rfl⟩
  rw [h2] at T0 hc
  rw [h3] at T1 hc
  rw [h1] at hc
  replace T0 := zA T0
  replace T1 := zA T1
  clear h2 h3 hB bk
  go_enter Try.func86, Try.ntmps86
  go_upto_region 1 with (fail)
  obtain ⟨gc, hgc⟩ : ∃ gc, gc = w.heap.size := ⟨_, rfl⟩
  rw [← hgc] at BC
  simp only [← hgc]
  clear hgc
  generalize w.alloc (.cells #[.string c0, .string c1, .int .i64 c2, .bool c3] 48) = W1 at *
  clear hb0
  obtain ⟨BK0, BK1, BK2, BK3⟩ := keep4 BK.out
  obtain ⟨BC0, BC1, BC2, BC3⟩ := keep4 BC.out
  cases b1 <;> cases b2 <;> cases b3 <;> simp at hc
  all_goals
    go_wp2_with (first
      | (go_at_call 97; refine (T0.out _).mono ?_; rintro e w2 ⟨rfl, hd⟩; obtain ⟨nd, rfl⟩ := hd)
      | (go_at_call 97; refine (T1.out _).mono ?_; rintro e w3 ⟨rfl, hd⟩; obtain ⟨nd, rfl⟩ := hd))
    go_ret
    exact ⟨rfl, by repeat (first | (with_reducible exact HB.out) | apply pw_below_drewN), by repeat (first | (with_reducible exact HK.out) | apply Kept.drewN)⟩
set_option maxHeartbeats 3200000 in
set_option maxRecDepth 100000 in
theorem change_yes (w0 w : World) (g : Nat) (v0 v1 : Value) (m : List Cel) (rs : List (List Cel)) (s q : Int) (c0 c1 : ByteArray) (c2 : Int) (c3 : Bool) (P : Nat → Prop) (hB : Below w0.heap.size w0 w) (hg : w0.heap.size ≤ g) (hgw : g < w.heap.size)
    (bk : blkT w g v0 v1 s q) (h0 : KC.R TC w w0.heap.size P v0 m) (h1 : Kd.S KL TL w w0.heap.size (fun k => some k ≠ v0.ownBlock ∧ P k) v1 rs) (hP : ∀ k, P k → k < w.heap.size) (hf : Fit m rs) (ht : treeB m rs s q = true) (hc : chB s ⟨c0, c1, c2, c3⟩ = true) :
    Calls Try.prog 86 #[.pointer (some ⟨g, 0, none⟩), .agg #[.string c0, .string c1, .int .i64 c2, .bool c3]] w fun e w' => e = .returned (.bool true) ∧ Below w0.heap.size w0 w' ∧ Kept w w' (fun k => k = g ∨ P k) ∧ ∃ v0' v1', blkT w' g v0' v1' (s + 1) q ∧ KC.R TC w' w0.heap.size (fun k => P k ∨ w.heap.size ≤ k) v0' (chM m s q ⟨c0, c1, c2, c3⟩) ∧ Kd.S KL TL w' w0.heap.size (fun k => some k ≠ v0'.ownBlock ∧ (P k ∨ w.heap.size ≤ k)) v1' (chR m rs q) := by
  have hb0 := bel_alloc w (.cells #[.string c0, .string c1, .int .i64 c2, .bool c3] 48)
  have HSZ := zA hB.size
  have HB := zA (bel hB hb0)
  have BK := zA (blk_below bk hb0)
  have BC := zA (blk_new w (.cells #[.string c0, .string c1, .int .i64 c2, .bool c3] 48))
  have HK := zA ((Kept.refl w (fun k => k = g ∨ P k)).below hb0)
  have R0 := zA (Kd.R_below h0 hb0)
  have S0 := zA (Kd.S_below h1 hb0)
  have HP := zA hP
  have HTR := zA (tree_facts ht)
  have HF := zA hf
  have HAT := zA (ch_at ht hc)
  have HTIE := zA (ch_tie (c := ⟨c0, c1, c2, c3⟩) ht)
  obtain ⟨A, cc, rfl⟩ := Kd.R_slice h0
  obtain ⟨B, dd, rfl⟩ := Kd.S_slice h1
  unfold chB at hc
  simp only [Bool.and_eq_true, Bool.not_eq_true'] at hc
  obtain ⟨⟨hs4, h2⟩, h3⟩ := hc
  have hw : wrap64 (s + 1) = s + 1 := w64 (by have := HTR.out.seq; omega) (by have := HTR.out.seq; omega)
  have T0 := fun W => text_ok c0 W
  have T1 := fun W => text_ok c1 W
  rw [h2] at T0
  rw [h3] at T1
  replace T0 := zA T0
  replace T1 := zA T1
  clear h2 h3 hB bk h0 h1 hP ht hf
  go_enter Try.func86, Try.ntmps86
  go_upto_region 1 with (fail)
  obtain ⟨gc, hgc⟩ : ∃ gc, gc = w.heap.size := ⟨_, rfl⟩
  have HGC : Aside0 (w.heap.size ≤ gc ∧ gc ≠ g) := ⟨by omega⟩
  rw [← hgc] at BC
  simp only [← hgc]
  have HPC0 : Aside0 (∀ k, P k → k ≠ gc) := ⟨fun k hk => by have := HP.out k hk; omega⟩
  clear hgc
  generalize w.alloc (.cells #[.string c0, .string c1, .int .i64 c2, .bool c3] 48) = W1 at *
  clear hb0
  obtain ⟨BK0, BK1, BK2, BK3⟩ := keep4 BK.out
  obtain ⟨BC0, BC1, BC2, BC3⟩ := keep4 BC.out
  go_upto_region 3 with (first
      | (go_at_call 97; refine (T0.out _).mono ?_; rintro e w2 ⟨rfl, hd⟩; have hb : Below W1.heap.size W1 w2 := (by obtain ⟨nd, rfl⟩ := hd; exact pw_below_drewN (Below.refl _ _) _); replace BK := zA (blk_below BK.out hb); replace BC := zA (blk_below BC.out hb); replace HB := zA (bel HB.out hb); replace HK := zA (HK.out.below hb); replace R0 := zA (Kd.R_below R0.out hb); replace S0 := zA (Kd.S_below S0.out hb); clear hb hd BK0 BK1 BK2 BK3 BC0 BC1 BC2 BC3; obtain ⟨BK0, BK1, BK2, BK3⟩ := keep4 BK.out; obtain ⟨BC0, BC1, BC2, BC3⟩ := keep4 BC.out)
      | (go_at_call 97; refine (T1.out _).mono ?_; rintro e w3 ⟨rfl, hd⟩; have hb : Below w2.heap.size w2 w3 := (by obtain ⟨nd, rfl⟩ := hd; exact pw_below_drewN (Below.refl _ _) _); replace BK := zA (blk_below BK.out hb); replace BC := zA (blk_below BC.out hb); replace HB := zA (bel HB.out hb); replace HK := zA (HK.out.below hb); replace R0 := zA (Kd.R_below R0.out hb); replace S0 := zA (Kd.S_below S0.out hb); clear hb hd BK0 BK1 BK2 BK3 BC0 BC1 BC2 BC3; obtain ⟨BK0, BK1, BK2, BK3⟩ := keep4 BK.out; obtain ⟨BC0, BC1, BC2, BC3⟩ := keep4 BC.out))
  clear BK0 BK1 BK2 BK3 BC0 BC1 BC2 BC3
  refine start_ (n := 10) (S := fun w' => w'.cell? ⟨g, 0, none⟩ = some (.slice A m.length cc) ∧ w'.cell? ⟨g, 3, none⟩ = some (.int .i64 q)) (ds := [9]) #[false, false, false, false, false, false, false, false, false, false] (by kernel_rfl) rfl rfl ⟨(blk_cell BK.out 0).trans rfl, (blk_cell BK.out 3).trans rfl⟩ (fun hHeld => ?_)
  have hb : Below w3.heap.size w3 w3.drew := below_drew (Below.refl _ _)
  replace BK := zA (blk_below BK.out hb)
  replace BC := zA (blk_below BC.out hb)
  replace HB := zA (bel HB.out hb)
  replace HK := zA (HK.out.below hb)
  replace R0 := zA (Kd.R_below R0.out hb)
  replace S0 := zA (Kd.S_below S0.out hb)
  clear hb
  generalize w3.drew = w4 at BK BC HB HK R0 S0 hHeld ⊢
  refine pure_ (i := 0) (N := some 22) (v := ?_) (a' := ?_) #[true, false, false, false, false, false, false, false, false, false] rfl rfl (by kernel_rfl) (fun _ _ _ h => h) (Or.inl ⟨by rfl, ?_⟩) ?_ ?_
  rotate_left
  · intro w'
    go_simp
    with_reducible rfl
  rotate_left
  · simp only [Act.put, sT_, s0_, sS_, i64_w, i32_w]
    rfl
  refine pure_ (i := 1) (N := some 23) (v := ?_) (a' := ?_) #[true, true, false, false, false, false, false, false, false, false] rfl rfl (by kernel_rfl) (fun _ _ _ h => h) (Or.inl ⟨by rfl, ?_⟩) ?_ ?_
  rotate_left
  · intro w'
    go_simp
    with_reducible rfl
  rotate_left
  · simp only [Act.put, sT_, s0_, sS_, i64_w, i32_w]
    rfl
  refine pure_ (i := 2) (N := some 24) (v := ?_) (a' := ?_) #[true, true, true, false, false, false, false, false, false, false] rfl rfl (by kernel_rfl) (fun _ _ _ h => h) (Or.inl ⟨by rfl, ?_⟩) ?_ ?_
  rotate_left
  · intro w'
    go_simp
    with_reducible rfl
  rotate_left
  · simp only [Act.put, sT_, s0_, sS_, i64_w, i32_w]
    rfl
  refine pure_ (i := 5) (N := some 27) (v := ?_) (a' := ?_) #[true, true, true, false, false, true, false, false, false, false] rfl rfl (by kernel_rfl) (fun _ _ _ h => h) (Or.inl ⟨by rfl, ?_⟩) ?_ ?_
  rotate_left
  · intro w'
    go_simp
    with_reducible rfl
  rotate_left
  · simp only [Act.put, sT_, s0_, sS_, i64_w, i32_w]
    rfl
  refine pure_ (i := 6) (N := some 28) (v := ?_) (a' := ?_) #[true, true, true, false, false, true, true, false, false, false] rfl rfl (by kernel_rfl) (fun _ _ _ h => h) (Or.inl ⟨by rfl, ?_⟩) ?_ ?_
  rotate_left
  · intro w'
    go_simp
    with_reducible rfl
  rotate_left
  · simp only [Act.put, sT_, s0_, sS_, i64_w, i32_w]
    rfl
  refine pure_ (i := 7) (N := some 29) (v := ?_) (a' := ?_) #[true, true, true, false, false, true, true, true, false, false] rfl rfl (by kernel_rfl) (fun _ _ _ h => h) (Or.inl ⟨by rfl, ?_⟩) ?_ ?_
  rotate_left
  · intro w'
    go_simp
    with_reducible rfl
  rotate_left
  · simp only [Act.put, sT_, s0_, sS_, i64_w, i32_w]
    rfl
  refine take_ (i := 3) (N := some 25) (v := ?_) (a' := ?_) #[true, true, true, true, false, true, true, true, false, false] rfl rfl (by kernel_rfl) (fun _ _ _ h => h) (Or.inl ⟨by rfl, ?_⟩) hHeld ?_ ?_
  rotate_left
  · rintro w' ⟨s0, s1⟩
    go_simp
    with_reducible rfl
  rotate_left
  · simp only [Act.put, sT_, s0_, sS_, i64_w, i32_w]
    rfl
  refine take_ (i := 8) (N := some 30) (v := ?_) (a' := ?_) #[true, true, true, true, false, true, true, true, true, false] rfl rfl (by kernel_rfl) (fun _ _ _ h => h) (Or.inl ⟨by rfl, ?_⟩) hHeld ?_ ?_
  rotate_left
  · rintro w' ⟨s0, s1⟩
    go_simp
    with_reducible rfl
  rotate_left
  · simp only [Act.put, sT_, s0_, sS_, i64_w, i32_w]
    rfl
  refine pure_ (i := 4) (N := some 26) (v := ?_) (a' := ?_) #[true, true, true, true, true, true, true, true, true, false] rfl rfl (by kernel_rfl) (fun _ _ _ h => h) (Or.inl ⟨by rfl, ?_⟩) ?_ ?_
  rotate_left
  · intro w'
    go_simp
    with_reducible rfl
  rotate_left
  · simp only [Act.put, sT_, s0_, sS_, i64_w, i32_w]
    rfl
  refine pure_ (i := 9) (N := some 31) (v := ?_) (a' := ?_) #[true, true, true, true, true, true, true, true, true, true] rfl rfl (by kernel_rfl) (fun _ _ _ h => h) (Or.inl ⟨by rfl, ?_⟩) ?_ ?_
  rotate_left
  · intro w'
    go_simp
    with_reducible rfl
  rotate_left
  · simp only [Act.put, sT_, s0_, sS_, i64_w, i32_w]
    rfl
  refine done_ (by kernel_rfl) ?_
  have HGW : Aside0 (gc < w4.heap.size ∧ w.heap.size ≤ w4.heap.size ∧ w0.heap.size ≤ w4.heap.size) := ⟨blk_lt BC.out, HK.out.1, HB.out.size⟩
  have HPC : Aside0 (∀ k, (P k ∨ w4.heap.size ≤ k) → k ≠ gc) := ⟨fun k hk => hk.elim (HPC0.out k) (fun h => by have := HGW.out.1; omega)⟩
  have HBW : Aside0 (w4.heap.size ≤ w4.heap.size) := ⟨Nat.le_refl _⟩
  obtain ⟨m1, hm1⟩ : ∃ m1, m1 = chA m q := ⟨_, rfl⟩
  obtain ⟨r1, hr1⟩ : ∃ r1, r1 = chR m rs q := ⟨_, rfl⟩
  have HCR := zA hr1
  have hcM : chM m s q ⟨c0, c1, c2, c3⟩ = srt (m1 ++ [chC s ⟨c0, c1, c2, c3⟩]) := by rw [hm1]; rfl
  rw [← hm1] at HAT HTIE
  have HCM := zA hcM
  have HM1 : Aside0 (m1.length ≤ 1048576) := ⟨by rw [hm1]; exact Nat.le_trans (chA_sub m q).length_le HF.out.1⟩
  clear hcM
  by_cases hq : (m.length : Int) = q
  · have hq' : ((m.length : Int) == q) = true := by rw [hq]; simp
    have e1 : m1 = [] := by rw [hm1, chA, if_pos hq]
    have e2 : r1 = flR m rs := by rw [hr1, chR, if_pos hq]
    have E1 := zA e1
    have E2 := zA e2
    clear hm1 hr1 e1 e2
    go_upto_region 5 with (go_at_call 71; refine (flush_calls w0.heap.size w0 w4 g (.slice A m.length cc) (.slice B rs.length dd) m rs s q P HB.out hg (Nat.le_refl _) HGW.out.2.2 BK.out R0.out S0.out HF.out HTR.out).mono ?_; rintro e w5 ⟨rfl, u0, u1, hbk, hR, hS, hb, hk⟩; replace BK := zA hbk; replace BC := zA (blk_kept BC.out hk HGC.out.2); replace HK := zA (HK.out.then_ hk (fun k h => .inl (.inl h))); replace HB := zA hb; replace HBW := zA hk.1; rw [← E1.out] at hR; rw [← E2.out] at hS; obtain ⟨A1, cc1, rfl⟩ := Kd.R_slice hR; obtain ⟨B1, dd1, rfl⟩ := Kd.S_slice hS; replace R0 := zA (Kd.R_mono (Kd.R_tight rfl hR) (ok' := fun k => some k = (Value.slice A1 m1.length cc1).ownBlock ∧ (P k ∨ w4.heap.size ≤ k)) (fun k h => ⟨h, .inl (hR.1 k h.symm)⟩)); replace S0 := zA (Kd.S_mono hS (ok' := fun k => (P k ∨ w4.heap.size ≤ k) ∧ some k ≠ (Value.slice A1 m1.length cc1).ownBlock) (fun k h => ⟨h.2, h.1⟩)); clear hbk hR hS hb hk E1 E2)
    obtain ⟨BK0, BK1, BK2, BK3⟩ := keep4 BK.out
    have cf2 := blk_frozen BK.out 2
    go_upto_region 6 with (simp only [hw])
    replace R0 := zA (Kd.R_set R0.out BK.out (by decide) 2 (.int .i64 (s + 1)))
    replace S0 := zA (Kd.S_set S0.out BK.out (by decide) 2 (.int .i64 (s + 1)))
    replace BC := zA (blk_far (p := ⟨g, 2, none⟩) BC.out HGC.out.2 (.int .i64 (s + 1)))
    replace HK := zA (HK.out.setCell (p := ⟨g, 2, none⟩) (.inl (.inl rfl)) (.int .i64 (s + 1)))
    replace HB := zA (below_set HB.out hg (j := 2) (v := .int .i64 (s + 1)))
    replace HBW : Aside0 (w4.heap.size ≤ (w5.setCell ⟨g, 2, none⟩ (.int .i64 (s + 1))).heap.size) := ⟨by simpa [World.setCell] using HBW.out⟩
    replace BK := zA (blkT_put2 BK.out (s + 1))
    clear BK0 BK1 BK2 BK3 cf2
    generalize w5.setCell ⟨g, 2, none⟩ (.int .i64 (s + 1)) = W6 at R0 S0 BC BK HK HB HBW ⊢
    obtain ⟨BK0, BK1, BK2, BK3⟩ := keep4 BK.out
    obtain ⟨BC0, BC1, BC2, BC3⟩ := keep4 BC.out
    have cf2 := blk_frozen BC.out 2
    go_upto_region 7 with (fail)
    replace R0 := zA (Kd.R_far (p := ⟨gc, 2, none⟩) R0.out (fun k hk => HPC.out k hk.2) (.int .i64 (s + 1)))
    replace S0 := zA (Kd.S_far (p := ⟨gc, 2, none⟩) S0.out (fun k hk => HPC.out k hk.1) (.int .i64 (s + 1)))
    replace BK := zA (blk_far (p := ⟨gc, 2, none⟩) BK.out (Ne.symm HGC.out.2) (.int .i64 (s + 1)))
    replace BC : Aside0 ((W6.setCell ⟨gc, 2, none⟩ (.int .i64 (s + 1))).heap[gc]? = some (.cells #[.string c0, .string c1, .int .i64 (s + 1), .bool c3] TC (0, 0))) := ⟨blk_put BC.out 2 _ rfl⟩
    replace HK := zA (HK.out.setCell (p := ⟨gc, 2, none⟩) (.inr HGC.out.1) (.int .i64 (s + 1)))
    replace HB := zA (below_set HB.out (Nat.le_trans HSZ.out HGC.out.1) (j := 2) (v := .int .i64 (s + 1)))
    replace HBW : Aside0 (w4.heap.size ≤ (W6.setCell ⟨gc, 2, none⟩ (.int .i64 (s + 1))).heap.size) := ⟨by simpa [World.setCell] using HBW.out⟩
    clear BK0 BK1 BK2 BK3 BC0 BC1 BC2 BC3 cf2
    generalize W6.setCell ⟨gc, 2, none⟩ (.int .i64 (s + 1)) = W7 at R0 S0 BC BK HK HB HBW ⊢
    obtain ⟨BK0, BK1, BK2, BK3⟩ := keep4 BK.out
    obtain ⟨BC0, BC1, BC2, BC3⟩ := keep4 BC.out
    have hng : some g ≠ (Value.slice A1 m1.length cc1).ownBlock := Kd.R_ne R0.out BK.out (by decide)
    clear BK0 BK1 BK2 BK3 BC0 BC1 BC2 BC3
    refine start_ (n := 11) (S := fun w' => w'.cell? ⟨g, 0, none⟩ = some (.slice A1 m1.length cc1) ∧ w'.cell? ⟨gc, 0, none⟩ = some (.string c0) ∧ w'.cell? ⟨gc, 1, none⟩ = some (.string c1) ∧ w'.cell? ⟨gc, 2, none⟩ = some (.int .i64 (s + 1)) ∧ w'.cell? ⟨gc, 3, none⟩ = some (.bool c3)) (ds := [10]) #[false, false, false, false, false, false, false, false, false, false, false] (by kernel_rfl) rfl rfl ⟨(blk_cell BK.out 0).trans rfl, (blk_cell BC.out 0).trans rfl, (blk_cell BC.out 1).trans rfl, (blk_cell BC.out 2).trans rfl, (blk_cell BC.out 3).trans rfl⟩ (fun hHeld => ?_)
    have hb : Below W7.heap.size W7 W7.drew := below_drew (Below.refl _ _)
    replace BK := zA (blk_below BK.out hb)
    replace BC := zA (blk_below BC.out hb)
    replace HB := zA (bel HB.out hb)
    replace HK := zA (HK.out.below hb)
    replace R0 := zA (Kd.R_below R0.out hb)
    replace S0 := zA (Kd.S_below S0.out hb)
    replace HBW : Aside0 (w4.heap.size ≤ W7.drew.heap.size) := ⟨HBW.out⟩
    clear hb
    generalize W7.drew = W8 at BK BC HB HK R0 S0 HBW hHeld ⊢
    refine pure_ (i := 0) (N := some 46) (v := ?_) (a' := ?_) #[true, false, false, false, false, false, false, false, false, false, false] rfl rfl (by kernel_rfl) (fun _ _ _ h => h) (Or.inl ⟨by rfl, ?_⟩) ?_ ?_
    rotate_left
    · intro w'
      go_simp
      with_reducible rfl
    rotate_left
    · simp only [Act.put, sT_, s0_, sS_, i64_w, i32_w]
      rfl
    refine pure_ (i := 1) (N := some 47) (v := ?_) (a' := ?_) #[true, true, false, false, false, false, false, false, false, false, false] rfl rfl (by kernel_rfl) (fun _ _ _ h => h) (Or.inl ⟨by rfl, ?_⟩) ?_ ?_
    rotate_left
    · intro w'
      go_simp
      with_reducible rfl
    rotate_left
    · simp only [Act.put, sT_, s0_, sS_, i64_w, i32_w]
      rfl
    refine pure_ (i := 2) (N := some 48) (v := ?_) (a' := ?_) #[true, true, true, false, false, false, false, false, false, false, false] rfl rfl (by kernel_rfl) (fun _ _ _ h => h) (Or.inl ⟨by rfl, ?_⟩) ?_ ?_
    rotate_left
    · intro w'
      go_simp
      with_reducible rfl
    rotate_left
    · simp only [Act.put, sT_, s0_, sS_, i64_w, i32_w]
      rfl
    refine pure_ (i := 3) (N := some 49) (v := ?_) (a' := ?_) #[true, true, true, true, false, false, false, false, false, false, false] rfl rfl (by kernel_rfl) (fun _ _ _ h => h) (Or.inl ⟨by rfl, ?_⟩) ?_ ?_
    rotate_left
    · intro w'
      go_simp
      with_reducible rfl
    rotate_left
    · simp only [Act.put, sT_, s0_, sS_, i64_w, i32_w]
      rfl
    refine take_ (i := 4) (N := some 50) (v := ?_) (a' := ?_) #[true, true, true, true, true, false, false, false, false, false, false] rfl rfl (by kernel_rfl) (fun _ _ _ h => h) (Or.inl ⟨by rfl, ?_⟩) hHeld ?_ ?_
    rotate_left
    · rintro w' ⟨s0, s1, s2, s3, s4⟩
      go_simp
      with_reducible rfl
    rotate_left
    · simp only [Act.put, sT_, s0_, sS_, i64_w, i32_w]
      rfl
    refine take_ (i := 5) (N := some 51) (v := ?_) (a' := ?_) #[true, true, true, true, true, true, false, false, false, false, false] rfl rfl (by kernel_rfl) (fun _ _ _ h => h) (Or.inl ⟨by rfl, ?_⟩) hHeld ?_ ?_
    rotate_left
    · rintro w' ⟨s0, s1, s2, s3, s4⟩
      go_simp
      with_reducible rfl
    rotate_left
    · simp only [Act.put, sT_, s0_, sS_, i64_w, i32_w]
      rfl
    refine one_ (i := 6) (N := some 52) #[true, true, true, true, true, true, true, false, false, false, false] rfl rfl (by kernel_rfl) (by decide) (fun K hK => ?_)
    refine value_ (w1 := ?_) (v := ?_) (by rfl) rfl ?_ ?_
    rotate_left 2
    · go_simp
      constructor
      · rfl
      · rfl
    refine hK.out _ _ ⟨(blk_cell (blk_alloc BK.out _) 0).trans rfl, (blk_cell (blk_alloc BC.out _) 0).trans rfl, (blk_cell (blk_alloc BC.out _) 1).trans rfl, (blk_cell (blk_alloc BC.out _) 2).trans rfl, (blk_cell (blk_alloc BC.out _) 3).trans rfl⟩ (fun hHeld => ?_)
    clear hK K
    refine norm_ (a' := ?_) ?_ ?_
    rotate_left
    · show Act.put _ (some 52) _ = _
      simp only [Act.put, sT_, s0_, sS_, i64_w, i32_w]
      rfl
    refine one_ (i := 7) (N := some 53) #[true, true, true, true, true, true, true, true, false, false, false] rfl rfl (by kernel_rfl) (by decide) (fun K hK => ?_)
    refine Kd.R_append_step KC (w0 := W8) w0.heap.size (by rfl) (.tmp 50) (.tmp 52) 28 TC (.agg #[(.string ⟨#[]⟩), (.string ⟨#[]⟩), (.int .i64 0), (.bool false)]) 48 rfl Try.underlying28 info48 rfl (by decide) (by omega) (.slice A1 m1.length cc1) m1 (chC s ⟨c0, c1, c2, c3⟩) [.string c0, .string c1, .int .i64 (s + 1), .bool c3] (fun k => P k ∨ w4.heap.size ≤ k) (fun _ => False) rfl rfl (k48_mkM _ _ _ (chC s ⟨c0, c1, c2, c3⟩)) (fun _ hk => hk.elim) (fun k hk => .inr (Nat.le_trans HBW.out hk)) (Kd.R_mono R0.out (fun k hk => hk.2)) (Below.refl _ _) HB.out.size ?aL ?_
    case aL =>
      have h1 := HM1.out
      omega
    intro v9 W9 hR _ hgr hat
    have hS := Kd.S_after S0.out hgr hat
    replace BK := zA (blk_grown BK.out hgr hng)
    replace BC := zA (blk_grown BC.out hgr (fun he => HPC.out gc (R0.out.1 gc he.symm).2 rfl))
    replace HK := zA (Kept.of_grown hgr HK.out (fun k hk => (R0.out.1 k hk).2.elim (fun h => .inl (.inr h)) (fun h => .inr (Nat.le_trans HGW.out.2.1 h))))
    replace HB := zA (Below.grown HB.out hgr HB.out.size (fun k hk => Kd.R_base R0.out k hk))
    obtain ⟨A9, cc9, e9⟩ := Kd.R_slice hR
    obtain ⟨m9, hm9⟩ : ∃ m9, m9 = m1 ++ [chC s ⟨c0, c1, c2, c3⟩] := ⟨_, rfl⟩
    rw [← hm9] at hR e9
    have HM9 := zA hm9
    clear hm9
    subst e9
    have R9 := zA (Kd.R_mono (Kd.R_tight rfl hR) (ok' := fun k => some k = (Value.slice A9 m9.length cc9).ownBlock ∧ (P k ∨ w4.heap.size ≤ k)) (fun k h => ⟨h, hR.1 k h.symm⟩))
    replace S0 := zA hS
    clear hR hS hgr hat hng R0
    refine hK.out _ _ ⟨(blk_cell BK.out 0).trans rfl, (blk_cell BC.out 0).trans rfl, (blk_cell BC.out 1).trans rfl, (blk_cell BC.out 2).trans rfl, (blk_cell BC.out 3).trans rfl⟩ (fun hHeld => ?_)
    clear hK K
    refine norm_ (a' := ?_) ?_ ?_
    rotate_left
    · show Act.put _ (some 53) _ = _
      simp only [Act.put, sT_, s0_, sS_, i64_w, i32_w]
      rfl
    refine pure_ (i := 8) (N := some 54) (v := ?_) (a' := ?_) #[true, true, true, true, true, true, true, true, true, false, false] rfl rfl (by kernel_rfl) (fun _ _ _ h => h) (Or.inl ⟨by rfl, ?_⟩) ?_ ?_
    rotate_left
    · intro w'
      go_simp
      with_reducible rfl
    rotate_left
    · simp only [Act.put, sT_, s0_, sS_, i64_w, i32_w]
      rfl
    refine pure_ (i := 9) (N := some 55) (v := ?_) (a' := ?_) #[true, true, true, true, true, true, true, true, true, true, false] rfl rfl (by kernel_rfl) (fun _ _ _ h => h) (Or.inl ⟨by rfl, ?_⟩) ?_ ?_
    rotate_left
    · intro w'
      go_simp
      with_reducible rfl
    rotate_left
    · simp only [Act.put, sT_, s0_, sS_, i64_w, i32_w]
      rfl
    have hs0 : W9.cell? ⟨g, 0, none⟩ = some (.slice A1 m1.length cc1) := (blk_cell BK.out 0).trans rfl
    have hs1 := blk_frozen BK.out 0
    refine last_ (i := 10) (N := none) #[true, true, true, true, true, true, true, true, true, true, true] rfl rfl (by kernel_rfl) (by decide) (fun K hK => ?_)
    refine skip_ (w1 := ?_) (by rfl) rfl ?_ ?_
    rotate_left
    · go_simp
      rfl
    refine hK.out _ _ ?_
    clear hK K
    refine done_ (by kernel_rfl) ?_
    replace R9 := zA (Kd.R_set R9.out BK.out (by decide) 0 (.slice A9 m9.length cc9))
    replace S0 := zA (Kd.S_set S0.out BK.out (by decide) 0 (.slice A9 m9.length cc9))
    replace HK := zA (HK.out.setCell (p := ⟨g, 0, none⟩) (.inl (.inl rfl)) (.slice A9 m9.length cc9))
    replace HB := zA (below_set HB.out hg (j := 0) (v := .slice A9 m9.length cc9))
    replace BK := zA (blkT_put0 BK.out (.slice A9 m9.length cc9))
    clear hs0 hs1 hHeld BC
    generalize W9.setCell ⟨g, 0, none⟩ (.slice A9 m9.length cc9) = W10 at R9 S0 BK HK HB ⊢
    obtain ⟨BK0, BK1, BK2, BK3⟩ := keep4 BK.out
    have hng : some g ≠ (Value.slice A9 m9.length cc9).ownBlock := Kd.R_ne R9.out BK.out (by decide)
    go_wp2_with (fail)
    refine (sort_cells (fun k => some k = (Value.slice A9 m9.length cc9).ownBlock ∧ (P k ∨ w4.heap.size ≤ k)) (.slice A9 m9.length cc9) m9 w0 W10 HB.out R9.out ?_ ?_ ?_).mono ?_
    · rw [HM9.out]; exact HAT.out
    · rw [HM9.out]; exact HTIE.out
    · rw [HM9.out, List.length_append, List.length_singleton]; have := HM1.out; omega
    rintro e W11 ⟨rfl, hR, hb, hkp⟩
    replace BK := zA (blk_kept BK.out hkp (fun h => hng h.1))
    replace S0 := zA (Kd.S_kept S0.out hkp (fun k h h' => h.2 h'.1))
    replace HK := zA (HK.out.then_ hkp (fun k h => h.2.elim (fun h => .inl (.inr h)) (fun h => .inr (Nat.le_trans HGW.out.2.1 h))))
    replace HB := zA hb
    replace R9 := zA hR
    clear hR hb hkp BK0 BK1 BK2 BK3
    go_wp2_with (fail)
    go_ret
    have hw4 := HGW.out.2.1
    refine ⟨rfl, by first | exact HB.out | exact pw_below_drewN HB.out _, by first | exact HK.out | exact HK.out.drewN _, .slice A9 m9.length cc9, .slice B1 r1.length dd1, by first | exact BK.out | exact blk_drewN BK.out _, ?_, ?_⟩
    · rw [HCM.out, ← HM9.out]
      first
        | exact Kd.R_mono R9.out (fun k h => h.2.imp id (fun h => Nat.le_trans hw4 h))
        | exact Kd.R_mono (Kd.R_drewN R9.out _) (fun k h => h.2.imp id (fun h => Nat.le_trans hw4 h))
    · rw [← HCR.out]
      first
        | exact Kd.S_mono S0.out (fun k h => ⟨h.2, h.1.imp id (fun h => Nat.le_trans hw4 h)⟩)
        | exact Kd.S_mono (Kd.S_drewN S0.out _) (fun k h => ⟨h.2, h.1.imp id (fun h => Nat.le_trans hw4 h)⟩)
  · have hq' : ((m.length : Int) == q) = false := by rw [beq_eq_false_iff_ne]; exact hq
    have e1 : m1 = m := by rw [hm1, chA, if_neg hq]
    have e2 : r1 = rs := by rw [hr1, chR, if_neg hq]
    clear hm1 hr1
    obtain ⟨A1, hA1⟩ : ∃ A1, A1 = A := ⟨_, rfl⟩
    obtain ⟨cc1, hcc1⟩ : ∃ cc1, cc1 = cc := ⟨_, rfl⟩
    obtain ⟨B1, hB1⟩ : ∃ B1, B1 = B := ⟨_, rfl⟩
    obtain ⟨dd1, hdd1⟩ : ∃ dd1, dd1 = dd := ⟨_, rfl⟩
    rw [← e1, ← hA1, ← hcc1] at R0 S0 BK
    rw [← e2, ← hB1, ← hdd1] at S0 BK
    clear e1 e2 hA1 hcc1 hB1 hdd1
    replace R0 := zA (Kd.R_mono (Kd.R_tight rfl R0.out) (ok' := fun k => some k = (Value.slice A1 m1.length cc1).ownBlock ∧ (P k ∨ w4.heap.size ≤ k)) (fun k h => ⟨h, .inl (R0.out.1 k h.symm)⟩))
    replace S0 := zA (Kd.S_mono S0.out (ok' := fun k => (P k ∨ w4.heap.size ≤ k) ∧ some k ≠ (Value.slice A1 m1.length cc1).ownBlock) (fun k h => ⟨.inl h.2, h.1⟩))
    go_upto_region 5 with (fail)
    obtain ⟨BK0, BK1, BK2, BK3⟩ := keep4 BK.out
    have cf2 := blk_frozen BK.out 2
    go_upto_region 6 with (simp only [hw])
    replace R0 := zA (Kd.R_set R0.out BK.out (by decide) 2 (.int .i64 (s + 1)))
    replace S0 := zA (Kd.S_set S0.out BK.out (by decide) 2 (.int .i64 (s + 1)))
    replace BC := zA (blk_far (p := ⟨g, 2, none⟩) BC.out HGC.out.2 (.int .i64 (s + 1)))
    replace HK := zA (HK.out.setCell (p := ⟨g, 2, none⟩) (.inl (.inl rfl)) (.int .i64 (s + 1)))
    replace HB := zA (below_set HB.out hg (j := 2) (v := .int .i64 (s + 1)))
    replace HBW : Aside0 (w4.heap.size ≤ (w4.setCell ⟨g, 2, none⟩ (.int .i64 (s + 1))).heap.size) := ⟨by simpa [World.setCell] using HBW.out⟩
    replace BK := zA (blkT_put2 BK.out (s + 1))
    clear BK0 BK1 BK2 BK3 cf2
    generalize w4.setCell ⟨g, 2, none⟩ (.int .i64 (s + 1)) = W6 at R0 S0 BC BK HK HB HBW ⊢
    obtain ⟨BK0, BK1, BK2, BK3⟩ := keep4 BK.out
    obtain ⟨BC0, BC1, BC2, BC3⟩ := keep4 BC.out
    have cf2 := blk_frozen BC.out 2
    go_upto_region 7 with (fail)
    replace R0 := zA (Kd.R_far (p := ⟨gc, 2, none⟩) R0.out (fun k hk => HPC.out k hk.2) (.int .i64 (s + 1)))
    replace S0 := zA (Kd.S_far (p := ⟨gc, 2, none⟩) S0.out (fun k hk => HPC.out k hk.1) (.int .i64 (s + 1)))
    replace BK := zA (blk_far (p := ⟨gc, 2, none⟩) BK.out (Ne.symm HGC.out.2) (.int .i64 (s + 1)))
    replace BC : Aside0 ((W6.setCell ⟨gc, 2, none⟩ (.int .i64 (s + 1))).heap[gc]? = some (.cells #[.string c0, .string c1, .int .i64 (s + 1), .bool c3] TC (0, 0))) := ⟨blk_put BC.out 2 _ rfl⟩
    replace HK := zA (HK.out.setCell (p := ⟨gc, 2, none⟩) (.inr HGC.out.1) (.int .i64 (s + 1)))
    replace HB := zA (below_set HB.out (Nat.le_trans HSZ.out HGC.out.1) (j := 2) (v := .int .i64 (s + 1)))
    replace HBW : Aside0 (w4.heap.size ≤ (W6.setCell ⟨gc, 2, none⟩ (.int .i64 (s + 1))).heap.size) := ⟨by simpa [World.setCell] using HBW.out⟩
    clear BK0 BK1 BK2 BK3 BC0 BC1 BC2 BC3 cf2
    generalize W6.setCell ⟨gc, 2, none⟩ (.int .i64 (s + 1)) = W7 at R0 S0 BC BK HK HB HBW ⊢
    obtain ⟨BK0, BK1, BK2, BK3⟩ := keep4 BK.out
    obtain ⟨BC0, BC1, BC2, BC3⟩ := keep4 BC.out
    have hng : some g ≠ (Value.slice A1 m1.length cc1).ownBlock := Kd.R_ne R0.out BK.out (by decide)
    clear BK0 BK1 BK2 BK3 BC0 BC1 BC2 BC3
    refine start_ (n := 11) (S := fun w' => w'.cell? ⟨g, 0, none⟩ = some (.slice A1 m1.length cc1) ∧ w'.cell? ⟨gc, 0, none⟩ = some (.string c0) ∧ w'.cell? ⟨gc, 1, none⟩ = some (.string c1) ∧ w'.cell? ⟨gc, 2, none⟩ = some (.int .i64 (s + 1)) ∧ w'.cell? ⟨gc, 3, none⟩ = some (.bool c3)) (ds := [10]) #[false, false, false, false, false, false, false, false, false, false, false] (by kernel_rfl) rfl rfl ⟨(blk_cell BK.out 0).trans rfl, (blk_cell BC.out 0).trans rfl, (blk_cell BC.out 1).trans rfl, (blk_cell BC.out 2).trans rfl, (blk_cell BC.out 3).trans rfl⟩ (fun hHeld => ?_)
    have hb : Below W7.heap.size W7 W7.drew := below_drew (Below.refl _ _)
    replace BK := zA (blk_below BK.out hb)
    replace BC := zA (blk_below BC.out hb)
    replace HB := zA (bel HB.out hb)
    replace HK := zA (HK.out.below hb)
    replace R0 := zA (Kd.R_below R0.out hb)
    replace S0 := zA (Kd.S_below S0.out hb)
    replace HBW : Aside0 (w4.heap.size ≤ W7.drew.heap.size) := ⟨HBW.out⟩
    clear hb
    generalize W7.drew = W8 at BK BC HB HK R0 S0 HBW hHeld ⊢
    refine pure_ (i := 0) (N := some 46) (v := ?_) (a' := ?_) #[true, false, false, false, false, false, false, false, false, false, false] rfl rfl (by kernel_rfl) (fun _ _ _ h => h) (Or.inl ⟨by rfl, ?_⟩) ?_ ?_
    rotate_left
    · intro w'
      go_simp
      with_reducible rfl
    rotate_left
    · simp only [Act.put, sT_, s0_, sS_, i64_w, i32_w]
      rfl
    refine pure_ (i := 1) (N := some 47) (v := ?_) (a' := ?_) #[true, true, false, false, false, false, false, false, false, false, false] rfl rfl (by kernel_rfl) (fun _ _ _ h => h) (Or.inl ⟨by rfl, ?_⟩) ?_ ?_
    rotate_left
    · intro w'
      go_simp
      with_reducible rfl
    rotate_left
    · simp only [Act.put, sT_, s0_, sS_, i64_w, i32_w]
      rfl
    refine pure_ (i := 2) (N := some 48) (v := ?_) (a' := ?_) #[true, true, true, false, false, false, false, false, false, false, false] rfl rfl (by kernel_rfl) (fun _ _ _ h => h) (Or.inl ⟨by rfl, ?_⟩) ?_ ?_
    rotate_left
    · intro w'
      go_simp
      with_reducible rfl
    rotate_left
    · simp only [Act.put, sT_, s0_, sS_, i64_w, i32_w]
      rfl
    refine pure_ (i := 3) (N := some 49) (v := ?_) (a' := ?_) #[true, true, true, true, false, false, false, false, false, false, false] rfl rfl (by kernel_rfl) (fun _ _ _ h => h) (Or.inl ⟨by rfl, ?_⟩) ?_ ?_
    rotate_left
    · intro w'
      go_simp
      with_reducible rfl
    rotate_left
    · simp only [Act.put, sT_, s0_, sS_, i64_w, i32_w]
      rfl
    refine take_ (i := 4) (N := some 50) (v := ?_) (a' := ?_) #[true, true, true, true, true, false, false, false, false, false, false] rfl rfl (by kernel_rfl) (fun _ _ _ h => h) (Or.inl ⟨by rfl, ?_⟩) hHeld ?_ ?_
    rotate_left
    · rintro w' ⟨s0, s1, s2, s3, s4⟩
      go_simp
      with_reducible rfl
    rotate_left
    · simp only [Act.put, sT_, s0_, sS_, i64_w, i32_w]
      rfl
    refine take_ (i := 5) (N := some 51) (v := ?_) (a' := ?_) #[true, true, true, true, true, true, false, false, false, false, false] rfl rfl (by kernel_rfl) (fun _ _ _ h => h) (Or.inl ⟨by rfl, ?_⟩) hHeld ?_ ?_
    rotate_left
    · rintro w' ⟨s0, s1, s2, s3, s4⟩
      go_simp
      with_reducible rfl
    rotate_left
    · simp only [Act.put, sT_, s0_, sS_, i64_w, i32_w]
      rfl
    refine one_ (i := 6) (N := some 52) #[true, true, true, true, true, true, true, false, false, false, false] rfl rfl (by kernel_rfl) (by decide) (fun K hK => ?_)
    refine value_ (w1 := ?_) (v := ?_) (by rfl) rfl ?_ ?_
    rotate_left 2
    · go_simp
      constructor
      · rfl
      · rfl
    refine hK.out _ _ ⟨(blk_cell (blk_alloc BK.out _) 0).trans rfl, (blk_cell (blk_alloc BC.out _) 0).trans rfl, (blk_cell (blk_alloc BC.out _) 1).trans rfl, (blk_cell (blk_alloc BC.out _) 2).trans rfl, (blk_cell (blk_alloc BC.out _) 3).trans rfl⟩ (fun hHeld => ?_)
    clear hK K
    refine norm_ (a' := ?_) ?_ ?_
    rotate_left
    · show Act.put _ (some 52) _ = _
      simp only [Act.put, sT_, s0_, sS_, i64_w, i32_w]
      rfl
    refine one_ (i := 7) (N := some 53) #[true, true, true, true, true, true, true, true, false, false, false] rfl rfl (by kernel_rfl) (by decide) (fun K hK => ?_)
    refine Kd.R_append_step KC (w0 := W8) w0.heap.size (by rfl) (.tmp 50) (.tmp 52) 28 TC (.agg #[(.string ⟨#[]⟩), (.string ⟨#[]⟩), (.int .i64 0), (.bool false)]) 48 rfl Try.underlying28 info48 rfl (by decide) (by omega) (.slice A1 m1.length cc1) m1 (chC s ⟨c0, c1, c2, c3⟩) [.string c0, .string c1, .int .i64 (s + 1), .bool c3] (fun k => P k ∨ w4.heap.size ≤ k) (fun _ => False) rfl rfl (k48_mkM _ _ _ (chC s ⟨c0, c1, c2, c3⟩)) (fun _ hk => hk.elim) (fun k hk => .inr (Nat.le_trans HBW.out hk)) (Kd.R_mono R0.out (fun k hk => hk.2)) (Below.refl _ _) HB.out.size ?aL ?_
    case aL =>
      have h1 := HM1.out
      omega
    intro v9 W9 hR _ hgr hat
    have hS := Kd.S_after S0.out hgr hat
    replace BK := zA (blk_grown BK.out hgr hng)
    replace BC := zA (blk_grown BC.out hgr (fun he => HPC.out gc (R0.out.1 gc he.symm).2 rfl))
    replace HK := zA (Kept.of_grown hgr HK.out (fun k hk => (R0.out.1 k hk).2.elim (fun h => .inl (.inr h)) (fun h => .inr (Nat.le_trans HGW.out.2.1 h))))
    replace HB := zA (Below.grown HB.out hgr HB.out.size (fun k hk => Kd.R_base R0.out k hk))
    obtain ⟨A9, cc9, e9⟩ := Kd.R_slice hR
    obtain ⟨m9, hm9⟩ : ∃ m9, m9 = m1 ++ [chC s ⟨c0, c1, c2, c3⟩] := ⟨_, rfl⟩
    rw [← hm9] at hR e9
    have HM9 := zA hm9
    clear hm9
    subst e9
    have R9 := zA (Kd.R_mono (Kd.R_tight rfl hR) (ok' := fun k => some k = (Value.slice A9 m9.length cc9).ownBlock ∧ (P k ∨ w4.heap.size ≤ k)) (fun k h => ⟨h, hR.1 k h.symm⟩))
    replace S0 := zA hS
    clear hR hS hgr hat hng R0
    refine hK.out _ _ ⟨(blk_cell BK.out 0).trans rfl, (blk_cell BC.out 0).trans rfl, (blk_cell BC.out 1).trans rfl, (blk_cell BC.out 2).trans rfl, (blk_cell BC.out 3).trans rfl⟩ (fun hHeld => ?_)
    clear hK K
    refine norm_ (a' := ?_) ?_ ?_
    rotate_left
    · show Act.put _ (some 53) _ = _
      simp only [Act.put, sT_, s0_, sS_, i64_w, i32_w]
      rfl
    refine pure_ (i := 8) (N := some 54) (v := ?_) (a' := ?_) #[true, true, true, true, true, true, true, true, true, false, false] rfl rfl (by kernel_rfl) (fun _ _ _ h => h) (Or.inl ⟨by rfl, ?_⟩) ?_ ?_
    rotate_left
    · intro w'
      go_simp
      with_reducible rfl
    rotate_left
    · simp only [Act.put, sT_, s0_, sS_, i64_w, i32_w]
      rfl
    refine pure_ (i := 9) (N := some 55) (v := ?_) (a' := ?_) #[true, true, true, true, true, true, true, true, true, true, false] rfl rfl (by kernel_rfl) (fun _ _ _ h => h) (Or.inl ⟨by rfl, ?_⟩) ?_ ?_
    rotate_left
    · intro w'
      go_simp
      with_reducible rfl
    rotate_left
    · simp only [Act.put, sT_, s0_, sS_, i64_w, i32_w]
      rfl
    have hs0 : W9.cell? ⟨g, 0, none⟩ = some (.slice A1 m1.length cc1) := (blk_cell BK.out 0).trans rfl
    have hs1 := blk_frozen BK.out 0
    refine last_ (i := 10) (N := none) #[true, true, true, true, true, true, true, true, true, true, true] rfl rfl (by kernel_rfl) (by decide) (fun K hK => ?_)
    refine skip_ (w1 := ?_) (by rfl) rfl ?_ ?_
    rotate_left
    · go_simp
      rfl
    refine hK.out _ _ ?_
    clear hK K
    refine done_ (by kernel_rfl) ?_
    replace R9 := zA (Kd.R_set R9.out BK.out (by decide) 0 (.slice A9 m9.length cc9))
    replace S0 := zA (Kd.S_set S0.out BK.out (by decide) 0 (.slice A9 m9.length cc9))
    replace HK := zA (HK.out.setCell (p := ⟨g, 0, none⟩) (.inl (.inl rfl)) (.slice A9 m9.length cc9))
    replace HB := zA (below_set HB.out hg (j := 0) (v := .slice A9 m9.length cc9))
    replace BK := zA (blkT_put0 BK.out (.slice A9 m9.length cc9))
    clear hs0 hs1 hHeld BC
    generalize W9.setCell ⟨g, 0, none⟩ (.slice A9 m9.length cc9) = W10 at R9 S0 BK HK HB ⊢
    obtain ⟨BK0, BK1, BK2, BK3⟩ := keep4 BK.out
    have hng : some g ≠ (Value.slice A9 m9.length cc9).ownBlock := Kd.R_ne R9.out BK.out (by decide)
    go_wp2_with (fail)
    refine (sort_cells (fun k => some k = (Value.slice A9 m9.length cc9).ownBlock ∧ (P k ∨ w4.heap.size ≤ k)) (.slice A9 m9.length cc9) m9 w0 W10 HB.out R9.out ?_ ?_ ?_).mono ?_
    · rw [HM9.out]; exact HAT.out
    · rw [HM9.out]; exact HTIE.out
    · rw [HM9.out, List.length_append, List.length_singleton]; have := HM1.out; omega
    rintro e W11 ⟨rfl, hR, hb, hkp⟩
    replace BK := zA (blk_kept BK.out hkp (fun h => hng h.1))
    replace S0 := zA (Kd.S_kept S0.out hkp (fun k h h' => h.2 h'.1))
    replace HK := zA (HK.out.then_ hkp (fun k h => h.2.elim (fun h => .inl (.inr h)) (fun h => .inr (Nat.le_trans HGW.out.2.1 h))))
    replace HB := zA hb
    replace R9 := zA hR
    clear hR hb hkp BK0 BK1 BK2 BK3
    go_wp2_with (fail)
    go_ret
    have hw4 := HGW.out.2.1
    refine ⟨rfl, by first | exact HB.out | exact pw_below_drewN HB.out _, by first | exact HK.out | exact HK.out.drewN _, .slice A9 m9.length cc9, .slice B1 r1.length dd1, by first | exact BK.out | exact blk_drewN BK.out _, ?_, ?_⟩
    · rw [HCM.out, ← HM9.out]
      first
        | exact Kd.R_mono R9.out (fun k h => h.2.imp id (fun h => Nat.le_trans hw4 h))
        | exact Kd.R_mono (Kd.R_drewN R9.out _) (fun k h => h.2.imp id (fun h => Nat.le_trans hw4 h))
    · rw [← HCR.out]
      first
        | exact Kd.S_mono S0.out (fun k h => ⟨h.2, h.1.imp id (fun h => Nat.le_trans hw4 h)⟩)
        | exact Kd.S_mono (Kd.S_drewN S0.out _) (fun k h => ⟨h.2, h.1.imp id (fun h => Nat.le_trans hw4 h)⟩)
end Go.Proofs.Ythffllegmkolgaa.TreeK
