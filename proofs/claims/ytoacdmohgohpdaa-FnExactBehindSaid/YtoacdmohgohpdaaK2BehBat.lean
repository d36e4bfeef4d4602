/- All batches of a log, called: what reference and program make is 'allB'. -/
import Derived.Test.YtoacdmohgohpdaaK2LogLog
import Derived.Test.YtoacdmohgohpdaaK2BehPure
namespace Go.Proofs.Ytoacdmohgohpdaa.LogK
open Go.RowKit Go.Proofs.YtoacdmohgohpdaaW.PrintWords Go.Proofs.YtoacdmohgohpdaaW.PrintLast Go.Proofs.YtoacdmohgohpdaaW.PrintMore Go.Proofs.Ytoacdmohgohpdaa.QFnExactBehind
def kf (w0 : World) : Kd Bat where
  sz := k82.sz
  E := []
  K := fun _ x cs => k82.K w0 x cs
  M := fun _ _ _ x cs => k82.K w0 x cs
  K_len := fun h => k82.K_len h
  K_one := fun h => k82.K_one h
  K_below := fun _ h => h
  K_of_M := fun h => h
  M_mono := fun _ h => h
  M_bound := fun h => h
  M_move := fun _ h => h
  M_lower := fun _ h => h
theorem kf_C {w0 w : World} {A : Option Addr} {n : Nat} {xs : List Bat} (h : (kf w0).C w A n xs) (hb : Below w0.heap.size w0 w) : k82.C w A n xs := ReadsRow.imp_ h (Below.refl _ _) (fun _ _ hp => k82.K_below hb hp)
theorem kf_zero {w0 W W' : World} {base : Nat} {ok : Nat → Prop} (h : W'.heap[W.heap.size]? = some (.cells #[] 82 (0, 0))) (hb : base ≤ W.heap.size) (ho : ok W.heap.size) : (kf w0).R 82 W' base ok (.slice (some ⟨W.heap.size, 0, none⟩) 0 0) [] :=
  ⟨fun k hk => by simp [Value.ownBlock] at hk; subst hk; exact ho, [], ⟨rfl, .inr ⟨_, 0, #[], rfl, hb, h, Nat.le_refl _, Nat.zero_le _, by simp, by simp⟩⟩, by simp, fun j p hj => by simp at hj⟩
theorem At.grown {w w1 : World} {g i : Nat} {v : Value} {row : Option Nat} (h : At w g i v) (hg : w.grownBy w1 row) (hne : some g ≠ row) : At w1 g i v :=
  ⟨Nat.lt_of_lt_of_le h.1 hg.size, (World.cell?_of_block (w := w) (hg.block g h.1 hne)).trans h.2⟩
set_option maxHeartbeats 1600000 in
set_option maxRecDepth 100000 in
theorem spec_all (start next roll : Int) (A : Option Addr) (c : Nat) (x : List Seg) (w : World) (hC : k125.C w A x.length x) (_ : x.length ≤ c) (hs : smL x) (hx : x.length ≤ 60) :
    Calls Try.prog 73 #[.agg #[.int .i64 start, .int .i64 next, .int .i64 roll, .slice A x.length c]] w fun e w' => ∃ A' c', e = .returned (.slice A' (allB x).length c') ∧ (allB x).length ≤ c' ∧ k82.C w' A' (allB x).length (allB x) ∧ Below w.heap.size w w' := by
  have HC := Aside0.mk hC
  have HS := Aside0.mk hs
  clear hC hs
  go_enter Try.func73, Try.ntmps73
  go_upto_region 1 with (fail)
  have BK := Aside0.mk (blk_new w (.cells #[.int .i64 start, .int .i64 next, .int .i64 roll, .slice A x.length c] 36))
  have HB := Aside0.mk (bel_alloc w (.cells #[.int .i64 start, .int .i64 next, .int .i64 roll, .slice A x.length c] 36))
  obtain ⟨g, hgg⟩ : ∃ g, g = w.heap.size := ⟨_, rfl⟩
  rw [← hgg] at BK
  simp only [← hgg]
  have hgg2 := hgg
  clear hgg
  have hgw0 : w.heap.size ≤ g ∧ g < (w.alloc (.cells #[.int .i64 start, .int .i64 next, .int .i64 roll, .slice A x.length c] 36)).heap.size := by subst hgg2; simp
  clear hgg2
  generalize w.alloc (.cells #[.int .i64 start, .int .i64 next, .int .i64 roll, .slice A x.length c] 36) = W at *
  have hz0 := (blk_cell BK.out 0).trans rfl
  have hz1 := (blk_cell BK.out 1).trans rfl
  have hz2 := (blk_cell BK.out 2).trans rfl
  have hz3 := (blk_cell BK.out 3).trans rfl
  have hfz0 := blk_frozen BK.out 0
  have hfz1 := blk_frozen BK.out 1
  have hfz2 := blk_frozen BK.out 2
  have hfz3 := blk_frozen BK.out 3
  have A3 : Aside0 (At W g 3 (.slice A x.length c)) := ⟨At.of BK.out rfl⟩
  have hgw : Aside0 (w.heap.size ≤ g ∧ g < W.heap.size) := ⟨hgw0⟩
  clear hgw0
  go_upto_region 2 with (fail)
  have HZ : Aside0 ((kf w).R 82 (W.alloc (.cells #[] 82)) w.heap.size (fun k => k ≠ g) (.slice (some ⟨W.heap.size, 0, none⟩) 0 0) (allB (x.take 0))) := ⟨kf_zero (blk_new W (.cells #[] 82)) HB.out.size (by have := hgw.out.2; omega)⟩
  have HA := bel_alloc W (.cells #[] 82)
  replace A3 := Aside0.mk (A3.out.below HA)
  replace HB := Aside0.mk (bel HB.out HA)
  clear HA hz0 hfz0 hz1 hfz1 hz2 hfz2 hz3 hfz3 BK hgw
  generalize W.alloc (.cells #[] 82) = W1 at *
  go_wp2
  go_loopg [3, 4] (x.length + 1) (fun kq v3 v4 wr => ∃ j : Nat, (j + kq = x.length + 1 ∧ j ≤ x.length) ∧ v4 = .int .i64 (j : Int) ∧ Aside0 ((kf w).R 82 wr w.heap.size (fun k => k ≠ g) v3 (allB (x.take j))) ∧ Aside0 (At wr g 3 (.slice A x.length c)) ∧ Aside0 (Below w.heap.size w wr))
  case atStart => exact ⟨0, ⟨by omega, by omega⟩, rfl, ⟨HZ.out⟩, ⟨by first | exact A3.out | exact A3.out.drewN _⟩, ⟨by repeat (first | (with_reducible exact HB.out) | apply pw_below_drewN)⟩⟩
  case round =>
    clear HZ A3 HB
    obtain ⟨j, hj, rfl, HO, A3, HB⟩ := hrel
    have hz3 := A3.out.2
    by_cases hlt : j < x.length
    case neg =>
      obtain rfl : j = x.length := by omega
      have hO := HO.out
      rw [List.take_length] at hO
      obtain ⟨A', c', rfl, hl', hC'⟩ := Kd.R_reads hO
      clear hO HO
      have HC' := Aside0.mk hC'
      clear hC'
      go_wp2
      go_ret
      exact ⟨A', c', rfl, hl', kf_C (Kd.C_below HC'.out (by first | exact Below.refl _ _ | exact pw_below_drewN (Below.refl _ _) _)) (by repeat (first | (with_reducible exact HB.out) | apply pw_below_drewN)), by repeat (first | (with_reducible exact HB.out) | apply pw_below_drewN)⟩
    obtain ⟨⟨base, bs⟩, hse⟩ : ∃ s : Seg, x[j] = s := ⟨_, rfl⟩
    have hlen : Aside0 ((allB (x.take j)).length ≤ 62914560 ∧ bs.length ≤ 1048576) := ⟨by
      have h1 := allB_take x (fun s hs => (HS.out.2 s hs).2.1) j
      have h2 := (HS.out.2 _ (List.getElem_mem hlt)).2.1
      rw [hse] at h2
      exact ⟨by omega, h2⟩⟩
    have HX : Aside0 (allB (x.take (j + 1)) = allB (x.take j) ++ bs) := ⟨by rw [allB_step x j hlt, hse]⟩
    obtain ⟨ad, A7, c7, ee, g0, g1, hl7, hC7⟩ := elemS HC.out HB.out hlt hse
    cases ee
    clear hse
    have HJ := Aside0.mk hC7
    clear hC7
    go_wp2_with (first | ((with_reducible refine gate_builtin (b := .append) (xs := #[.tmp 13, .tmp 19]) rfl ?_); at_builtin; refine Kd.R_append_rows (kf w) (Rr := k82.K w) (w0 := w) w.heap.size rfl (.tmp 13) (.tmp 19) 78 82 (.agg #[(.int .i64 0), (.int .i64 0), (.int .i64 0), (.int .i64 0), (.int .i64 0), (.int .i64 0), (.slice none 0 0)]) 72 rfl Try.underlying78 info82 rfl (Nat.succ_pos 6) (by omega) _ (allB (x.take j)) bs _ _ _ (fun k => k ≠ g) (fun _ => False) rfl rfl ?aO ?aR (fun _ _ h => h) (fun _ h => h.elim) ?aF ?aB ?aS ?aL ?_; (case aO => exact HO.out); (case aR => exact ReadsRow.imp_ HJ.out (by repeat (first | (with_reducible exact HB.out) | apply pw_below_drewN)) (fun _ _ h => h)); (case aF => exact fun k hk => by have := A3.out.1; omega); (case aB => exact (by repeat (first | (with_reducible exact HB.out) | apply pw_below_drewN))); (case aS => exact HB.out.size); (case aL => have := hlen.out; omega); intro v1 w1 ho hb hg hat; replace A3 := Aside0.mk (At.grown (by first | exact A3.out | exact A3.out.drewN _) hg (fun h => (HO.out).1 g h.symm rfl)); replace HB := Aside0.mk hb; have HO2 := Aside0.mk ho; clear ho hb hg hat))
    replace HO2 := Aside0.mk (HX.out ▸ HO2.out)
    go_roundg (x.length - j)
    case measure => omega
    case rel => exact ⟨j + 1, ⟨by omega, by omega⟩, by go_num, ⟨HO2.out⟩, ⟨by first | exact A3.out | exact A3.out.drewN _⟩, ⟨by repeat (first | (with_reducible exact HB.out) | apply pw_below_drewN)⟩⟩
set_option maxHeartbeats 1600000 in
set_option maxRecDepth 100000 in
theorem impl_all (start next roll : Int) (A : Option Addr) (c : Nat) (x : List Seg) (w : World) (hC : k125.C w A x.length x) (_ : x.length ≤ c) (hs : smL x) (hx : x.length ≤ 60) :
    Calls Try.prog 75 #[.agg #[.int .i64 start, .int .i64 next, .int .i64 roll, .slice A x.length c]] w fun e w' => ∃ A' c', e = .returned (.slice A' (allB x).length c') ∧ (allB x).length ≤ c' ∧ k82.C w' A' (allB x).length (allB x) ∧ Below w.heap.size w w' := by
  have HC := Aside0.mk hC
  have HS := Aside0.mk hs
  clear hC hs
  go_enter Try.func75, Try.ntmps75
  go_upto_region 1 with (fail)
  have BK := Aside0.mk (blk_new w (.cells #[.int .i64 start, .int .i64 next, .int .i64 roll, .slice A x.length c] 36))
  have HB := Aside0.mk (bel_alloc w (.cells #[.int .i64 start, .int .i64 next, .int .i64 roll, .slice A x.length c] 36))
  obtain ⟨g, hgg⟩ : ∃ g, g = w.heap.size := ⟨_, rfl⟩
  rw [← hgg] at BK
  simp only [← hgg]
  have hgg2 := hgg
  clear hgg
  have hgw0 : w.heap.size ≤ g ∧ g < (w.alloc (.cells #[.int .i64 start, .int .i64 next, .int .i64 roll, .slice A x.length c] 36)).heap.size := by subst hgg2; simp
  clear hgg2
  generalize w.alloc (.cells #[.int .i64 start, .int .i64 next, .int .i64 roll, .slice A x.length c] 36) = W at *
  have hz0 := (blk_cell BK.out 0).trans rfl
  have hz1 := (blk_cell BK.out 1).trans rfl
  have hz2 := (blk_cell BK.out 2).trans rfl
  have hz3 := (blk_cell BK.out 3).trans rfl
  have hfz0 := blk_frozen BK.out 0
  have hfz1 := blk_frozen BK.out 1
  have hfz2 := blk_frozen BK.out 2
  have hfz3 := blk_frozen BK.out 3
  have A3 : Aside0 (At W g 3 (.slice A x.length c)) := ⟨At.of BK.out rfl⟩
  have hgw : Aside0 (w.heap.size ≤ g ∧ g < W.heap.size) := ⟨hgw0⟩
  clear hgw0
  go_wp2
  go_loopg [3, 9] (x.length + 1) (fun kq v3 v9 wr => ∃ j : Nat, (j + kq = x.length + 1 ∧ j ≤ x.length) ∧ v9 = .int .i64 (j : Int) ∧ Aside0 ((kf w).R 82 wr w.heap.size (fun k => k ≠ g) v3 (allB (x.take j))) ∧ Aside0 (At wr g 3 (.slice A x.length c)) ∧ Aside0 (Below w.heap.size w wr))
  case atStart => exact ⟨0, ⟨by omega, by omega⟩, rfl, ⟨Kd.R_nil _ _ _ _ _⟩, ⟨by first | exact A3.out | exact A3.out.drewN _⟩, ⟨by repeat (first | (with_reducible exact HB.out) | apply pw_below_drewN)⟩⟩
  case round =>
    clear hz0 hfz0 hz1 hfz1 hz2 hfz2 hz3 hfz3 BK hgw A3 HB
    obtain ⟨j, hj, rfl, HO, A3, HB⟩ := hrel
    have hz3 := A3.out.2
    by_cases hlt : j < x.length
    case neg =>
      obtain rfl : j = x.length := by omega
      have hO := HO.out
      rw [List.take_length] at hO
      obtain ⟨A', c', rfl, hl', hC'⟩ := Kd.R_reads hO
      clear hO HO
      have HC' := Aside0.mk hC'
      clear hC'
      go_wp2
      go_ret
      exact ⟨A', c', rfl, hl', kf_C (Kd.C_below HC'.out (by first | exact Below.refl _ _ | exact pw_below_drewN (Below.refl _ _) _)) (by repeat (first | (with_reducible exact HB.out) | apply pw_below_drewN)), by repeat (first | (with_reducible exact HB.out) | apply pw_below_drewN)⟩
    obtain ⟨⟨base, bs⟩, hse⟩ : ∃ s : Seg, x[j] = s := ⟨_, rfl⟩
    have hlen : Aside0 ((allB (x.take j)).length ≤ 62914560 ∧ bs.length ≤ 1048576) := ⟨by
      have h1 := allB_take x (fun s hs => (HS.out.2 s hs).2.1) j
      have h2 := (HS.out.2 _ (List.getElem_mem hlt)).2.1
      rw [hse] at h2
      exact ⟨by omega, h2⟩⟩
    have HX : Aside0 (allB (x.take (j + 1)) = allB (x.take j) ++ bs) := ⟨by rw [allB_step x j hlt, hse]⟩
    obtain ⟨ad, A7, c7, ee, g0, g1, hl7, hC7⟩ := elemS HC.out HB.out hlt hse
    cases ee
    clear hse
    have HJ := Aside0.mk hC7
    clear hC7
    go_upto_region 5 with (fail)
    have B2 := Aside0.mk (blk_new wr (.cells #[.int .i64 base, .slice A7 bs.length c7] 125))
    have HA := Aside0.mk (bel_alloc wr (.cells #[.int .i64 base, .slice A7 bs.length c7] 125))
    replace A3 := Aside0.mk (A3.out.below HA.out)
    replace HB := Aside0.mk (bel HB.out HA.out)
    replace HO := Aside0.mk (Kd.R_below HO.out HA.out)
    clear HA
    clear g0 g1 hz3
    generalize wr.alloc (.cells #[.int .i64 base, .slice A7 bs.length c7] 125) = W2 at *
    generalize wr.heap.size = g2 at *
    have hy0 := (blk_cell B2.out 0).trans rfl
    have hy1 := (blk_cell B2.out 1).trans rfl
    go_wp2_with (first | ((with_reducible refine gate_builtin (b := .append) (xs := #[.tmp 13, .tmp 15]) rfl ?_); at_builtin; refine Kd.R_append_rows (kf w) (Rr := k82.K w) (w0 := w) w.heap.size rfl (.tmp 13) (.tmp 15) 78 82 (.agg #[(.int .i64 0), (.int .i64 0), (.int .i64 0), (.int .i64 0), (.int .i64 0), (.int .i64 0), (.slice none 0 0)]) 72 rfl Try.underlying78 info82 rfl (Nat.succ_pos 6) (by omega) _ (allB (x.take j)) bs _ _ _ (fun k => k ≠ g) (fun _ => False) rfl rfl ?aO ?aR (fun _ _ h => h) (fun _ h => h.elim) ?aF ?aB ?aS ?aL ?_; (case aO => exact HO.out); (case aR => exact ReadsRow.imp_ HJ.out (by repeat (first | (with_reducible exact HB.out) | apply pw_below_drewN)) (fun _ _ h => h)); (case aF => exact fun k hk => by have := A3.out.1; omega); (case aB => exact (by repeat (first | (with_reducible exact HB.out) | apply pw_below_drewN))); (case aS => exact HB.out.size); (case aL => have := hlen.out; omega); intro v1 w1 ho hb hg hat; replace A3 := Aside0.mk (At.grown (by first | exact A3.out | exact A3.out.drewN _) hg (fun h => (HO.out).1 g h.symm rfl)); replace HB := Aside0.mk hb; have HO2 := Aside0.mk ho; clear ho hb hg hat))
    replace HO2 := Aside0.mk (HX.out ▸ HO2.out)
    go_roundg (x.length - j)
    case measure => omega
    case rel => exact ⟨j + 1, ⟨by omega, by omega⟩, by go_num, ⟨HO2.out⟩, ⟨by first | exact A3.out | exact A3.out.drewN _⟩, ⟨by repeat (first | (with_reducible exact HB.out) | apply pw_below_drewN)⟩⟩
end Go.Proofs.Ytoacdmohgohpdaa.LogK
