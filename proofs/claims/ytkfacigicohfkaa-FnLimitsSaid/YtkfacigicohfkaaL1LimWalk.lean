/- The law FnLimits, called with whatever can be read: it returns true and nothing that was there has changed. -/
import Derived.Test.YtkfacigicohfkaaL1Squeeze
import Derived.Test.YtkfacigicohfkaaL1LimFacts
import Derived.Test.YtkfacigicohfkaaL1Open
import Derived.Laws.BytesArg
import Derived.Laws.Cover1
namespace Go.Proofs.Ytkfacigicohfkaa.LimK
open Go.RowKit Go.Proofs.YtkfacigicohfkaaW.PrintWords Go.Proofs.YtkfacigicohfkaaW.PrintLast Go.Proofs.YtkfacigicohfkaaW.PrintMore Go.Proofs.Ytkfacigicohfkaa.QLim Go.Proofs.Ytkfacigicohfkaa.EvKit Go.Proofs.Ytkfacigicohfkaa.MapKit Go.Proofs.Ytkfacigicohfkaa.Open
set_option linter.unusedSimpArgs false
set_option linter.unusedVariables false
abbrev KR := k28
def okB (x : List Int) : Prop := x.length ≤ 9223372036854775807 ∧ ∀ a ∈ x, 0 ≤ a ∧ a ≤ 255
theorem opens_bytes : Opens Try.prog 22 (Kd.slice 5 KB) okB := Opens.imp (opens_slice Try.underlying22 (by kernel_rfl) (opensU8 Try.underlying5)) (fun _ h => ⟨h.1, h.2⟩)
theorem info28 : (Try.prog.info? 28).map (fun i => (i.zero, i.size, i.bytes)) = some (some (.agg #[.int .i64 0, .bool false, .string ⟨#[]⟩, .bool false, .string ⟨#[]⟩, .slice none 0 0]), 6, 80) := by kernel_rfl
theorem at_ex (bs : List Int) (hb : bs.length ≤ 1048576) (ok : ∀ a ∈ bs, 0 ≤ a ∧ a ≤ 255) : ∃ r : Nat, laws_at.f bs 0 = some (r : Int) ∧ r ≤ 255 := by
  unfold laws_at.f
  by_cases hl : (0 : Int) < (bs.length : Int)
  · rw [if_pos hl, if_pos (by omega)]
    have hlt : 0 < bs.length := by omega
    have hr : rd bs 0 = bs[0] := by simp [rd, hlt]
    have h1 := ok _ (List.getElem_mem hlt)
    rw [hr, w64 (by omega) (by omega)]
    exact ⟨bs[0].toNat, by rw [Int.toNat_of_nonneg h1.1], by omega⟩
  · rw [if_neg hl]
    have h0 : bs.length = 0 := by omega
    rw [h0]
    exact ⟨0, by decide +kernel, by omega⟩
set_option maxRecDepth 100000 in
theorem field_most (v0 v1 : Value) (x y : Int) (W : World) : (Instr.field 41 (.agg #[v0, v1, .int .i64 x, .int .i64 y]) 3).run Try.prog W = .ok (.int .i64 y) W := by first | kernel_rfl | rfl
theorem keep7 {w : World} {g : Nat} {v0 v1 v2 v3 v4 v5 v6 : Value} {t : TypeId} (h : w.heap[g]? = some (.cells #[v0, v1, v2, v3, v4, v5, v6] t (0, 0))) : w.cell? ⟨g, 0, none⟩ = some v0 ∧ w.cell? ⟨g, 1, none⟩ = some v1 ∧ w.cell? ⟨g, 2, none⟩ = some v2 ∧ w.cell? ⟨g, 3, none⟩ = some v3 ∧ w.cell? ⟨g, 4, none⟩ = some v4 ∧ w.cell? ⟨g, 5, none⟩ = some v5 ∧ w.cell? ⟨g, 6, none⟩ = some v6 :=
  ⟨(blk_cell h 0).trans rfl, (blk_cell h 1).trans rfl, (blk_cell h 2).trans rfl, (blk_cell h 3).trans rfl, (blk_cell h 4).trans rfl, (blk_cell h 5).trans rfl, (blk_cell h 6).trans rfl⟩
theorem keep6 {w : World} {g : Nat} {v0 v1 v2 v3 v4 v5 : Value} {t : TypeId} (h : w.heap[g]? = some (.cells #[v0, v1, v2, v3, v4, v5] t (0, 0))) : w.cell? ⟨g, 0, none⟩ = some v0 ∧ w.cell? ⟨g, 1, none⟩ = some v1 ∧ w.cell? ⟨g, 2, none⟩ = some v2 ∧ w.cell? ⟨g, 3, none⟩ = some v3 ∧ w.cell? ⟨g, 4, none⟩ = some v4 ∧ w.cell? ⟨g, 5, none⟩ = some v5 :=
  ⟨(blk_cell h 0).trans rfl, (blk_cell h 1).trans rfl, (blk_cell h 2).trans rfl, (blk_cell h 3).trans rfl, (blk_cell h 4).trans rfl, (blk_cell h 5).trans rfl⟩
set_option maxHeartbeats 6400000 in
set_option maxRecDepth 100000 in
theorem lim_walk (w : World) (A : Option Addr) (c : Nat) (bs : List Int) (hC : KB.C w A bs.length bs) (hc : bs.length ≤ c) (okb : ∀ a ∈ bs, 0 ≤ a ∧ a ≤ 255) :
    Calls Try.prog 3 #[.slice A bs.length c] w fun e w' => e = .returned (.bool true) ∧ Below w.heap.size w w' := by
  have HC := Aside0.mk (And.intro hC hc)
  have OKB := Aside0.mk okb
  clear hC hc okb
  have HB := Aside0.mk (Below.refl w.heap.size w)
  go_enter Try.func3, Try.ntmps3
  obtain ⟨r1, hr1⟩ : ∃ b, decide ((bs.length : Int) > 1048576) = b := ⟨_, rfl⟩
  have CB : Aside0 (∀ V : World, Below w.heap.size w V → _) := ⟨fun V hb => laws_big.calls A c bs r1 V (Kd.C_below HC.out.1 hb) HC.out.2 (by unfold laws_big.f; rw [hr1])⟩
  have HR1 := Aside0.mk hr1
  clear hr1
  cases r1
  case true =>
    go_wp2_with (go_at_call 4; refine (CB.out _ HB.out).mono ?_; rintro e w1 ⟨rfl, hd⟩; replace HB := Aside0.mk (bel HB.out hd.below); clear hd)
    go_ret
    exact ⟨rfl, HB.out⟩
  have HL1 : Aside0 (bs.length ≤ 1048576) := ⟨by have := of_decide_eq_false HR1.out; omega⟩
  clear HR1
  obtain ⟨r, hr, hr255⟩ := at_ex bs HL1.out OKB.out
  have HRR := Aside0.mk (And.intro hr hr255)
  clear hr hr255 HL1 OKB
  go_upto_region 6 with (first
    | (go_at_call 4; refine (CB.out _ HB.out).mono ?_; rintro e w1 ⟨rfl, hd⟩; replace HB := Aside0.mk (bel HB.out hd.below); clear hd)
    | (go_at_call 5; (with_reducible refine (impl_NameOk.calls 60 nm20 true _ nm_yes).mono ?_); rintro e w2 ⟨rfl, hd⟩; replace HB := Aside0.mk (bel HB.out hd.below); clear hd)
    | (go_at_call 5; (with_reducible refine (impl_NameOk.calls 60 (nm20 ++ ⟨#[117]⟩) false _ nm_no).mono ?_); rintro e w3 ⟨rfl, hd⟩; replace HB := Aside0.mk (bel HB.out hd.below); clear hd))
  clear CB
  go_upto_region 7 with ((with_reducible refine gate_dst (N := 23) rfl ?_); refine Kd.R_lit KR _ 28 ?hg (N := 23) ?hd (xs := ([] : List Rec)) (inner := []) (ok := fun _ => True) (okp := fun _ => True) ?hr ?hp (fun _ hk => hk) trivial (Below.refl _ _) (Nat.le_refl _) (by simp) ?_; (case hd => rfl); (case hg => rfl); (case hr => first | (go_simp; done) | (go_simp; rfl)); (case hp => exact (Reps.none _ _)); intro vL wL hoL hb hg_ hnew_; clear hg_ hnew_; have RL : Aside0 (KR.R 28 wL w.heap.size (fun _ => True) vL (recs 0)) := ⟨Kd.R_lower hoL HB.out.size⟩; replace HB := Aside0.mk (bel HB.out hb); clear hoL hb)
  go_wp2
  go_loopg [4, 5] 41 (fun kq v4 v5 wr => ∃ (j : Nat), (j + kq = 41 ∧ j ≤ 40) ∧ v5 = .int .i64 (j : Int) ∧ Aside0 (KR.R 28 wr w.heap.size (fun _ => True) v4 (recs j)) ∧ Aside0 (Below w.heap.size w wr))
  case atStart => exact ⟨0, ⟨by omega, by omega⟩, rfl, ⟨by first | exact RL.out | exact Kd.R_drewN RL.out _⟩, ⟨by first | exact HB.out | exact pw_below_drewN HB.out _⟩⟩
  case round =>
    clear RL HB
    obtain ⟨j, hj, rfl, RL, HB⟩ := hrel
    by_cases hlt : j < 40
    case pos =>
      have hlt' : (j : Int) < 40 := by omega
      have hw : wrap64 ((j : Int) + 1) = (j : Int) + 1 := w64 (by omega) (by omega)
      have HRS := Aside0.mk (recs_succ j)
      have HRL := Aside0.mk (recs_len j)
      go_wp2_with ((with_reducible refine gate_builtin (b := .append) (xs := #[.tmp 28, .tmp 31]) rfl ?_); at_builtin; refine Kd.R_append KR (w0 := w) w.heap.size rfl (.tmp 28) (.tmp 31) 25 28 (.agg #[.int .i64 0, .bool false, .string ⟨#[]⟩, .bool false, .string ⟨#[]⟩, .slice none 0 0]) 80 rfl Try.underlying25 info28 rfl (by decide) (by omega) u4 (recs j) (recE j) [.int .i64 (j : Int), .bool false, .string ⟨#[]⟩, .bool false, .string ⟨#[]⟩, .slice none 0 0] (fun _ => True) (fun _ => False) rfl rfl ?aP (fun _ hk => hk.elim) ?aF ?aO ?aB ?aS ?aL ?_; (case aP => exact k28_mkM _ _ _ (recE j) (Kd.R_nil _ _ _ _ _)); (case aF => exact (fun _ _ => trivial)); (case aO => exact (by (with_reducible repeat (first | apply Kd.R_alloc | apply Kd.R_drewN | apply Kd.R_drew)); exact RL.out)); (case aB => exact (by repeat (first | (with_reducible exact HB.out) | apply below_alloc | apply pw_below_drewN))); (case aS => exact HB.out.size); (case aL => have h1 := HRL.out; omega); intro v7 w9 ho hb hg hat; rw [← HRS.out] at ho; replace RL := Aside0.mk ho; replace HB := Aside0.mk hb; clear ho hb hg hat)
      go_roundg (40 - j)
      case measure => omega
      case rel => exact ⟨j + 1, ⟨by omega, by omega⟩, by go_num, RL, HB⟩
    obtain rfl : j = 40 := by omega
    obtain ⟨AR, cR, rfl⟩ := Kd.R_slice RL.out
    clear hlt
    obtain ⟨l, hl⟩ : ∃ l, l = recs 40 := ⟨_, rfl⟩
    have BY1 : Aside0 (impl_BatchOk.f 200 999999961 0 (-1) 0 0 0 l = some true) := ⟨by rw [hl]; exact bat_yes⟩
    have BY2 : Aside0 (impl_LastOffset.f 200 999999961 0 (-1) 0 0 0 l = some 1000000000) := ⟨by rw [hl]; exact bat_last⟩
    have BY3 : Aside0 (impl_BatchOk.f 200 999999962 0 (-1) 0 0 0 l = some false) := ⟨by rw [hl]; exact bat_high⟩
    have BY4 : Aside0 (impl_BatchOk.f 200 0 0 (-1) 0 0 0 (l ++ [recE 0]) = some false) := ⟨by rw [hl]; exact bat_many⟩
    have HLL : Aside0 (l.length = 40) := ⟨by rw [hl]; exact recs_len 40⟩
    rw [← hl] at RL ⊢
    clear hl hj
    go_upto_region 12 with (fail)
    have B6 := Aside0.mk (blk_new wr (.cells #[.int .i64 999999961, .int .i64 0, .int .i64 (-1), .int .i64 0, .int .i64 0, .int .i64 0, (.slice AR l.length cR)] 30))
    have hb := bel_alloc wr (.cells #[.int .i64 999999961, .int .i64 0, .int .i64 (-1), .int .i64 0, .int .i64 0, .int .i64 0, (.slice AR l.length cR)] 30)
    obtain ⟨g6, hg6⟩ : ∃ g, g = wr.heap.size := ⟨_, rfl⟩
    have HG6 : Aside0 (w.heap.size ≤ g6) := ⟨by rw [hg6]; exact HB.out.size⟩
    rw [← hg6] at B6 ⊢
    replace RL := Aside0.mk (Kd.R_below RL.out hb)
    replace HB := Aside0.mk (bel HB.out hb)
    clear hb hg6
    generalize wr.alloc (.cells #[.int .i64 999999961, .int .i64 0, .int .i64 (-1), .int .i64 0, .int .i64 0, .int .i64 0, (.slice AR l.length cR)] 30) = W1 at B6 RL HB ⊢
    obtain ⟨b0, b1, b2, b3, b4, b5, b6⟩ := keep7 B6.out
    go_upto_region 14 with (first
      | (go_at_call 6; refine (impl_BatchOk.calls 200 999999961 0 (-1) 0 0 0 AR cR l true _ (Kd.R_reads' RL.out).2.2 (Kd.R_reads' RL.out).2.1 BY1.out).mono ?_; rintro e w' ⟨rfl, hb⟩; replace B6 := Aside0.mk (blk_below B6.out hb); replace RL := Aside0.mk (Kd.R_below RL.out hb); replace HB := Aside0.mk (bel HB.out hb); clear hb b0 b1 b2 b3 b4 b5 b6; obtain ⟨b0, b1, b2, b3, b4, b5, b6⟩ := keep7 B6.out)
      | (go_at_call 7; refine (impl_LastOffset.calls 200 999999961 0 (-1) 0 0 0 AR cR l 1000000000 _ (Kd.R_reads' RL.out).2.2 (Kd.R_reads' RL.out).2.1 BY2.out).mono ?_; rintro e w' ⟨rfl, hb⟩; replace B6 := Aside0.mk (blk_below B6.out hb); replace RL := Aside0.mk (Kd.R_below RL.out hb); replace HB := Aside0.mk (bel HB.out hb); clear hb b0 b1 b2 b3 b4 b5 b6; obtain ⟨b0, b1, b2, b3, b4, b5, b6⟩ := keep7 B6.out))
    have hfr := blk_frozen B6.out 0
    go_upto_region 15 with (fail)
    have HS := Aside0.mk (below_set (j := 0) (v := .int .i64 999999962) HB.out HG6.out)
    replace RL := Aside0.mk (Kd.R_set RL.out B6.out (by decide) 0 (.int .i64 999999962))
    replace B6 := Aside0.mk (blk_put B6.out 0 (.int .i64 999999962) (cs' := #[.int .i64 999999962, .int .i64 0, .int .i64 (-1), .int .i64 0, .int .i64 0, .int .i64 0, .slice AR l.length cR]) rfl)
    clear HB b0 b1 b2 b3 b4 b5 b6 hfr
    generalize w'.setCell ⟨g6, 0, none⟩ (.int .i64 999999962) = W2 at B6 RL HS ⊢
    have HB := Aside0.mk HS.out
    clear HS
    obtain ⟨b0, b1, b2, b3, b4, b5, b6⟩ := keep7 B6.out
    clear w'
    go_upto_region 17 with (go_at_call 6; refine (impl_BatchOk.calls 200 999999962 0 (-1) 0 0 0 AR cR l false _ (Kd.R_reads' RL.out).2.2 (Kd.R_reads' RL.out).2.1 BY3.out).mono ?_; rintro e w' ⟨rfl, hb⟩; replace B6 := Aside0.mk (blk_below B6.out hb); replace RL := Aside0.mk (Kd.R_below RL.out hb); replace HB := Aside0.mk (bel HB.out hb); clear hb b0 b1 b2 b3 b4 b5 b6; obtain ⟨b0, b1, b2, b3, b4, b5, b6⟩ := keep7 B6.out)
    have hfr := blk_frozen B6.out 0
    go_upto_region 18 with (fail)
    have HS := Aside0.mk (below_set (j := 0) (v := .int .i64 0) HB.out HG6.out)
    replace RL := Aside0.mk (Kd.R_set RL.out B6.out (by decide) 0 (.int .i64 0))
    replace B6 := Aside0.mk (blk_put B6.out 0 (.int .i64 0) (cs' := #[.int .i64 0, .int .i64 0, .int .i64 (-1), .int .i64 0, .int .i64 0, .int .i64 0, .slice AR l.length cR]) rfl)
    clear HB b0 b1 b2 b3 b4 b5 b6 hfr
    generalize w'.setCell ⟨g6, 0, none⟩ (.int .i64 0) = W3 at B6 RL HS ⊢
    have HB := Aside0.mk HS.out
    clear HS
    obtain ⟨b0, b1, b2, b3, b4, b5, b6⟩ := keep7 B6.out
    clear w'
    have hfr := blk_frozen B6.out 6
    go_upto_region 19 with ((with_reducible refine gate_builtin (b := .append) (xs := #[.tmp 51, .tmp 53]) rfl ?_); at_builtin; refine Kd.R_append KR (w0 := w) w.heap.size rfl (.tmp 51) (.tmp 53) 25 28 (.agg #[.int .i64 0, .bool false, .string ⟨#[]⟩, .bool false, .string ⟨#[]⟩, .slice none 0 0]) 80 rfl Try.underlying25 info28 rfl (by decide) (by omega) (.slice AR l.length cR) l (recE 0) [.int .i64 0, .bool false, .string ⟨#[]⟩, .bool false, .string ⟨#[]⟩, .slice none 0 0] (fun _ => True) (fun _ => False) rfl rfl ?aP (fun _ hk => hk.elim) ?aF ?aO ?aB ?aS ?aL ?_; (case aP => exact k28_mkM _ _ _ (recE 0) (Kd.R_nil _ _ _ _ _)); (case aF => exact (fun _ _ => trivial)); (case aO => exact (by (with_reducible repeat (first | apply Kd.R_alloc | apply Kd.R_drewN | apply Kd.R_drew)); exact RL.out)); (case aB => exact (by repeat (first | (with_reducible exact HB.out) | apply below_alloc | apply pw_below_drewN))); (case aS => exact HB.out.size); (case aL => have h1 := HLL.out; omega); intro v7 w9 ho hb hg hat; obtain ⟨l2, hl2⟩ : ∃ y, y = l ++ [recE 0] := ⟨_, rfl⟩; rw [← hl2] at ho BY4; obtain ⟨A2, c2, rfl⟩ := Kd.R_slice ho; have hne := Kd.R_ne RL.out B6.out (by decide); replace B6 := Aside0.mk (blk_grown B6.out hg hne); replace RL := Aside0.mk ho; replace HB := Aside0.mk hb; clear ho hb hg hat hne hl2 b0 b1 b2 b3 b4 b5 b6 hfr; obtain ⟨b0, b1, b2, b3, b4, b5, b6⟩ := keep7 B6.out; have hfr := blk_frozen B6.out 6)
    have HS := Aside0.mk (below_set (j := 6) (v := .slice A2 l2.length c2) HB.out HG6.out)
    replace RL := Aside0.mk (Kd.R_set RL.out B6.out (by decide) 6 (.slice A2 l2.length c2))
    replace B6 := Aside0.mk (blk_put B6.out 6 (.slice A2 l2.length c2) (cs' := #[.int .i64 0, .int .i64 0, .int .i64 (-1), .int .i64 0, .int .i64 0, .int .i64 0, .slice A2 l2.length c2]) rfl)
    clear HB b0 b1 b2 b3 b4 b5 b6 hfr
    generalize w9.setCell ⟨g6, 6, none⟩ (.slice A2 l2.length c2) = W4 at B6 RL HS ⊢
    have HB := Aside0.mk HS.out
    clear HS
    obtain ⟨b0, b1, b2, b3, b4, b5, b6⟩ := keep7 B6.out
    clear w9
    go_upto_region 21 with (go_at_call 6; refine (impl_BatchOk.calls 200 0 0 (-1) 0 0 0 A2 c2 l2 false _ (Kd.R_reads' RL.out).2.2 (Kd.R_reads' RL.out).2.1 BY4.out).mono ?_; rintro e w' ⟨rfl, hb⟩; replace B6 := Aside0.mk (blk_below B6.out hb); replace RL := Aside0.mk (Kd.R_below RL.out hb); replace HB := Aside0.mk (bel HB.out hb); clear hb b0 b1 b2 b3 b4 b5 b6; obtain ⟨b0, b1, b2, b3, b4, b5, b6⟩ := keep7 B6.out)
    clear RL B6 b0 b1 b2 b3 b4 b5 b6 BY1 BY2 BY3 BY4 HLL HG6
    go_upto_region 22 with (first
      | ((with_reducible refine gate_dst (N := 58) rfl ?_); refine Kd.R_make KB _ 5 rfl (N := 58) rfl 22 _ _ rfl (100 : Int) rfl rfl Try.underlying22 (.int .u8 0) 1 info5 rfl (by decide) (by omega) (0 : Int) (ok := fun _ => True) (okp := fun _ => True) ?aZ (fun _ hk => hk) trivial ?aP ?aL (Below.refl _ _) (Nat.le_refl _) ?_; (case aZ => rfl); (case aP => omega); (case aL => decide); intro v1 w1 hR hb hg1 hat1; obtain ⟨gz, cz, rfl, hz1, hz2, _⟩ := Kd.R_form hR (by decide); have hcell : ∀ i, i < 100 → w1.cell? ⟨gz, 0 + i, none⟩ = some (.int .u8 ((List.replicate (Int.toNat 100) (0 : Int)).getD i 0)) := (fun i hi => by have h2 := (Kd.R_cell (enc := Value.int .u8) (h1 := fun _ => rfl) 0 hR (i : Int) (by omega) (by rw [List.length_replicate]; show (i : Int) < 100; omega)).1; rw [Int.toNat_natCast] at h2; rw [Nat.zero_add]; exact h2); have hcv := run_convert_bytes_arg (P := Try.prog) w1 22 5 Try.underlying22 Try.underlying5 gz 0 100 cz (List.replicate (Int.toNat 100) (0 : Int)) (by decide) hcell 9 Try.underlying9; obtain ⟨s, hs⟩ : ∃ y, y = strOfNums (List.replicate (Int.toNat 100) (0 : Int)) := ⟨_, rfl⟩; rw [← hs] at hcv; have HSZ : Aside0 (s.size = 100) := ⟨by rw [hs]; rfl⟩; replace HB := Aside0.mk (bel HB.out hb); clear hR hb hg1 hat1 hz1 hz2 hcell hs; simp only [List.length_replicate, Int.reduceToNat] at hcv ⊢))
    have B7 := Aside0.mk (blk_new w1 (.cells #[.int .i64 1000000000000, .bool false, .string ⟨#[]⟩, .bool false, .string s, .slice none 0 0] 28))
    have hb := bel_alloc w1 (.cells #[.int .i64 1000000000000, .bool false, .string ⟨#[]⟩, .bool false, .string s, .slice none 0 0] 28)
    obtain ⟨g7, hg7⟩ : ∃ g, g = w1.heap.size := ⟨_, rfl⟩
    have HG7 : Aside0 (w.heap.size ≤ g7) := ⟨by rw [hg7]; exact HB.out.size⟩
    rw [← hg7] at B7 ⊢
    replace HB := Aside0.mk (bel HB.out hb)
    clear hb hg7 hcv
    generalize w1.alloc (.cells #[.int .i64 1000000000000, .bool false, .string ⟨#[]⟩, .bool false, .string s, .slice none 0 0] 28) = W5 at B7 HB ⊢
    obtain ⟨d0, d1, d2, d3, d4, d5⟩ := keep6 B7.out
    go_upto_region 24 with (go_at_call 8; refine (impl_RecordOk.calls 20 1000000000000 false ⟨#[]⟩ false s none 0 [] true _ (Kd.C_nil _ _) (Nat.le_refl _) (rec_yes s HSZ.out)).mono ?_; rintro e w' ⟨rfl, hb⟩; replace B7 := Aside0.mk (blk_below B7.out hb); replace HB := Aside0.mk (bel HB.out hb); clear hb d0 d1 d2 d3 d4 d5; obtain ⟨d0, d1, d2, d3, d4, d5⟩ := keep6 B7.out)
    have hfr := blk_frozen B7.out 4
    have hsz : ((s.size + 1 : Nat) : Int) ≤ 9223372036854775807 := by have := HSZ.out; omega
    have hsz2 : s.size = 100 := HSZ.out
    go_upto_region 25 with (fail)
    obtain ⟨s2, hs2⟩ : ∃ y, y = s ++ (⟨#[120]⟩ : ByteArray) := ⟨_, rfl⟩
    have HSZ2 : Aside0 (s2.size = 101) := ⟨by rw [hs2, ByteArray.size_append, hsz2]; rfl⟩
    rw [← hs2]
    clear hs2 hsz hsz2
    have HS := Aside0.mk (below_set (j := 4) (v := .string s2) HB.out HG7.out)
    replace B7 := Aside0.mk (blk_put B7.out 4 (.string s2) (cs' := #[.int .i64 1000000000000, .bool false, .string ⟨#[]⟩, .bool false, .string s2, .slice none 0 0]) rfl)
    clear HB d0 d1 d2 d3 d4 d5 hfr HG7
    generalize w'.setCell ⟨g7, 4, none⟩ (.string s2) = W6 at B7 HS ⊢
    have HB := Aside0.mk HS.out
    clear HS w'
    obtain ⟨d0, d1, d2, d3, d4, d5⟩ := keep6 B7.out
    obtain ⟨n, hn⟩ : ∃ n, n = 900 + r := ⟨_, rfl⟩
    have HN : Aside0 (70 ≤ n ∧ n ≤ 4000) := ⟨by have := HRR.out.2; omega⟩
    have hw : wrap64 (900 + (r : Int)) = (n : Int) := by rw [hn]; exact wB (a := 900) (by have := HRR.out.2; omega)
    have hn0 : (0 : Int) ≤ (n : Int) := Int.natCast_nonneg n
    clear hn
    go_upto_region 26 with (first
      | (go_at_call 9; refine (laws_at.calls A c bs 0 (r : Int) _ (Kd.C_below HC.out.1 HB.out) HC.out.2 HRR.out.1).mono ?_; rintro e w2 ⟨rfl, hd⟩; have hb := hd.below; replace B7 := Aside0.mk (blk_below B7.out hb); replace HB := Aside0.mk (bel HB.out hb); clear hb hd d0 d1 d2 d3 d4 d5; obtain ⟨d0, d1, d2, d3, d4, d5⟩ := keep6 B7.out)
      | ((with_reducible refine gate_dst (N := 71) rfl ?_); refine Kd.R_make KB _ 5 rfl (N := 71) rfl 22 _ _ rfl (n : Int) (show Value.int .i64 (wrap64 (900 + (r : Int))) = .int .i64 (n : Int) by rw [hw]) (show Value.int .i64 (wrap64 (900 + (r : Int))) = .int .i64 (n : Int) by rw [hw]) Try.underlying22 (.int .u8 0) 1 info5 rfl (by decide) (by omega) (0 : Int) (ok := fun _ => True) (okp := fun _ => True) ?aZ (fun _ hk => hk) trivial ?aP ?aL (Below.refl _ _) (Nat.le_refl _) ?_; (case aZ => rfl); (case aP => exact hn0); (case aL => rw [Int.toNat_natCast]; have := HN.out; omega); intro v1 w1 hR hb hg1 hat1; rw [Int.toNat_natCast] at hR; obtain ⟨AP, cP, rfl⟩ := Kd.R_slice hR; rw [List.length_replicate] at hR; simp only [List.length_replicate]; have RP : Aside0 (KB.R 5 w1 w.heap.size (fun _ => True) (.slice AP n cP) (zs n)) := ⟨Kd.R_lower hR HB.out.size⟩; replace B7 := Aside0.mk (blk_below B7.out hb); replace HB := Aside0.mk (bel HB.out hb); clear hR hb hg1 hat1 d0 d1 d2 d3 d4 d5; obtain ⟨d0, d1, d2, d3, d4, d5⟩ := keep6 B7.out))
    clear hw hn0
    obtain ⟨q, hq⟩ : ∃ q, q = sqz n := ⟨_, rfl⟩
    have HQ := Aside0.mk hq
    obtain ⟨k1, hk1⟩ := Ev.rounds (exp_ev n n (by have := HN.out; omega) (by have := HN.out; omega))
    obtain ⟨k2, hk2⟩ := Ev.rounds (exp_ev n (n - 1) (by have := HN.out; omega) (by have := HN.out; omega))
    rw [if_pos (Nat.le_refl n), ← hq] at hk1
    rw [if_neg (by have := HN.out; omega), ← hq, show ((n - 1 : Nat) : Int) = wrap64 ((n : Int) - 1) from (wS (b := 1) (by have := HN.out; omega) (by have := HN.out; omega)).symm] at hk2
    have HX1 := Aside0.mk hk1
    have HX2 := Aside0.mk hk2
    clear hq hk1 hk2
    go_upto_region 27 with (first
      | (go_at_call 11; refine (squeeze_call AP cP n _ (by have h := (Kd.R_reads' RP.out).2.2; rw [zs_len] at h; exact h) (Kd.R_reads' RP.out).2.1 HN.out).mono ?_; rintro e w3 ⟨v0, rfl, hR, hb⟩; rw [← HQ.out] at hR; obtain ⟨AS, cS, rfl, hcs, hCS⟩ := Kd.R_reads hR; have HS := Aside0.mk (And.intro hCS hcs); replace B7 := Aside0.mk (blk_below B7.out hb); replace HB := Aside0.mk (bel HB.out hb); replace RP := Aside0.mk (Kd.R_below RP.out hb); clear hR hb hcs hCS d0 d1 d2 d3 d4 d5; obtain ⟨d0, d1, d2, d3, d4, d5⟩ := keep6 B7.out)
      | (go_at_call 10; refine (impl_Expand.calls k1 AS cS q (n : Int) (zs n) true _ HS.out.1 HS.out.2 HX1.out).mono ?_; rintro e w4 ⟨v1, rfl, hR, hb⟩; obtain ⟨AE, cE, rfl⟩ := Kd.R_slice hR; replace B7 := Aside0.mk (blk_below B7.out hb); replace HB := Aside0.mk (bel HB.out hb); replace RP := Aside0.mk (Kd.R_below RP.out hb); clear hR hb HS d0 d1 d2 d3 d4 d5; obtain ⟨d0, d1, d2, d3, d4, d5⟩ := keep6 B7.out))
    go_upto_region 28 with (first
      | (go_at_call 11; refine (squeeze_call AP cP n _ (by have h := (Kd.R_reads' RP.out).2.2; rw [zs_len] at h; exact h) (Kd.R_reads' RP.out).2.1 HN.out).mono ?_; rintro e w5 ⟨v0, rfl, hR, hb⟩; rw [← HQ.out] at hR; obtain ⟨AS, cS, rfl, hcs, hCS⟩ := Kd.R_reads hR; have HS := Aside0.mk (And.intro hCS hcs); replace B7 := Aside0.mk (blk_below B7.out hb); replace HB := Aside0.mk (bel HB.out hb); replace RP := Aside0.mk (Kd.R_below RP.out hb); clear hR hb hcs hCS d0 d1 d2 d3 d4 d5; obtain ⟨d0, d1, d2, d3, d4, d5⟩ := keep6 B7.out)
      | (go_at_call 10; refine (impl_Expand.calls k2 AS cS q (wrap64 ((n : Int) - 1)) [] false _ HS.out.1 HS.out.2 HX2.out).mono ?_; rintro e w6 ⟨v1, rfl, hR, hb⟩; obtain ⟨AE, cE, rfl⟩ := Kd.R_slice hR; replace B7 := Aside0.mk (blk_below B7.out hb); replace HB := Aside0.mk (bel HB.out hb); replace RP := Aside0.mk (Kd.R_below RP.out hb); clear hR hb HS d0 d1 d2 d3 d4 d5; obtain ⟨d0, d1, d2, d3, d4, d5⟩ := keep6 B7.out))
    have hu41 := Try.underlying41
    have hfl : ∀ (v0 v1 : Value) (x y : Int) (W : World), (Instr.field 41 (.agg #[v0, v1, .int .i64 x, .int .i64 y]) 3).run Try.prog W = .ok (.int .i64 y) W := fun v0 v1 x y W => field_most v0 v1 x y W
    go_wp2_with (first
      | (go_at_call 8; refine (impl_RecordOk.calls 20 1000000000000 false ⟨#[]⟩ false s2 none 0 [] false _ (Kd.C_nil _ _) (Nat.le_refl _) (rec_no s2 HSZ2.out)).mono ?_; rintro e w' ⟨rfl, hb⟩; replace B7 := Aside0.mk (blk_below B7.out hb); replace HB := Aside0.mk (bel HB.out hb); replace RP := Aside0.mk (Kd.R_below RP.out hb); clear hb d0 d1 d2 d3 d4 d5; obtain ⟨d0, d1, d2, d3, d4, d5⟩ := keep6 B7.out)
      | (go_at_call 12; refine (impl_NewTree.calls 50 [] [] 0 50 _ tree_50).mono ?_; rintro e w7 ⟨v0, v1, rfl, hR, hS, hb⟩; obtain ⟨_, _, rfl⟩ := Kd.R_slice hR; obtain ⟨_, _, rfl⟩ := Kd.S_slice hS; replace HB := Aside0.mk (bel HB.out hb); clear hb)
      | (go_at_call 12; refine (impl_NewTree.calls 51 [] [] 0 0 _ tree_51).mono ?_; rintro e w8 ⟨v0, v1, rfl, hR, hS, hb⟩; obtain ⟨_, _, rfl⟩ := Kd.R_slice hR; obtain ⟨_, _, rfl⟩ := Kd.S_slice hS; replace HB := Aside0.mk (bel HB.out hb); clear hb))
    go_ret
    exact ⟨rfl, HB.out⟩
theorem lim_row (w : World) (A : Option Addr) (len cap : Nat) (x : List Int) (hK : (Kd.slice 5 KB).K w x [.slice A len cap]) (ok : okB x) :
    Calls Try.prog 3 #[.slice A len cap] w fun e w' => e = .returned (.bool true) ∧ Below w.heap.size w w' := by
  obtain ⟨B, c, e, hlc, h0⟩ := hK
  obtain ⟨rfl, rfl, rfl⟩ : A = B ∧ len = x.length ∧ cap = c := by simpa using e
  exact lim_walk w A cap x h0 hlc ok.2
end Go.Proofs.Ytkfacigicohfkaa.LimK
