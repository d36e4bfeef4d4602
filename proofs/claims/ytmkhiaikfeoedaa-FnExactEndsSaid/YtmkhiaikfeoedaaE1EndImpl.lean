/- The program's Ends, called. -/
import Derived.Test.YtmkhiaikfeoedaaE1EndTake
import Derived.Laws.EntriesVeiled
namespace Go.Proofs.Ytmkhiaikfeoedaa.EndsK
open Go.RowKit Go.Proofs.YtmkhiaikfeoedaaW.PrintWords Go.Proofs.YtmkhiaikfeoedaaW.PrintLast Go.Proofs.YtmkhiaikfeoedaaW.PrintMore Go.Proofs.Ytmkhiaikfeoedaa.QFnExactInputsOk Go.Proofs.Ytmkhiaikfeoedaa.EvKit Go.Proofs.Ytmkhiaikfeoedaa.MarkK Go.Proofs.Ytmkhiaikfeoedaa.GFnExactInputsOk
set_option linter.unusedSimpArgs false
set_option linter.unusedVariables false
theorem call_inputs (A0 A1 : Option Addr) (c0 c1 : Nat) (x : List SrcE) (y : List (List Arr)) (W : World) (hx : Kd.C k58 W A0 x.length x) (hcx : x.length ≤ c0) (hy : Kd.C (Kd.slice TA KA) W A1 y.length y) (hcy : y.length ≤ c1) (sx : sm_SourceS x) (sy : sm_ArrivalSS y) {r : Bool} (hr : InputsOk.inputsB x y = r) :
    Calls Try.prog 28 #[.slice A0 x.length c0, .slice A1 y.length c1] W fun e w' => e = .returned (.bool r) ∧ Below W.heap.size W w' := by
  obtain ⟨k, hk⟩ := Ev.rounds (InputsOk.impl_inputs x y sx sy)
  rw [hr] at hk
  exact impl_InputsOk.calls k A0 c0 x A1 c1 y _ W hx hcx hy hcy hk
theorem call_within (a b c : Int) {r : Bool} (hr : decide (b ≤ a ∧ a ≤ c) = r) (W : World) : Calls Try.prog 29 #[.int .i64 a, .int .i64 b, .int .i64 c] W fun e w' => e = .returned (.bool r) ∧ Below W.heap.size W w' :=
  (impl_within.calls a b c r W (by rw [InputsOk.within_f, hr])).mono (fun e w' h => ⟨h.1, h.2.below⟩)
theorem ends_bad {x : List SrcE} {y : List (List Arr)} {o : List Int} (h : ¬ (InputsOk.inputsB x y = true ∧ o.length ≤ 400 ∧ inO x.length o = true)) : endsR x y o = [] := if_neg h
theorem at_int {W : World} {A : Option Addr} {l : List Int} (h : KI.C W A l.length l) (j : Nat) (hj : j < l.length) : ∃ ad, A = some ad ∧ W.cell? (ad.add j) = some (.int .i64 (l[j])) := by
  obtain ⟨ad, e, hc⟩ := Kd.at_int h (j : Int) (by omega) (by omega)
  rw [Int.toNat_natCast] at hc
  refine ⟨ad, e, ?_⟩
  rw [hc]; simp [rd, hj]
theorem new_at {w : World} {o : Obj} {g : Nat} (h : g = w.heap.size) : (w.alloc o).heap[g]? = some o := by rw [h]; exact blk_new w o
theorem make_form {W : World} {base m : Nat} {ok : Nat → Prop} {v : Value} {xs : List Int} (h : KI.R 3 W base ok v xs) (hat : ∃ b, v.ownBlock = some b ∧ m ≤ b) : ∃ g c, v = .slice (some ⟨g, 0, none⟩) xs.length c ∧ m ≤ g ∧ g < W.heap.size := by
  obtain ⟨b, hb, hm⟩ := hat
  obtain ⟨A, c, rfl⟩ := Kd.R_slice h
  rcases A with _ | ad
  · simp [Value.ownBlock] at hb
  · obtain ⟨g, rfl⟩ := Kd.R_head h
    obtain rfl : g = b := by simpa [Value.ownBlock] using hb
    exact ⟨g, c, rfl, hm, Kd.R_lt h _ (by simp [Value.ownBlock])⟩
theorem step_next {y : List (List Arr)} {st : St} {s : Nat} (h : s < st.1.length) (hn : ¬ ((row y s).length : Int) ≤ rd st.1 s) : rd (step y st s).1 s = rd st.1 s + 1 := by
  unfold step
  rw [if_neg hn]
  split
  · show rd (st.1.set s (rd st.1 s + 1)) s = _
    rw [rd_set _ h, if_pos rfl]
  · show rd (st.1.set s (rd st.1 s + 1)) s = _
    rw [rd_set _ h, if_pos rfl]
theorem run_idle {y : List (List Arr)} {st : St} {s : Nat} (h : ((row y s).length : Int) ≤ rd st.1 s) : ∀ d, run y st (List.replicate d s) = st := by
  intro d
  induction d with
  | zero => rfl
  | succ d ih =>
    have e : step y st s = st := by unfold step; rw [if_pos h]
    show run y (step y st s) (List.replicate d s) = st
    rw [e, ih]
theorem run_full {y : List (List Arr)} {st : St} {s c : Nat} (hc : c ≤ (row y s).length) (h : ((row y s).length : Int) ≤ rd (run y st (List.replicate c s)).1 s) : run y st (List.replicate c s) = run y st (List.replicate (row y s).length s) := by
  have e : (row y s).length = c + ((row y s).length - c) := by omega
  rw [e, ← List.replicate_append_replicate, run_append, run_idle h]
set_option maxHeartbeats 6400000 in
set_option maxRecDepth 100000 in
theorem ends_call (A0 A1 A2 : Option Addr) (c0 c1 c2 : Nat) (x : List SrcE) (y : List (List Arr)) (o : List Int) (w : World) (hx : Kd.C k58 w A0 x.length x) (hcx : x.length ≤ c0) (hy : Kd.C (Kd.slice TA KA) w A1 y.length y) (hcy : y.length ≤ c1)
    (ho : KI.C w A2 o.length o) (hco : o.length ≤ c2) (sx : sm_SourceS x) (sy : sm_ArrivalSS y) (so : o.length ≤ 1048576) :
    Calls Try.prog 10 #[.slice A0 x.length c0, .slice A1 y.length c1, .slice A2 o.length c2] w fun e w' => ∃ v0 : Value, e = .returned v0 ∧ Kd.S KC TC w' w.heap.size (fun _ => True) v0 (endsR x y o) ∧ Below w.heap.size w w' := by
  have HX := Aside0.mk hx
  have HCX := Aside0.mk hcx
  have HY := Aside0.mk hy
  have HCY := Aside0.mk hcy
  have HOO := Aside0.mk ho
  have SX := Aside0.mk sx
  have SY := Aside0.mk sy
  have hxl : x.length ≤ 1048576 := sx.1
  clear hx hcx hy hcy ho hco sx sy
  obtain ⟨b, hb⟩ : ∃ b, b = w.heap.size := ⟨_, rfl⟩
  have HBB := Aside0.mk (blk_new w (.cells #[.slice A1 y.length c1] TAA))
  have HB0 := Aside0.mk (bel_alloc w (.cells #[.slice A1 y.length c1] TAA))
  go_enter Try.func10, Try.ntmps10
  go_upto_region 1 with (fail)
  generalize w.alloc (.cells #[.slice A1 y.length c1] TAA) = W1 at HBB HB0 ⊢
  rw [← hb] at HBB ⊢
  have HBE := Aside0.mk hb
  clear hb
  have hb0 : W1.cell? ⟨b, 0, none⟩ = some (.slice A1 y.length c1) := (blk_cell HBB.out 0).trans rfl
  by_cases hi : InputsOk.inputsB x y = true
  case neg =>
    have HE := Aside0.mk (ends_bad (x := x) (y := y) (o := o) (fun h => hi h.1))
    have hi' : InputsOk.inputsB x y = false := by simpa using hi
    have HI := Aside0.mk hi'
    clear hi hi'
    go_wp2_with (go_at_call 28; refine (call_inputs A0 A1 c0 c1 x y W1 (Kd.C_below HX.out HB0.out) HCX.out (Kd.C_below HY.out HB0.out) HCY.out SX.out SY.out HI.out).mono ?_; rintro e w2 ⟨rfl, hb⟩; replace HB0 := Aside0.mk (bel HB0.out hb); clear hb)
    go_ret
    refine ⟨_, rfl, ?_, HB0.out⟩
    rw [HE.out]
    exact Kd.S_nil _ _ _ _ _
  have HI := Aside0.mk hi
  obtain ⟨hy, hyx⟩ := fit_of SY.out hi
  have HF := Aside0.mk hy
  have HYX := Aside0.mk hyx
  have hx10 : x.length ≤ 10 := by rw [← hyx]; exact hy.n
  clear hi hy hyx
  by_cases hol : (400 : Int) < (o.length : Int)
  · have HE := Aside0.mk (ends_bad (x := x) (y := y) (o := o) (fun h => by have := h.2.1; omega))
    go_wp2_with (go_at_call 28; refine (call_inputs A0 A1 c0 c1 x y W1 (Kd.C_below HX.out HB0.out) HCX.out (Kd.C_below HY.out HB0.out) HCY.out SX.out SY.out HI.out).mono ?_; rintro e w2 ⟨rfl, hb⟩; replace HB0 := Aside0.mk (bel HB0.out hb); clear hb)
    go_ret
    refine ⟨_, rfl, ?_, HB0.out⟩
    rw [HE.out]
    exact Kd.S_nil _ _ _ _ _
  have ho4 : o.length ≤ 400 := by omega
  have HO4 := Aside0.mk ho4
  go_upto_region 3 with (go_at_call 28; refine (call_inputs A0 A1 c0 c1 x y W1 (Kd.C_below HX.out HB0.out) HCX.out (Kd.C_below HY.out HB0.out) HCY.out SX.out SY.out HI.out).mono ?_; rintro e w2 ⟨rfl, hb⟩; replace HB0 := Aside0.mk (bel HB0.out hb); replace HBB := Aside0.mk (blk_below HBB.out hb); clear hb hb0 hol)
  have hw0 : wrap64 ((x.length : Int) - 1) = (x.length : Int) - 1 := w64 (by omega) (by omega)
  go_wp2
  go_loopg [28] (o.length + 1) (fun kq v28 wr => ∃ j : Nat, (j + kq = o.length + 1 ∧ j ≤ o.length) ∧ v28 = .int .i64 (j : Int) ∧ Aside0 (∀ i, i < j → ∀ h : i < o.length, 0 ≤ o[i] ∧ o[i] ≤ (x.length : Int) - 1) ∧ Aside0 (wr.heap[b]? = some (.cells #[.slice A1 y.length c1] TAA (0, 0))) ∧ Aside0 (Below w.heap.size w wr))
  case atStart => exact ⟨0, ⟨by omega, Nat.zero_le _⟩, rfl, ⟨fun i hi => absurd hi (Nat.not_lt_zero _)⟩, ⟨by first | exact HBB.out | exact blk_drewN HBB.out _⟩, ⟨by first | exact HB0.out | exact pw_below_drewN HB0.out _⟩⟩
  case round =>
    clear HBB HB0
    obtain ⟨j, hj, rfl, HALL, HBB, HB0⟩ := hrel
    by_cases hlt : j < o.length
    · obtain ⟨ad, e2, hx0⟩ := at_int (Kd.C_below HOO.out HB0.out) j hlt
      cases e2
      obtain ⟨v, hv⟩ : ∃ v, v = o[j] := ⟨_, rfl⟩
      rw [← hv] at hx0
      have HV := Aside0.mk hv
      clear hv
      obtain ⟨r, hr⟩ : ∃ r, decide (0 ≤ v ∧ v ≤ (x.length : Int) - 1) = r := ⟨_, rfl⟩
      have HR := Aside0.mk hr
      clear hr
      cases r with
      | false =>
        have HE := Aside0.mk (ends_bad (x := x) (y := y) (o := o) (fun h => by
          have h1 := h.2.2
          unfold inO at h1
          have h2 := of_decide_eq_true ((List.all_eq_true.1 h1) _ (List.getElem_mem hlt))
          rw [← HV.out] at h2
          exact of_decide_eq_false HR.out h2))
        go_wp2_with (go_at_call 29; refine (call_within v 0 ((x.length : Int) - 1) HR.out _).mono ?_; rintro e w5 ⟨rfl, hb⟩; replace HB0 := Aside0.mk (bel HB0.out hb); clear hb)
        go_ret
        refine ⟨_, rfl, ?_, HB0.out⟩
        rw [HE.out]
        exact Kd.S_nil _ _ _ _ _
      | true =>
        go_wp2_with (go_at_call 29; refine (call_within v 0 ((x.length : Int) - 1) HR.out _).mono ?_; rintro e w5 ⟨rfl, hb⟩; replace HB0 := Aside0.mk (bel HB0.out hb); replace HBB := Aside0.mk (blk_below HBB.out hb); clear hb hx0)
        go_roundg (o.length - j)
        case measure => omega
        case rel => exact ⟨j + 1, ⟨by omega, by omega⟩, by go_num, ⟨fun i hi hio => by
          by_cases e : i = j
          · subst e; rw [← HV.out]; exact of_decide_eq_true HR.out
          · exact HALL.out i (by omega) hio⟩, ⟨by first | exact HBB.out | exact blk_drewN HBB.out _⟩, ⟨by first | exact HB0.out | exact pw_below_drewN HB0.out _⟩⟩
    · obtain rfl : j = o.length := by omega
      have hall : ∀ s ∈ o, 0 ≤ s ∧ s ≤ (x.length : Int) - 1 := fun s hs => by
        obtain ⟨i, hi, rfl⟩ := List.mem_iff_getElem.1 hs
        exact HALL.out i hi hi
      have hio : inO x.length o = true := by
        unfold inO
        rw [List.all_eq_true]
        exact fun s hs => decide_eq_true (hall s hs)
      have hres : endsR x y o = fin ((run y (st0 y.length) (o.map Int.toNat ++ rest y y.length)).2.2 ++ tail y.length) := if_pos ⟨HI.out, HO4.out, hio⟩
      have HRES := Aside0.mk hres
      have HA := Aside0.mk hall
      clear hres hall hio HALL hw0
      have hmf : ∀ (fn : Fn) (first cap : Array Value) (w : World), (Instr.makeFunc fn first cap).run Try.prog w = .ok (.func fn first cap) w := fun _ _ _ _ => rfl
      have HXC : Aside0 (x.length = y.length) := ⟨HYX.out.symm⟩
      go_upto_region 10 with (fail)
      obtain ⟨ob, hob⟩ : ∃ ob, ob = wr.heap.size := ⟨_, rfl⟩
      have hbo : (wr.alloc (.cells #[.slice none 0 0] TCs)).heap[ob]? = some (.cells #[.slice none 0 0] TCs (0, 0)) := new_at hob
      have hbb : (wr.alloc (.cells #[.slice none 0 0] TCs)).heap[b]? = some (.cells #[.slice A1 y.length c1] TAA (0, 0)) := blk_alloc HBB.out _
      have hb2 := bel HB0.out (bel_alloc wr (.cells #[.slice none 0 0] TCs))
      have hso : b < ob := by rw [hob]; exact blk_lt HBB.out
      rw [← hob]
      clear hob HBB HB0
      generalize wr.alloc (.cells #[.slice none 0 0] TCs) = W2 at hbo hbb hb2 ⊢
      have HBO := Aside0.mk hbo
      have HBB := Aside0.mk hbb
      have HB0 := Aside0.mk hb2
      have HSO := Aside0.mk hso
      clear hbo hbb hb2 hso
      simp only [HXC.out]
      go_upto_region 11 with ((with_reducible refine gate_dst (N := 41) rfl ?_); refine Kd.R_make KI _ 3 rfl (N := 41) rfl TIs _ _ rfl (y.length : Int) rfl rfl Try.underlying24 (.int .i64 0) 8 info3 rfl (by decide) (by omega) (0 : Int) (ok := fun _ => True) (okp := fun _ => True) ?aZ (fun _ hk => hk) trivial (Int.natCast_nonneg _) ?aL (Below.refl _ _) (Nat.le_refl _) ?_; (case aZ => rfl); (case aL => rw [Int.toNat_natCast]; have := HF.out.n; omega); intro v1 w3 hR hb1 hg1 hat1; rw [Int.toNat_natCast] at hR; obtain ⟨rn, cn, rfl, hrm, hrl⟩ := make_form hR hat1; rw [List.length_replicate] at hR; simp only [List.length_replicate]; have HRrn := Aside0.mk (Kd.R_tight rfl hR); have HLrn := Aside0.mk hrl; have HMrn := Aside0.mk hrm; have HBrn := Aside0.mk hb1; clear hR hb1 hg1 hat1 hrm hrl)
      obtain ⟨p, hp⟩ : ∃ p, p = w3.heap.size := ⟨_, rfl⟩
      have hbp : (w3.alloc (.cells #[.slice (some ⟨rn, 0, none⟩) y.length cn] TIs)).heap[p]? = some (.cells #[.slice (some ⟨rn, 0, none⟩) y.length cn] TIs (0, 0)) := new_at hp
      have hb3 := bel HBrn.out (bel_alloc w3 (.cells #[.slice (some ⟨rn, 0, none⟩) y.length cn] TIs))
      have hrn : KI.R 3 (w3.alloc (.cells #[.slice (some ⟨rn, 0, none⟩) y.length cn] TIs)) w.heap.size (fun k => k = rn) (.slice (some ⟨rn, 0, none⟩) y.length cn) (List.replicate y.length 0) := Kd.R_alloc (Kd.R_lower (Kd.R_mono HRrn.out (fun k (hk : some k = _) => by injection hk)) HB0.out.size) _
      have HIO : Aside0 (b < ob ∧ ob < rn ∧ rn < p ∧ w.heap.size ≤ b) := ⟨by have h1 := HSO.out; have h2 := HMrn.out; have h3 := HLrn.out; have h4 := blk_lt HBO.out; have h5 := HBE.out; omega⟩
      rw [← hp]
      replace HBO := Aside0.mk (blk_below HBO.out hb3)
      replace HBB := Aside0.mk (blk_below HBB.out hb3)
      replace HB0 := Aside0.mk (bel HB0.out hb3)
      clear hp hb3 HRrn HLrn HMrn HBrn HSO
      generalize w3.alloc (.cells #[.slice (some ⟨rn, 0, none⟩) y.length cn] TIs) = W3 at hbp hrn HBO HBB HB0 ⊢
      have HBP := Aside0.mk hbp
      have HRN := Aside0.mk hrn
      clear hbp hrn
      go_upto_region 12 with ((with_reducible refine gate_dst (N := 44) rfl ?_); refine Kd.R_make KI _ 3 rfl (N := 44) rfl TIs _ _ rfl (y.length : Int) rfl rfl Try.underlying24 (.int .i64 0) 8 info3 rfl (by decide) (by omega) (0 : Int) (ok := fun _ => True) (okp := fun _ => True) ?aZ (fun _ hk => hk) trivial (Int.natCast_nonneg _) ?aL (Below.refl _ _) (Nat.le_refl _) ?_; (case aZ => rfl); (case aL => rw [Int.toNat_natCast]; have := HF.out.n; omega); intro v1 w4 hR hb1 hg1 hat1; rw [Int.toNat_natCast] at hR; obtain ⟨rm, cm, rfl, hrm, hrl⟩ := make_form hR hat1; rw [List.length_replicate] at hR; simp only [List.length_replicate]; have HRrm := Aside0.mk (Kd.R_tight rfl hR); have HLrm := Aside0.mk hrl; have HMrm := Aside0.mk hrm; have HBrm := Aside0.mk hb1; clear hR hb1 hg1 hat1 hrm hrl)
      obtain ⟨q, hq⟩ : ∃ q, q = w4.heap.size := ⟨_, rfl⟩
      have hbq : (w4.alloc (.cells #[.slice (some ⟨rm, 0, none⟩) y.length cm] TIs)).heap[q]? = some (.cells #[.slice (some ⟨rm, 0, none⟩) y.length cm] TIs (0, 0)) := new_at hq
      have hb4 := bel HBrm.out (bel_alloc w4 (.cells #[.slice (some ⟨rm, 0, none⟩) y.length cm] TIs))
      have hrm : KI.R 3 (w4.alloc (.cells #[.slice (some ⟨rm, 0, none⟩) y.length cm] TIs)) w.heap.size (fun k => k = rm) (.slice (some ⟨rm, 0, none⟩) y.length cm) (List.replicate y.length 0) := Kd.R_alloc (Kd.R_lower (Kd.R_mono HRrm.out (fun k (hk : some k = _) => by injection hk)) HB0.out.size) _
      have hEn : En w A1 c1 y.length b ob rn p rm q (q + 1) cn cm (w4.alloc (.cells #[.slice (some ⟨rm, 0, none⟩) y.length cm] TIs)) (.slice none 0 0) (st0 y.length) := {
        io := by have h1 := HIO.out; have h2 := HMrm.out; have h3 := HLrm.out; have h4 := blk_lt HBP.out; omega
        bB := blk_below HBB.out hb4
        bO := blk_below HBO.out hb4
        bN := blk_below HBP.out hb4
        bM := hbq
        hN := Kd.R_below HRN.out hb4
        hM := hrm
        hB := bel HB0.out hb4
        hS := by rw [size_alloc, hq]; exact Nat.le_refl _ }
      have HOU : Aside0 (Kd.S KC TC (w4.alloc (.cells #[.slice (some ⟨rm, 0, none⟩) y.length cm] TIs)) w.heap.size (fun k => q + 1 ≤ k) (.slice none 0 0) (st0 y.length).2.2) := ⟨Kd.S_nil _ _ _ _ _⟩
      rw [← hq]
      clear hq hbq hb4 hrm HRrm HLrm HMrm HBrm HIO HBB HBO HBP HRN HB0
      have HE := Aside0.mk hEn
      clear hEn
      obtain ⟨N, hN⟩ : ∃ N, N = q + 1 := ⟨_, rfl⟩
      rw [← hN] at HE HOU
      clear hN
      generalize w4.alloc (.cells #[.slice (some ⟨rm, 0, none⟩) y.length cm] TIs) = W5 at HE HOU ⊢
      go_wp2
      obtain ⟨on, hon⟩ : ∃ on : List Nat, on = o.map Int.toNat := ⟨_, rfl⟩
      have hnl : on.length = o.length := by rw [hon]; simp
      have hnm : ∀ s ∈ on, s < y.length := fun s hs => by
        rw [hon] at hs
        obtain ⟨t, ht, rfl⟩ := List.mem_map.1 hs
        have h1 := HA.out t ht
        have h2 := HXC.out
        omega
      have hna : ∀ (j : Nat) (h : j < o.length), ∃ s, on[j]? = some s ∧ o[j] = (s : Int) := fun j h => by
        refine ⟨o[j].toNat, by rw [hon, List.getElem?_map, List.getElem?_eq_getElem h]; rfl, ?_⟩
        have h1 := HA.out _ (List.getElem_mem h)
        omega
      have HNL := Aside0.mk hnl
      have HNM := Aside0.mk hnm
      have HNA := Aside0.mk hna
      have HON := Aside0.mk hon
      clear hon hnl hnm hna hx10
      go_loopg [48] (o.length + 1) (fun kq v48 wr => ∃ (j : Nat) (vo : Value), (j + kq = o.length + 1 ∧ j ≤ o.length) ∧ v48 = .int .i64 (j : Int) ∧ Aside0 (En w A1 c1 y.length b ob rn p rm q N cn cm wr vo (run y (st0 y.length) (on.take j))) ∧ Aside0 (Kd.S KC TC wr w.heap.size (fun k => N ≤ k) vo (run y (st0 y.length) (on.take j)).2.2))
      case atStart => exact ⟨0, _, ⟨by omega, Nat.zero_le _⟩, rfl, ⟨by first | exact HE.out | exact HE.out.drewN _⟩, ⟨by first | exact HOU.out | exact Kd.S_drewN HOU.out _⟩⟩
      case round =>
        clear HE HOU
        obtain ⟨j, vo, hj, rfl, HE, HOU⟩ := hrel
        by_cases hlt : j < o.length
        · obtain ⟨ad, e2, hx0⟩ := at_int (Kd.C_below HOO.out HE.out.hB) j hlt
          cases e2
          obtain ⟨s, hs1, hs2⟩ := HNA.out j hlt
          rw [hs2] at hx0
          have hjn : j < on.length := by rw [HNL.out]; exact hlt
          have hs3 : on[j]'hjn = s := by rw [List.getElem?_eq_getElem hjn] at hs1; injection hs1
          have hsy : s < y.length := HNM.out s (by rw [← hs3]; exact List.getElem_mem hjn)
          have hg := Good.runs (on.take j) (good0 y) (fun t ht => HNM.out t (List.mem_of_mem_take ht))
          have hgl : 0 + (on.take j).length ≤ 10000 := by have := HNL.out; have := HO4.out; rw [List.length_take]; omega
          have HC := Aside0.mk (take_call HY.out HF.out HE.out HOU.out hg hgl s hsy)
          have htk : step y (run y (st0 y.length) (on.take j)) s = run y (st0 y.length) (on.take (j + 1)) := by
            rw [List.take_succ_eq_append_getElem hjn, hs3, run_snoc]
          have HTK := Aside0.mk htk
          clear hs1 hs2 hjn hs3 hsy hg hgl htk
          go_wp2_with (go_at_call 30; refine HC.out.mono ?_; rintro e w5 ⟨rfl, vo', h1, h2⟩; rw [HTK.out] at h1 h2; replace HE := Aside0.mk h1; replace HOU := Aside0.mk h2; clear h1 h2 hx0)
          go_roundg (o.length - j)
          case measure => omega
          case rel => exact ⟨j + 1, vo', ⟨by omega, by omega⟩, by go_num, ⟨by first | exact HE.out | exact HE.out.drewN _⟩, ⟨by first | exact HOU.out | exact Kd.S_drewN HOU.out _⟩⟩
        · obtain rfl : j = o.length := by omega
          rw [List.take_of_length_le (Nat.le_of_eq HNL.out)] at HE HOU
          have hS0 : run y (st0 y.length) on = run y (st0 y.length) (on ++ rest y 0) := by simp [rest]
          rw [hS0] at HE HOU
          clear hS0
          go_wp2
          go_loopg [58] (y.length + 1) (fun kq v58 wr => ∃ (j : Nat) (vo : Value), (j + kq = y.length + 1 ∧ j ≤ y.length) ∧ v58 = .int .i64 (j : Int) ∧ Aside0 (En w A1 c1 y.length b ob rn p rm q N cn cm wr vo (run y (st0 y.length) (on ++ rest y j))) ∧ Aside0 (Kd.S KC TC wr w.heap.size (fun k => N ≤ k) vo (run y (st0 y.length) (on ++ rest y j)).2.2))
          case atStart => exact ⟨0, _, ⟨by omega, Nat.zero_le _⟩, rfl, ⟨by first | exact HE.out | exact HE.out.drewN _⟩, ⟨by first | exact HOU.out | exact Kd.S_drewN HOU.out _⟩⟩
          case round =>
            clear HE HOU
            obtain ⟨j, vo, hj, rfl, HE, HOU⟩ := hrel
            have hn10 := HF.out.n
            by_cases hlt : j < y.length
            · have HG0 : Aside0 (Good y (run y (st0 y.length) (on ++ rest y j)) 3400) := ⟨by
                have h1 := Good.runs (on ++ rest y j) (good0 y) (fun t ht => by
                  rcases List.mem_append.1 ht with h | h
                  · exact HNM.out t h
                  · exact Nat.lt_trans (rest_mem h) hlt)
                refine h1.le ?_
                have h2 := rest_len HF.out j
                have h3 := HNL.out
                have h4 := HO4.out
                rw [List.length_append]; omega⟩
              obtain ⟨S0, hS0⟩ : ∃ S0, S0 = run y (st0 y.length) (on ++ rest y j) := ⟨_, rfl⟩
              rw [← hS0] at HE HOU HG0
              have HS0 := Aside0.mk hS0
              clear hS0
              go_wp2
              go_loopg [] ((row y j).length + 1) (fun kq wr => ∃ (c : Nat) (vo : Value), (c + kq = (row y j).length + 1 ∧ c ≤ (row y j).length) ∧ Aside0 ((c : Int) ≤ rd (run y S0 (List.replicate c j)).1 j) ∧ Aside0 (En w A1 c1 y.length b ob rn p rm q N cn cm wr vo (run y S0 (List.replicate c j))) ∧ Aside0 (Kd.S KC TC wr w.heap.size (fun k => N ≤ k) vo (run y S0 (List.replicate c j)).2.2))
              case atStart => exact ⟨0, _, ⟨by omega, Nat.zero_le _⟩, ⟨(HG0.out.nx j hlt).1⟩, ⟨by first | exact HE.out | exact HE.out.drewN _⟩, ⟨by first | exact HOU.out | exact Kd.S_drewN HOU.out _⟩⟩
              case round =>
                clear HE HOU
                obtain ⟨c, vo, hc, HR, HE, HOU⟩ := hrel
                have HGC : Aside0 (Good y (run y S0 (List.replicate c j)) 3700) := ⟨by
                  refine (Good.runs (List.replicate c j) HG0.out (fun t ht => by rw [(List.mem_replicate.1 ht).2]; exact hlt)).le ?_
                  have h1 := HF.out.len j
                  rw [List.length_replicate]; omega⟩
                obtain ⟨SC, hSC⟩ : ∃ SC, SC = run y S0 (List.replicate c j) := ⟨_, rfl⟩
                rw [← hSC] at HE HOU HGC HR
                have HSC := Aside0.mk hSC
                clear hSC
                obtain ⟨ad, A6, c6, hA, hc6, _, _⟩ := at_row HY.out hlt
                rw [← row_at hlt] at hc6
                replace hc6 := cellU hc6 HE.out.hB
                have hb0 : wr.cell? ⟨b, 0, none⟩ = some (.slice A1 y.length c1) := (blk_cell HE.out.bB 0).trans rfl
                have hp0 : wr.cell? ⟨p, 0, none⟩ = some (.slice (some ⟨rn, 0, none⟩) y.length cn) := (blk_cell HE.out.bN 0).trans rfl
                have hn0 := (own_at HE.out.hN hlt).1
                subst hA
                go_upto_region 21 with (fail)
                go_quiet (fail)
                replace HE := Aside0.mk (HE.out.drewN nq)
                replace HOU := Aside0.mk (Kd.S_drewN HOU.out nq)
                clear hb0 hp0 hn0 hc6
                generalize wr.drewN nq = W6 at HE HOU ⊢
                by_cases hrd : rd SC.1 j < ((row y j).length : Int)
                · have hcl : c < (row y j).length := by have := HR.out; omega
                  have HC := Aside0.mk (take_call HY.out HF.out HE.out HOU.out HGC.out (by omega) j hlt)
                  have hstep : step y SC j = run y S0 (List.replicate (c + 1) j) := by rw [List.replicate_succ', run_snoc, ← HSC.out]
                  have hnx : rd (step y SC j).1 j = rd SC.1 j + 1 := step_next (by rw [HGC.out.l1]; exact hlt) (by omega)
                  have HSTEP := Aside0.mk hstep
                  have HNX := Aside0.mk hnx
                  clear hstep hnx
                  go_wp2_with (go_at_call 30; refine HC.out.mono ?_; rintro e w5 ⟨rfl, vo', h1, h2⟩; rw [HSTEP.out] at h1 h2; replace HE := Aside0.mk h1; replace HOU := Aside0.mk h2; clear h1 h2)
                  go_roundg ((row y j).length - c)
                  case measure => omega
                  case rel => exact ⟨c + 1, vo', ⟨by omega, by omega⟩, ⟨by have h1 := HNX.out; have h2 := HR.out; rw [HSTEP.out] at h1; rw [h1]; omega⟩, ⟨by first | exact HE.out | exact HE.out.drewN _⟩, ⟨by first | exact HOU.out | exact Kd.S_drewN HOU.out _⟩⟩
                · have hfull : SC = run y (st0 y.length) (on ++ rest y (j + 1)) := by
                    rw [HSC.out, run_full hc.2 (by rw [← HSC.out]; omega), HS0.out, ← run_append, rest_snoc, List.append_assoc]
                  rw [hfull] at HE HOU
                  clear hfull
                  go_wp2
                  go_roundg (y.length - j)
                  case measure => omega
                  case rel => exact ⟨j + 1, vo, ⟨by omega, by omega⟩, by go_num, ⟨by first | exact HE.out | exact HE.out.drewN _⟩, ⟨by first | exact HOU.out | exact Kd.S_drewN HOU.out _⟩⟩
            · obtain rfl : j = y.length := by omega
              have HO9 : Aside0 ((run y (st0 y.length) (on ++ rest y y.length)).2.2.length ≤ 7000) := ⟨by
                have h1 := Good.runs (on ++ rest y y.length) (good0 y) (fun t ht => by
                  rcases List.mem_append.1 ht with h | h
                  · exact HNM.out t h
                  · exact rest_mem h)
                have h0 := h1.out
                have h2 := rest_len HF.out y.length
                have h3 := HNL.out
                have h4 := HO4.out
                rw [List.length_append] at h0; omega⟩
              rw [← HON.out] at HRES
              obtain ⟨SF, hSF⟩ : ∃ SF, SF = run y (st0 y.length) (on ++ rest y y.length) := ⟨_, rfl⟩
              rw [← hSF] at HE HOU HO9 HRES
              clear hSF
              go_wp2
              go_loopg [77] (y.length + 1) (fun kq v77 wr => ∃ (j : Nat) (vo : Value), (j + kq = y.length + 1 ∧ j ≤ y.length) ∧ v77 = .int .i64 (j : Int) ∧ Aside0 (En w A1 c1 y.length b ob rn p rm q N cn cm wr vo SF) ∧ Aside0 (Kd.S KC TC wr w.heap.size (fun k => N ≤ k) vo (SF.2.2 ++ tail j)))
              case atStart => exact ⟨0, vo, ⟨by omega, Nat.zero_le _⟩, rfl, ⟨by first | exact HE.out | exact HE.out.drewN _⟩, ⟨by rw [show tail 0 = [] from rfl, List.append_nil]; first | exact HOU.out | exact Kd.S_drewN HOU.out _⟩⟩
              case round =>
                clear HE HOU
                obtain ⟨j, vo, hj, rfl, HE, HOU⟩ := hrel
                obtain ⟨O1, hO1⟩ : ∃ O1, O1 = SF.2.2 ++ tail j := ⟨_, rfl⟩
                have hol1 : O1.length ≤ 8000 := by rw [hO1, List.length_append, tail_len]; have := HO9.out; omega
                rw [← hO1] at HOU
                have HOL := Aside0.mk hol1
                have HO1 := Aside0.mk hO1
                obtain ⟨Ao, co, hvo⟩ := Kd.S_slice HOU.out
                subst hvo
                have ho0 : wr.cell? ⟨ob, 0, none⟩ = some (.slice Ao O1.length co) := (blk_cell HE.out.bO 0).trans rfl
                have hof : wr.frozen? ⟨ob, 0, none⟩ = false := blk_frozen HE.out.bO 0
                clear hO1 hol1
                by_cases hlt : j < y.length
                · have HLO : Aside0 ((O1.length + 1) * 56 ≤ 140737488355328) := ⟨by have := HOL.out; omega⟩
                  have HVO : Aside0 (∀ k, (Value.slice Ao O1.length co).ownBlock = some k → N ≤ k) := ⟨(Kd.S_R HOU.out).1⟩
                  have HTS : Aside0 (O1 ++ [(⟨(j : Int), none0, 1000000000001⟩ : Com)] = SF.2.2 ++ tail (j + 1)) := ⟨by rw [HO1.out, tail_snoc, List.append_assoc]; rfl⟩
                  go_upto_region 28 with ((with_reducible refine gate_builtin (b := .append) (xs := #[.tmp 80, .tmp 83]) rfl ?_); at_builtin; refine Kd.S_append KC (w0 := w) w.heap.size rfl (.tmp 80) (.tmp 83) TCs TC (.agg #[.int .i64 0, .int .i64 0, .slice none 0 0, .bool false, .int .i64 0]) 56 rfl Try.underlying27 info56 rfl (by decide) (by omega) (.slice Ao O1.length co) O1 (⟨(j : Int), none0, 1000000000001⟩ : Com) [.int .i64 (j : Int), .int .i64 0, .slice none 0 0, .bool false, .int .i64 1000000000001] (fun k => N ≤ k) (fun _ => False) rfl rfl ?aP (fun _ h => h.elim) ?aF ?aO ?aB ?aS ?aL ?_; (case aP => exact kc_mk _ _ _ (⟨(j : Int), none0, 1000000000001⟩ : Com) (Kd.R_nil _ _ _ _ _)); (case aF => exact fun k hk => Nat.le_trans HE.out.hS hk); (case aO => exact Kd.S_mono HOU.out (fun k hk => ⟨hk, fun e => e⟩)); (case aB => exact HE.out.hB); (case aS => exact HE.out.hB.size); (case aL => exact HLO.out); intro v7 w7 ho hb hg _; replace HE := Aside0.mk (HE.out.grown hg (fun x e => HVO.out x e) hb); rw [HTS.out] at ho; obtain ⟨O2, hO2⟩ : ∃ O2, O2 = SF.2.2 ++ tail (j + 1) := ⟨_, rfl⟩; rw [← hO2] at ho; have HO2 := Aside0.mk hO2; obtain ⟨A9_, c9_, rfl⟩ := Kd.S_slice ho; replace HOU := Aside0.mk ho; clear hO2; have ho1 : w7.cell? ⟨ob, 0, none⟩ = some (.slice Ao O1.length co) := (blk_cell HE.out.bO 0).trans rfl; have hof1 : w7.frozen? ⟨ob, 0, none⟩ = false := blk_frozen HE.out.bO 0; clear ho hb hg)
                  clear ho0 hof ho1 hof1
                  have HOI := Aside0.mk HE.out.io
                  replace HOU := Aside0.mk (Kd.S_far (p := ⟨ob, 0, none⟩) HOU.out (fun k (hk : N ≤ k) (e : k = ob) => by have := HOI.out; omega) (.slice A9_ O2.length c9_))
                  replace HE := Aside0.mk (HE.out.setO (.slice A9_ O2.length c9_))
                  generalize w7.setCell ⟨ob, 0, none⟩ (.slice A9_ O2.length c9_) = W8 at HOU HE ⊢
                  go_wp2
                  go_roundg (y.length - j)
                  case measure => omega
                  case rel => exact ⟨j + 1, .slice A9_ O2.length c9_, ⟨by omega, by omega⟩, by go_num, ⟨by first | exact HE.out | exact HE.out.drewN _⟩, ⟨by rw [← HO2.out]; first | exact HOU.out | exact Kd.S_drewN HOU.out _⟩⟩
                · obtain rfl : j = y.length := by omega
                  rw [← HO1.out] at HRES
                  by_cases h4 : (400 : Int) < (O1.length : Int)
                  · have hfin : fin O1 = [] := if_pos (by omega)
                    rw [hfin] at HRES
                    go_wp2
                    go_ret
                    refine ⟨_, rfl, ?_, HE.out.hB⟩
                    rw [HRES.out]
                    exact Kd.S_nil _ _ _ _ _
                  · have hfin : fin O1 = O1 := if_neg (by omega)
                    rw [hfin] at HRES
                    go_wp2
                    go_ret
                    refine ⟨_, rfl, ?_, by first | exact HE.out.hB | exact pw_below_drewN HE.out.hB _⟩
                    rw [HRES.out]
                    exact Kd.S_mono HOU.out (fun _ _ => trivial)
end Go.Proofs.Ytmkhiaikfeoedaa.EndsK
