/- The reference's InputsOk, called: what it tells is 'inputsB'. (By hand: the printed text of this function does not end in Lean.) -/
import Derived.Test.YtmkhiaikfeoedaaE1InputsOkPure
namespace Go.Proofs.Ytmkhiaikfeoedaa.InputsOk
open Go.RowKit Go.Proofs.YtmkhiaikfeoedaaW.PrintWords Go.Proofs.YtmkhiaikfeoedaaW.PrintLast Go.Proofs.YtmkhiaikfeoedaaW.PrintMore Go.Proofs.Ytmkhiaikfeoedaa.QFnExactInputsOk Go.Proofs.Ytmkhiaikfeoedaa.EvKit Go.Proofs.Ytmkhiaikfeoedaa.GFnExactInputsOk
theorem bel {w w1 w2 : World} (h : Below w.heap.size w w1) (h2 : Below w1.heap.size w1 w2) : Below w.heap.size w w2 := h.trans (h2.mono h.size)
theorem call_in (a b c : Int) (r : Bool) (W : World) (h : decide (b ≤ a ∧ a ≤ c) = r) : Calls Try.prog 23 #[.int .i64 a, .int .i64 b, .int .i64 c] W fun e w' => e = .returned (.bool r) ∧ Drawn0 W w' :=
  spec_l1In.calls a b c r W (by rw [in_f, h])
theorem call_sources (A0 : Option Addr) (c0 : Nat) (x : List Src) (r : Bool) (W : World) (hx : Kd.C k58 W A0 x.length x) (hcx : x.length ≤ c0) (sx : sm_SourceS x) (h : sourcesB x = r) :
    Calls Try.prog 41 #[.slice A0 x.length c0] W fun e w' => e = .returned (.bool r) ∧ Below W.heap.size W w' := by
  subst h
  obtain ⟨k, hk⟩ := Ev.rounds (spec_sources x sx)
  exact spec_SourcesOk.calls k A0 c0 x _ W hx hcx hk
theorem elemSS {w W : World} {A : Option Addr} {y : List (List Arr)} (h : Kd.C (Kd.slice 54 k54) w A y.length y) (hb : Below w.heap.size w W) (j : Nat) (hj : j < y.length) :
    ∃ ad A' c', A = some ad ∧ W.cell? (ad.add j) = some (.slice A' y[j].length c') ∧ y[j].length ≤ c' ∧ k54.C W A' y[j].length y[j] := by
  obtain ⟨ad, A', c', e, hc, hl, hC⟩ := at_L10 (Kd.C_below h hb) (j : Int) (by omega) (by omega)
  rw [at_rd_L10 y j hj] at hc hl hC
  exact ⟨ad, A', c', e, by simpa using hc, hl, hC⟩
theorem elemA {W : World} {A : Option Addr} {y : List Arr} (h : Kd.C k54 W A y.length y) (j : Nat) (hj : j < y.length) :
    ∃ ad A' c', A = some ad ∧ W.cell? (ad.add (j * 3)) = some (.int .i64 y[j].f0) ∧ W.cell? ⟨(ad.add (j * 3)).block, (ad.add (j * 3)).off + 1, none⟩ = some (.slice A' y[j].f1.length c') ∧ W.cell? ⟨(ad.add (j * 3)).block, (ad.add (j * 3)).off + 2, none⟩ = some (.bool y[j].f2) ∧ y[j].f1.length ≤ c' ∧ (Kd.int .i64).C W A' y[j].f1.length y[j].f1 := by
  obtain ⟨ad, A', c', e, h0, h1, h2, hl, hC⟩ := at_T54 h (j : Int) (by omega) (by omega)
  rw [at_rd_T54 y j hj] at h0 h1 h2 hl hC
  exact ⟨ad, A', c', e, by simpa using h0, by simpa using h1, by simpa using h2, hl, hC⟩
theorem elemS {W : World} {A : Option Addr} {y : List Src} (h : Kd.C k58 W A y.length y) (j : Nat) (hj : j < y.length) :
    ∃ ad A' c', A = some ad ∧ W.cell? ⟨(ad.add (j * 3)).block, (ad.add (j * 3)).off + 1, none⟩ = some (.bool y[j].f1) ∧ W.cell? ⟨(ad.add (j * 3)).block, (ad.add (j * 3)).off + 2, none⟩ = some (.slice A' y[j].f2.length c') := by
  obtain ⟨ad, A', c', e, h0, h1, h2, _, _⟩ := at_T58 h (j : Int) (by omega) (by omega)
  rw [at_rd_T58 y j hj] at h1 h2
  exact ⟨ad, A', c', e, by simpa using h1, by simpa using h2⟩
def Box3 (w : World) (g : Nat) (a b c : Value) : Prop := g < w.heap.size ∧ w.cell? ⟨g, 0, none⟩ = some a ∧ w.cell? ⟨g, 1, none⟩ = some b ∧ w.cell? ⟨g, 2, none⟩ = some c
theorem box3_new (w : World) (a b c : Value) (t : TypeId) : Box3 (w.alloc (.cells #[a, b, c] t)) w.heap.size a b c := by
  refine ⟨by simp, ?_, ?_, ?_⟩ <;> go_simp
theorem Box3.below {w w' : World} {g : Nat} {a b c : Value} (h : Box3 w g a b c) (hb : Below w.heap.size w w') : Box3 w' g a b c := by
  obtain ⟨h0, h1, h2, h3⟩ := h
  exact ⟨Nat.lt_of_lt_of_le h0 hb.size, (hb.cell h0).trans h1, (hb.cell h0).trans h2, (hb.cell h0).trans h3⟩
theorem bel_alloc (w : World) (o : Obj) : Below w.heap.size w (w.alloc o) := below_alloc (Below.refl _ _) o
theorem bad (x : List Src) (y : List (List Arr)) (j i : Nat) (hj : j < y.length) (hi : i < y[j].length) (h : arrB (x.getD j srcZ) y[j][i] = false) : inputsB x y = false := by
  unfold inputsB
  have : (List.range y.length).all (fun j => (y.getD j []).all (arrB (x.getD j srcZ))) = false := by
    rw [List.all_eq_false]
    refine ⟨j, List.mem_range.2 hj, ?_⟩
    rw [show y.getD j [] = y[j] from by simp [hj], Bool.not_eq_true, List.all_eq_false]
    exact ⟨_, List.getElem_mem hi, by rw [h]; simp⟩
  rw [this]
  simp
def okTo (x : List Src) (y : List (List Arr)) (j : Nat) : Prop := ∀ i, i < j → (y.getD i []).all (arrB (x.getD i srcZ)) = true
set_option maxHeartbeats 1600000 in
set_option maxRecDepth 100000 in
theorem spec_inputs_calls (A0 A1 : Option Addr) (c0 c1 : Nat) (x : List Src) (y : List (List Arr)) (w : World) (hx : Kd.C k58 w A0 x.length x) (hcx : x.length ≤ c0) (hy : Kd.C (Kd.slice 54 k54) w A1 y.length y) (_ : y.length ≤ c1) (sx : sm_SourceS x) (sy : sm_ArrivalSS y) :
    Calls Try.prog 22 #[.slice A0 x.length c0, .slice A1 y.length c1] w fun e w' => e = .returned (.bool (inputsB x y)) ∧ Below w.heap.size w w' := by
  have HX := Aside0.mk hx
  have HY := Aside0.mk hy
  have HCX := Aside0.mk hcx
  have SX := Aside0.mk sx
  have SY := Aside0.mk sy
  have lx := sx.1
  have ly := sy.1
  clear hx hy hcx sx sy
  by_cases c1 : sourcesB x = true
  case neg =>
    have hfin : inputsB x y = false := by unfold inputsB; simp [c1]
    have HF := Aside0.mk hfin
    have hb1 : sourcesB x = false := by simpa using c1
    have HS := Aside0.mk hb1
    clear hfin c1 hb1
    go_enter Try.func22, Try.ntmps22
    go_wp2_with (go_at_call 41; refine (call_sources _ _ x false _ HX.out HCX.out SX.out HS.out).mono ?_; rintro e w' ⟨rfl, hb⟩; have HB := Aside0.mk hb; clear hb)
    go_ret
    exact ⟨by rw [HF.out]; rfl, HB.out⟩
  have HS := Aside0.mk c1
  clear c1
  by_cases c2 : y.length = x.length
  case neg =>
    have hfin : inputsB x y = false := by unfold inputsB; simp [c2]
    have HF := Aside0.mk hfin
    have hb2 : ((y.length : Int) == (x.length : Int)) = false := beq_eq_false_iff_ne.2 (by omega)
    have hb3 : ((y.length : Int) != (x.length : Int)) = true := bne_iff_ne.2 (by omega)
    clear hfin c2
    go_enter Try.func22, Try.ntmps22
    go_wp2_with (go_at_call 41; refine (call_sources _ _ x true _ HX.out HCX.out SX.out HS.out).mono ?_; rintro e w' ⟨rfl, hb⟩; have HB := Aside0.mk hb; clear hb)
    go_ret
    exact ⟨by rw [HF.out]; rfl, HB.out⟩
  have HL := Aside0.mk c2
  have hb2 : ((y.length : Int) == (x.length : Int)) = true := beq_iff_eq.2 (by omega)
  have hb3 : ((y.length : Int) != (x.length : Int)) = false := bne_eq_false_iff_eq.2 (by omega)
  clear c2
  go_enter Try.func22, Try.ntmps22
  go_wp2_with (go_at_call 41; refine (call_sources _ _ x true _ HX.out HCX.out SX.out HS.out).mono ?_; rintro e w' ⟨rfl, hb⟩; have HB := Aside0.mk hb; clear hb)
  go_loopg [5, 6] (y.length + 1) (fun kq v5 v6 wr => ∃ j : Nat, (j + kq = y.length + 1 ∧ j ≤ y.length) ∧ v5 = .int .i64 (many (y.take j)) ∧ v6 = .int .i64 (j : Int) ∧ Aside0 (okTo x y j) ∧ Aside0 (Below w.heap.size w wr))
  case atStart => exact ⟨0, ⟨by omega, by omega⟩, rfl, rfl, ⟨fun i hi => absurd hi (Nat.not_lt_zero _)⟩, HB⟩
  case round =>
    clear HB
    obtain ⟨j, hj, rfl, rfl, HO, HB⟩ := hrel
    by_cases hlt : j < y.length
    case neg =>
      obtain rfl : j = y.length := by omega
      rw [List.take_length]
      have HM := Aside0.mk (many_le y SY.out y.length)
      go_wp2
      go_ret
      refine ⟨?_, HB.out⟩
      show Ending.returned (Value.bool (decide (many y ≤ 300))) = _
      have h := HO.out
      congr 2
      unfold inputsB
      rw [HS.out, decide_eq_true HL.out, List.all_eq_true.2 (fun i hi => h i (List.mem_range.1 hi))]
      simp
    have HM := Aside0.mk (many_le y SY.out j)
    have HMS := Aside0.mk (many_take y j hlt)
    have hjx : j < x.length := by have := HL.out; omega
    have SJ := Aside0.mk (SY.out.2 _ (List.getElem_mem hlt))
    have lyj := SJ.out.1
    obtain ⟨ad, A', c', e, hc, hl', hC⟩ := elemSS HY.out HB.out j hlt
    cases e
    have HCJ := Aside0.mk hC
    clear hC
    have hg1 : 0 ≤ many (y.take j) := HM.out.1
    have hg2 : many (y.take j) ≤ 1099511627776 := by have := HM.out.2; omega
    go_wp2_with fail
    go_loopg [7] (y[j].length + 1) (fun kq v7 wr2 => ∃ i : Nat, (i + kq = y[j].length + 1 ∧ i ≤ y[j].length) ∧ v7 = .int .i64 (i : Int) ∧ Aside0 (∀ q, (hq : q < i) → (hq' : q < y[j].length) → arrB (x.getD j srcZ) y[j][q] = true) ∧ Aside0 (Below w.heap.size w wr2))
    case atStart => exact ⟨0, ⟨by omega, by omega⟩, rfl, ⟨fun i hi => absurd hi (Nat.not_lt_zero _)⟩, HB⟩
    case round =>
      clear HB hc HCJ
      obtain ⟨i, hi, rfl, HQ, HB⟩ := hrel
      obtain ⟨ad2, A', c', e, hc, hl', hC⟩ := elemSS HY.out HB.out j hlt
      cases e
      by_cases hit : i < y[j].length
      case neg =>
        go_wp2
        go_roundg (y.length - j)
        case measure => omega
        case rel =>
          refine ⟨j + 1, ⟨by omega, by omega⟩, ?_, by go_num, ⟨fun q hq => ?_⟩, HB⟩
          · rw [HMS.out]
          · by_cases hqj : q = j
            · subst hqj
              rw [List.all_eq_true]
              intro b hb
              rw [show y.getD q [] = y[q] from by simp [hlt]] at hb
              obtain ⟨m, hm, rfl⟩ := List.mem_iff_getElem.1 hb
              exact HQ.out m (by omega) hm
            · exact HO.out q (by omega)
      obtain ⟨ad3, A3, c3, e3, g0, g1, g2, hl3, hC3⟩ := elemA hC i hit
      cases e3
      have HC3 := Aside0.mk hC3
      clear hC hC3
      go_upto_region 12 with (fail)
      have HBX := Aside0.mk (box3_new wr (.int .i64 y[j][i].f0) (.slice A3 y[j][i].f1.length c3) (.bool y[j][i].f2) 54)
      have HB2 := Aside0.mk (bel HB.out (bel_alloc wr (.cells #[.int .i64 y[j][i].f0, .slice A3 y[j][i].f1.length c3, .bool y[j][i].f2] 54)))
      have HC4 := Aside0.mk (Kd.C_below HC3.out (bel_alloc wr (.cells #[.int .i64 y[j][i].f0, .slice A3 y[j][i].f1.length c3, .bool y[j][i].f2] 54)))
      clear HB HC3 g0 g1 g2 hc
      generalize wr.alloc (.cells #[.int .i64 y[j][i].f0, .slice A3 y[j][i].f1.length c3, .bool y[j][i].f2] 54) = W2 at *
      generalize wr.heap.size = g at *
      clear wr
      obtain ⟨ad4, A4, c4, e4, s1, s2⟩ := elemS (Kd.C_below HX.out HB2.out) j hjx
      cases e4
      obtain ⟨lg, b0, b1, b2⟩ := HBX.out
      have hgx : x.getD j srcZ = x[j] := by simp [hjx]
      have HGX := Aside0.mk hgx
      clear hgx
      have hcase : (decide (0 ≤ y[j][i].f0 ∧ y[j][i].f0 ≤ 1000000000000) = false) ∨ (decide (0 ≤ y[j][i].f0 ∧ y[j][i].f0 ≤ 1000000000000) = true ∧ ¬ y[j][i].f1.length = x[j].f2.length)
          ∨ (decide (0 ≤ y[j][i].f0 ∧ y[j][i].f0 ≤ 1000000000000) = true ∧ y[j][i].f1.length = x[j].f2.length ∧ y[j][i].f2 = true ∧ x[j].f1 = false)
          ∨ (decide (0 ≤ y[j][i].f0 ∧ y[j][i].f0 ≤ 1000000000000) = true ∧ y[j][i].f1.length = x[j].f2.length ∧ y[j][i].f2 = false)
          ∨ (decide (0 ≤ y[j][i].f0 ∧ y[j][i].f0 ≤ 1000000000000) = true ∧ y[j][i].f1.length = x[j].f2.length ∧ y[j][i].f2 = true ∧ x[j].f1 = true) := by
        by_cases h1 : decide (0 ≤ y[j][i].f0 ∧ y[j][i].f0 ≤ 1000000000000) = true
        · by_cases h2 : y[j][i].f1.length = x[j].f2.length
          · cases h3 : y[j][i].f2
            · exact Or.inr (Or.inr (Or.inr (Or.inl ⟨h1, h2, rfl⟩)))
            · cases h4 : x[j].f1
              · exact Or.inr (Or.inr (Or.inl ⟨h1, h2, rfl, rfl⟩))
              · exact Or.inr (Or.inr (Or.inr (Or.inr ⟨h1, h2, rfl, rfl⟩)))
          · exact Or.inr (Or.inl ⟨h1, h2⟩)
        · exact Or.inl (by simpa using h1)
      rcases hcase with h1 | ⟨h1, h2⟩ | ⟨h1, h2, h3, h4⟩ | ⟨h1, h2, h3⟩ | ⟨h1, h2, h3, h4⟩
      · have HF := Aside0.mk (bad x y j i hlt hit (by rw [HGX.out]; unfold arrB; rw [h1]; simp))
        have H1 := Aside0.mk h1
        clear h1
        go_quiet ((go_at_call 23; refine (call_in _ _ _ false _ H1.out).mono ?_; rintro e w' ⟨rfl, ⟨nd, rfl⟩⟩; first | exact ⟨rfl, _, World.drewN_drewN _ _ _⟩ | exact ⟨rfl, _, rfl⟩))
        go_wp2
        go_ret
        exact ⟨by rw [HF.out]; rfl, pw_below_drewN HB2.out _⟩
      · have HF := Aside0.mk (bad x y j i hlt hit (by rw [HGX.out]; unfold arrB; rw [decide_eq_false h2]; simp))
        have H1 := Aside0.mk h1
        have k1 : ((y[j][i].f1.length : Int) == (x[j].f2.length : Int)) = false := beq_eq_false_iff_ne.2 (by omega)
        have k2 : ((y[j][i].f1.length : Int) != (x[j].f2.length : Int)) = true := bne_iff_ne.2 (by omega)
        clear h1 h2
        go_quiet ((go_at_call 23; refine (call_in _ _ _ true _ H1.out).mono ?_; rintro e w' ⟨rfl, ⟨nd, rfl⟩⟩; first | exact ⟨rfl, _, World.drewN_drewN _ _ _⟩ | exact ⟨rfl, _, rfl⟩))
        go_wp2
        go_ret
        exact ⟨by rw [HF.out]; rfl, pw_below_drewN HB2.out _⟩
      · have HF := Aside0.mk (bad x y j i hlt hit (by rw [HGX.out]; unfold arrB; rw [h3, h4]; simp))
        have H1 := Aside0.mk h1
        have k1 : ((y[j][i].f1.length : Int) == (x[j].f2.length : Int)) = true := beq_iff_eq.2 (by omega)
        have k2 : ((y[j][i].f1.length : Int) != (x[j].f2.length : Int)) = false := bne_eq_false_iff_eq.2 (by omega)
        rw [h3] at b2
        rw [h4] at s1
        clear h1 h2 h3 h4
        go_quiet ((go_at_call 23; refine (call_in _ _ _ true _ H1.out).mono ?_; rintro e w' ⟨rfl, ⟨nd, rfl⟩⟩; first | exact ⟨rfl, _, World.drewN_drewN _ _ _⟩ | exact ⟨rfl, _, rfl⟩))
        go_wp2
        go_ret
        exact ⟨by rw [HF.out]; rfl, pw_below_drewN HB2.out _⟩
      all_goals
        have HAB : Aside0 (arrB x[j] y[j][i] = y[j][i].f1.all inB) := ⟨by unfold arrB; rw [h1, decide_eq_true h2, h3]; (try rw [h4]); cases y[j][i].f1.all inB <;> rfl⟩
        have H1 := Aside0.mk h1
        have k1 : ((y[j][i].f1.length : Int) == (x[j].f2.length : Int)) = true := beq_iff_eq.2 (by omega)
        have k2 : ((y[j][i].f1.length : Int) != (x[j].f2.length : Int)) = false := bne_eq_false_iff_eq.2 (by omega)
        rw [h3] at b2
        (try rw [h4] at s1)
        clear h1 h2 h3
        (try clear h4)
        go_quiet ((go_at_call 23; refine (call_in _ _ _ true _ H1.out).mono ?_; rintro e w' ⟨rfl, ⟨nd, rfl⟩⟩; first | exact ⟨rfl, _, World.drewN_drewN _ _ _⟩ | exact ⟨rfl, _, rfl⟩))
        go_wp2
        go_loopg [9] (y[j][i].f1.length + 1) (fun kq v9 wr3 => ∃ n : Nat, (n + kq = y[j][i].f1.length + 1 ∧ n ≤ y[j][i].f1.length) ∧ v9 = .int .i64 (n : Int) ∧ Aside0 (∀ q, (hq : q < n) → (hq' : q < y[j][i].f1.length) → inB y[j][i].f1[q] = true) ∧ Aside0 (Below W2.heap.size W2 wr3))
        case atStart => exact ⟨0, ⟨by omega, by omega⟩, rfl, ⟨fun q hq => absurd hq (Nat.not_lt_zero _)⟩, ⟨pw_below_drewN (Below.refl _ _) _⟩⟩
        case round =>
          clear b0 b1 b2 s1 s2 lg
          obtain ⟨n, hn, rfl, HN, HB3⟩ := hrel
          obtain ⟨lg, b0, b1, b2⟩ := (HBX.out.below HB3.out)
          have ln := (SJ.out.2 _ (List.getElem_mem hit)).2.1.1
          by_cases hnt : n < y[j][i].f1.length
          case neg =>
            go_wp2
            go_roundg (y[j].length - i)
            case measure => omega
            case rel =>
              refine ⟨i + 1, ⟨by omega, by omega⟩, by go_num, ⟨fun q hq hq' => ?_⟩, ⟨bel HB2.out HB3.out⟩⟩
              by_cases hqi : q = i
              · subst hqi
                rw [HGX.out, HAB.out, List.all_eq_true]
                intro b hb
                obtain ⟨m, hm, rfl⟩ := List.mem_iff_getElem.1 hb
                exact HN.out m (by omega) hm
              · exact HQ.out q (by omega) hq'
          obtain ⟨ad5, e5, s5⟩ := Kd.at_int (Kd.C_below HC4.out HB3.out) (n : Int) (by omega) (by omega)
          cases e5
          rw [show rd y[j][i].f1 (n : Int) = y[j][i].f1[n] from by simp [rd, hnt]] at s5
          simp only [Int.toNat_natCast] at s5
          by_cases hin : inB y[j][i].f1[n] = true
          · have HI := Aside0.mk hin
            clear hin
            go_wp2_with (go_at_call 23; refine (call_in _ _ _ true _ HI.out).mono ?_; rintro e w' ⟨rfl, ⟨nd, rfl⟩⟩)
            go_roundg (y[j][i].f1.length - n)
            case measure => omega
            case rel =>
              refine ⟨n + 1, ⟨by omega, by omega⟩, by go_num, ⟨fun q hq hq' => ?_⟩, ⟨pw_below_drewN HB3.out _⟩⟩
              by_cases hqn : q = n
              · subst hqn; exact HI.out
              · exact HN.out q (by omega) hq'
          · have HI := Aside0.mk (show inB y[j][i].f1[n] = false by simpa using hin)
            have HF := Aside0.mk (bad x y j i hlt hit (by rw [HGX.out, HAB.out, List.all_eq_false]; exact ⟨_, List.getElem_mem hnt, hin⟩))
            clear hin
            go_wp2_with (go_at_call 23; refine (call_in _ _ _ false _ HI.out).mono ?_; rintro e w' ⟨rfl, ⟨nd, rfl⟩⟩)
            go_ret
            exact ⟨by rw [HF.out]; rfl, pw_below_drewN (bel HB2.out HB3.out) _⟩
end Go.Proofs.Ytmkhiaikfeoedaa.InputsOk
