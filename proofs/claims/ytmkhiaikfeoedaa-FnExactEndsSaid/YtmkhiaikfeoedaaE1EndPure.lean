/- What Ends tells, over lists alone: the reference tells so. -/
import Derived.Test.YtmkhiaikfeoedaaE1InputsOkSpec
import Derived.Test.YtmkhiaikfeoedaaE1QFnExactInputsOkx6
namespace Go.Proofs.Ytmkhiaikfeoedaa.EndsK
open Go.RowKit Go.Proofs.YtmkhiaikfeoedaaW.PrintWords Go.Proofs.YtmkhiaikfeoedaaW.PrintLast Go.Proofs.YtmkhiaikfeoedaaW.PrintMore Go.Proofs.Ytmkhiaikfeoedaa.QFnExactInputsOk Go.Proofs.Ytmkhiaikfeoedaa.EvKit Go.Proofs.Ytmkhiaikfeoedaa.InputsOk Go.Proofs.Ytmkhiaikfeoedaa.GFnExactInputsOk
set_option linter.unusedSimpArgs false
set_option linter.unusedVariables false
abbrev Com := S56
abbrev SrcE := S58
abbrev St := List Int × List Int × List Com
def none0 : Arr := ⟨0, [], false⟩
def zArr : Arr := z54
def row (y : List (List Arr)) (s : Nat) : List Arr := y.getD s []
def lst (b : Int) : List Arr → Int
  | [] => b
  | a :: l => lst (if b < a.f0 then b else a.f0) l
def step (y : List (List Arr)) (st : St) (s : Nat) : St :=
  if ((row y s).length : Int) ≤ rd st.1 s then st
  else if lst 1000000000000 ((row y s).drop (rd st.1 s).toNat) > rd st.2.1 s then
    (st.1.set s (rd st.1 s + 1), st.2.1.set s (lst 1000000000000 ((row y s).drop (rd st.1 s).toNat)), (st.2.2 ++ [⟨s, none0, lst 1000000000000 ((row y s).drop (rd st.1 s).toNat)⟩]) ++ [⟨s, (row y s).getD (rd st.1 s).toNat zArr, -1⟩])
  else (st.1.set s (rd st.1 s + 1), st.2.1, st.2.2 ++ [⟨s, (row y s).getD (rd st.1 s).toNat zArr, -1⟩])
def run (y : List (List Arr)) (st : St) (l : List Nat) : St := l.foldl (step y) st
theorem run_snoc (y : List (List Arr)) (st : St) (l : List Nat) (s : Nat) : run y st (l ++ [s]) = step y (run y st l) s := by simp [run]
theorem run_append (y : List (List Arr)) (st : St) (l m : List Nat) : run y st (l ++ m) = run y (run y st l) m := by simp [run]
structure Fit (y : List (List Arr)) : Prop where
  n : y.length ≤ 10
  len : ∀ s, (row y s).length ≤ 300
  tm : ∀ s, ∀ a ∈ row y s, 0 ≤ a.f0 ∧ a.f0 ≤ 1000000000000
  sm : ∀ s, ∀ a ∈ row y s, a.f1.length ≤ 1048576
structure Good (y : List (List Arr)) (st : St) (m : Nat) : Prop where
  l1 : st.1.length = y.length
  l2 : st.2.1.length = y.length
  nx : ∀ s, s < y.length → 0 ≤ rd st.1 s ∧ rd st.1 s ≤ (row y s).length
  out : st.2.2.length ≤ 2 * m
theorem rd_set {l : List Int} {s t : Nat} (v : Int) (h : s < l.length) : rd (l.set s v) t = if t = s then v else rd l t := by
  unfold rd
  rw [Int.toNat_natCast, List.getD_eq_getElem?_getD, List.getD_eq_getElem?_getD, List.getElem?_set]
  by_cases e : s = t
  · subst e; simp [h]
  · rw [if_neg e, if_neg (fun h => e h.symm)]
theorem Good.step {y : List (List Arr)} {st : St} {m : Nat} (h : Good y st m) {s : Nat} (hs : s < y.length) : Good y (step y st s) (m + 1) := by
  have hl : s < st.1.length := by rw [h.l1]; exact hs
  have ho := h.out
  have key : ∀ (mk : List Int) (out : List Com), mk.length = y.length → out.length ≤ 2 * (m + 1) → ¬ ((row y s).length : Int) ≤ rd st.1 s → Good y (st.1.set s (rd st.1 s + 1), mk, out) (m + 1) := fun mk out h1 h2 hn =>
    ⟨by rw [List.length_set]; exact h.l1, h1, fun t ht => by
      have h3 := h.nx t ht
      show 0 ≤ rd (st.1.set s (rd st.1 s + 1)) t ∧ rd (st.1.set s (rd st.1 s + 1)) t ≤ _
      rw [rd_set _ hl]
      by_cases e : t = s
      · subst e; rw [if_pos rfl]; omega
      · rw [if_neg e]; exact h3, h2⟩
  unfold EndsK.step
  by_cases c1 : ((row y s).length : Int) ≤ rd st.1 s
  · rw [if_pos c1]; exact ⟨h.l1, h.l2, h.nx, by omega⟩
  · rw [if_neg c1]
    split
    · exact key _ _ (by rw [List.length_set]; exact h.l2) (by simp; omega) c1
    · exact key _ _ h.l2 (by simp; omega) c1
theorem Good.runs {y : List (List Arr)} (l : List Nat) : ∀ {st : St} {m : Nat}, Good y st m → (∀ s ∈ l, s < y.length) → Good y (EndsK.run y st l) (m + l.length) := by
  induction l with
  | nil => intro st m h _; exact h
  | cons s l ih =>
    intro st m h hl
    have := ih (h.step (hl s List.mem_cons_self)) (fun t ht => hl t (List.mem_cons_of_mem _ ht))
    show Good y (EndsK.run y (EndsK.step y st s) l) (m + (l.length + 1))
    rwa [show m + (l.length + 1) = m + 1 + l.length by omega]
theorem Good.le {y : List (List Arr)} {st : St} {m m' : Nat} (h : Good y st m) (hm : m ≤ m') : Good y st m' := ⟨h.l1, h.l2, h.nx, by have := h.out; omega⟩
def st0 (n : Nat) : St := (List.replicate n 0, List.replicate n 0, [])
theorem good0 (y : List (List Arr)) : Good y (st0 y.length) 0 := ⟨by simp [st0], by simp [st0], fun s hs => by
  have : rd (st0 y.length).1 s = 0 := by simp [st0, rd, hs]
  rw [this]; omega, by simp [st0]⟩
def rest (y : List (List Arr)) (j : Nat) : List Nat := (List.range j).flatMap fun s => List.replicate (row y s).length s
theorem rest_snoc (y : List (List Arr)) (j : Nat) : rest y (j + 1) = rest y j ++ List.replicate (row y j).length j := by simp [rest, List.range_succ]
theorem rest_mem {y : List (List Arr)} {j s : Nat} (h : s ∈ rest y j) : s < j := by
  simp only [rest, List.mem_flatMap, List.mem_range, List.mem_replicate] at h
  obtain ⟨a, ha, _, rfl⟩ := h
  exact ha
theorem rest_len {y : List (List Arr)} (h : Fit y) (j : Nat) : (rest y j).length ≤ 300 * j := by
  induction j with
  | zero => simp [rest]
  | succ j ih => rw [rest_snoc, List.length_append, List.length_replicate]; have := h.len j; omega
def lastC (s : Nat) : Com := ⟨s, none0, 1000000000001⟩
def tail (j : Nat) : List Com := (List.range j).map lastC
theorem tail_snoc (j : Nat) : tail (j + 1) = tail j ++ [lastC j] := by simp [tail, List.range_succ]
theorem tail_len (j : Nat) : (tail j).length = j := by simp [tail]
def fin (out : List Com) : List Com := if out.length > 400 then [] else out
def inO (n : Nat) (o : List Int) : Bool := o.all fun s => decide (0 ≤ s ∧ s ≤ (n : Int) - 1)
def endsR (x : List SrcE) (y : List (List Arr)) (o : List Int) : List Com :=
  if inputsB x y = true ∧ o.length ≤ 400 ∧ inO x.length o = true then
    fin ((run y (st0 y.length) (o.map Int.toNat ++ rest y y.length)).2.2 ++ tail y.length)
  else []
theorem row_at {y : List (List Arr)} {s : Nat} (h : s < y.length) : row y s = y[s] := by simp [row, h]
theorem many_mem : ∀ (y : List (List Arr)) (l : List Arr), l ∈ y → (l.length : Int) ≤ many y := by
  intro y
  induction y with
  | nil => intro l h; cases h
  | cons a y ih =>
    intro l h
    have e : many (a :: y) = (a.length : Int) + many y := by simp [many]
    have h0 : 0 ≤ many y := by unfold many; omega
    rcases List.mem_cons.1 h with rfl | h
    · omega
    · have := ih l h; omega
theorem fit_of {x : List SrcE} {y : List (List Arr)} (sy : sm_ArrivalSS y) (h : inputsB x y = true) : Fit y ∧ y.length = x.length := by
  unfold inputsB at h
  simp only [Bool.and_eq_true, decide_eq_true_eq, List.all_eq_true, List.mem_range] at h
  obtain ⟨⟨⟨h1, h2⟩, h3⟩, h4⟩ := h
  unfold sourcesB at h1
  simp only [Bool.and_eq_true, decide_eq_true_eq] at h1
  have hmem : ∀ s a, a ∈ row y s → row y s ∈ y ∧ s < y.length := fun s a ha => by
    by_cases hs : s < y.length
    · exact ⟨by rw [row_at hs]; exact List.getElem_mem hs, hs⟩
    · rw [show row y s = [] by simp [row, Nat.not_lt.1 hs]] at ha; cases ha
  refine ⟨⟨by have := h1.1.1; omega, fun s => ?_, fun s a ha => ?_, fun s a ha => ?_⟩, h2⟩
  · by_cases hs : s < y.length
    · have := many_mem y (row y s) (by rw [row_at hs]; exact List.getElem_mem hs); omega
    · rw [show row y s = [] by simp [row, Nat.not_lt.1 hs]]; exact Nat.zero_le _
  · have h5 := h3 s (hmem s a ha).2 a ha
    unfold arrB at h5
    simp only [Bool.and_eq_true, decide_eq_true_eq] at h5
    exact h5.1.1.1
  · exact ((sy.2 _ (hmem s a ha).1).2 a ha).2.1.1
theorem rdL (y : List (List Arr)) (s : Nat) : rd_L10 y (s : Int) = row y s := by simp [rd_L10, row]
theorem rdA (l : List Arr) (i : Int) : rd_T54 l i = l.getD i.toNat zArr := rfl
theorem ev_l5 (x : List SrcE) (out : List Com) (n : Nat) (hn : x.length = n) (hn10 : n ≤ 10) (ho : out.length ≤ 100000) : Ev (fun k => spec_Ends.l5 k x [] out 0) (fin (out ++ tail n)) := by
  suffices h : ∀ (d j : Nat), j + d = n → Ev (fun k => spec_Ends.l5 k x [] (out ++ tail j) (j : Int)) (fin (out ++ tail n)) by
    have := h n 0 (by omega)
    simpa [tail] using this
  intro d
  induction d with
  | zero =>
    intro j hj
    obtain rfl : j = n := by omega
    refine Ev.step (f := fun _ => some (fin (out ++ tail j))) (fun k => ?_) (Ev.now _)
    rw [spec_Ends.l5, if_neg (by omega)]
    unfold fin
    by_cases c : (out ++ tail j).length > 400
    · rw [if_pos (by omega), if_pos c]
    · rw [if_neg (by omega), if_neg c]
  | succ d ih =>
    intro j hj
    refine Ev.step (fun k => ?_) (ih (j + 1) (by omega))
    rw [spec_Ends.l5, if_pos (by omega), if_pos (by rw [List.length_append, tail_len]; omega), tail_snoc, List.append_assoc, w64_succ (n := n) (by omega) (by omega)]
    rfl
theorem arr_f (a : Arr) (h : a.f1.length ≤ 1048576) : spec_l16Arrival.f a.f0 a.f1 a.f2 = some (a.f0, a.f1, a.f2) := by
  unfold spec_l16Arrival.f
  simp only [Option.bind_some, List.nil_append, List.length_nil, Nat.zero_add]
  rw [if_pos (by omega)]
theorem least_f (a b : Int) : spec_l5Least.f a b = some (if a < b then a else b) := by
  unfold spec_l5Least.f
  by_cases c : a < b
  · rw [if_pos c, if_pos c]
  · rw [if_neg c, if_neg c]
theorem ev_l4 {x : List SrcE} {y : List (List Arr)} (hy : Fit y) {wl : List Int} {st : St} {m : Nat} (hg : Good y st m) (hm : m ≤ 10000) {p s : Nat} (hs : s < y.length) (hp : p < 100000) (hn : ¬ ((row y s).length : Int) ≤ rd st.1 s) {r : List Com}
    (h : Ev (fun k => spec_Ends.l3 k x y [] wl (step y st s).2.2 (step y st s).1 (step y st s).2.1 ((p + 1 : Nat) : Int)) r) :
    Ev (fun k => spec_Ends.l4 k x y [] wl st.2.2 st.1 st.2.1 (p : Int) (s : Int) 1000000000000 (rd st.1 s)) r := by
  obtain ⟨i, hi⟩ : ∃ i : Nat, rd st.1 s = i := ⟨(rd st.1 s).toNat, by have := (hg.nx s hs).1; omega⟩
  have hlt : i < (row y s).length := by omega
  have hl300 := hy.len s
  have hl2 : s < st.2.1.length := by rw [hg.l2]; exact hs
  have hl1 : s < st.1.length := by rw [hg.l1]; exact hs
  have ho := hg.out
  obtain ⟨l, hl⟩ : ∃ l, l = row y s := ⟨_, rfl⟩
  suffices hh : ∀ (d q : Nat) (b : Int), q + d = l.length → lst b (l.drop q) = lst 1000000000000 (l.drop i) → Ev (fun k => spec_Ends.l4 k x y [] wl st.2.2 st.1 st.2.1 (p : Int) (s : Int) b (q : Int)) r by
    rw [hi]; exact hh (l.length - i) i _ (by rw [hl]; omega) rfl
  intro d
  induction d with
  | zero =>
    intro q b hq hb
    obtain rfl : q = l.length := by omega
    rw [List.drop_length] at hb
    have hb : b = lst 1000000000000 (l.drop i) := hb
    have hst : step y st s = if b > rd st.2.1 s then (st.1.set s ((i + 1 : Nat) : Int), st.2.1.set s b, (st.2.2 ++ [⟨s, none0, b⟩]) ++ [⟨s, l.getD i zArr, -1⟩]) else (st.1.set s ((i + 1 : Nat) : Int), st.2.1, st.2.2 ++ [⟨s, l.getD i zArr, -1⟩]) := by
      unfold step
      rw [if_neg hn, hi, Int.toNat_natCast, ← hl, ← hb]
      rfl
    rw [hst] at h
    have hsm : (l.getD i zArr).f1.length ≤ 1048576 := hy.sm s _ (by rw [hl, List.getD_eq_getElem?_getD, List.getElem?_eq_getElem hlt]; exact List.getElem_mem hlt)
    refine Ev.step (fun k => ?_) h
    have c1 : 0 ≤ (s : Int) := Int.natCast_nonneg s
    have c2 : (s : Int) < (y.length : Int) := Int.ofNat_lt.2 hs
    have c3 : ¬ (l.length : Int) < (l.length : Int) := Int.lt_irrefl _
    have c4 : (s : Int) < (st.2.1.length : Int) := Int.ofNat_lt.2 hl2
    have c5 : (s : Int) < (st.1.length : Int) := Int.ofNat_lt.2 hl1
    have c6 : 0 ≤ (i : Int) := Int.natCast_nonneg i
    have c7 : (i : Int) < (l.length : Int) := by rw [hl]; exact Int.ofNat_lt.2 hlt
    have c8 : st.2.2.length < 2513169434916 := by omega
    have c9 : (st.2.2 ++ [(⟨(s : Int), (⟨0, ([] : List Int), false⟩ : Arr), b⟩ : Com)]).length < 2513169434916 := by simp; omega
    have hw1 : wrap64 ((i : Int) + 1) = ((i + 1 : Nat) : Int) := w64_succ (n := 1000) (by omega) (by omega)
    have hw2 : wrap64 ((p : Int) + 1) = ((p + 1 : Nat) : Int) := w64_succ (n := 1000000) (by omega) (by omega)
    rw [spec_Ends.l4, if_pos c1, if_pos c2, rdL, ← hl, if_neg c3, if_pos c4, hi, rdA, Int.toNat_natCast, arr_f _ hsm, Int.toNat_natCast]
    simp only [if_pos c5, if_pos c6, if_pos c7, if_pos c8, if_pos c9, Option.bind_some, hw1, hw2]
    by_cases cb : b > rd st.2.1 s
    · simp only [if_pos cb]; rfl
    · simp only [if_neg cb]
  | succ d ih =>
    intro q b hq hb
    have hql : q < l.length := by omega
    have hq3 : q < 1000 := by rw [hl] at hql; omega
    rw [List.drop_eq_getElem_cons hql] at hb
    refine Ev.step (fun k => ?_) (ih (q + 1) _ (by omega) hb)
    rw [spec_Ends.l4, if_pos (Int.natCast_nonneg s), if_pos (Int.ofNat_lt.2 hs), rdL, ← hl, if_pos (Int.ofNat_lt.2 hql), if_pos (Int.natCast_nonneg q), least_f, w64_succ (n := 1000) hq3 (by omega), rdA, Int.toNat_natCast]
    simp only [Option.bind_some, List.getD_eq_getElem?_getD, List.getElem?_eq_getElem hql]
    rfl
theorem ev_l3 {x : List SrcE} {y : List (List Arr)} (hy : Fit y) (hx : x.length = y.length) {wl : List Nat} (hw : wl.length ≤ 10000) (hm : ∀ s ∈ wl, s < y.length) :
    Ev (fun k => spec_Ends.l3 k x y [] (wl.map fun (s : Nat) => (s : Int)) [] (List.replicate y.length 0) (List.replicate y.length 0) 0) (fin ((run y (st0 y.length) wl).2.2 ++ tail y.length)) := by
  obtain ⟨wi, hwi⟩ : ∃ wi, wi = wl.map fun (s : Nat) => (s : Int) := ⟨_, rfl⟩
  have hwl : wi.length = wl.length := by rw [hwi]; simp
  rw [← hwi]
  suffices h : ∀ (d p : Nat) (st : St), p + d = wl.length → Good y st p → run y st (wl.drop p) = run y (st0 y.length) wl → Ev (fun k => spec_Ends.l3 k x y [] wi st.2.2 st.1 st.2.1 (p : Int)) (fin ((run y (st0 y.length) wl).2.2 ++ tail y.length)) from h wl.length 0 (st0 y.length) (by omega) (good0 y) rfl
  intro d
  induction d with
  | zero =>
    intro p st hp hg hr
    obtain rfl : p = wl.length := by omega
    rw [List.drop_length] at hr
    have hr : st = run y (st0 y.length) wl := hr
    rw [← hr]
    have ho := hg.out
    refine Ev.step (fun k => ?_) (ev_l5 x st.2.2 y.length hx hy.n (by omega))
    rw [spec_Ends.l3, if_neg (by omega)]
  | succ d ih =>
    intro p st hp hg hr
    have hpl : p < wl.length := by omega
    rw [List.drop_eq_getElem_cons hpl] at hr
    have hs : wl[p] < y.length := hm _ (List.getElem_mem hpl)
    obtain ⟨s, hse⟩ : ∃ s, s = wl[p] := ⟨_, rfl⟩
    rw [← hse] at hr hs
    have hrd : rd wi (p : Int) = (s : Int) := by rw [hwi, hse]; simp [rd, hpl]
    have ih' := ih (p + 1) (step y st s) (by omega) (hg.step hs) hr
    have c1 : (p : Int) < (wi.length : Int) := by rw [hwl]; exact Int.ofNat_lt.2 hpl
    have c2 : (s : Int) < (st.1.length : Int) := by rw [hg.l1]; exact Int.ofNat_lt.2 hs
    have hp1 : p ≤ 10000 := by omega
    have hp2 : p < 100000 := by omega
    have hw2 : wrap64 ((p : Int) + 1) = ((p + 1 : Nat) : Int) := w64_succ (n := 1000000) (by omega) (by omega)
    by_cases hn : ((row y s).length : Int) ≤ rd st.1 s
    · refine Ev.step (fun k => ?_) ih'
      rw [spec_Ends.l3, if_pos c1, if_pos (Int.natCast_nonneg p), hrd, if_pos (Int.natCast_nonneg s), if_pos c2, if_pos (Int.ofNat_lt.2 hs), rdL, if_pos hn, hw2]
      have : step y st s = st := by unfold step; rw [if_pos hn]
      rw [this]
    · refine Ev.step (fun k => ?_) (ev_l4 hy hg hp1 hs hp2 hn ih')
      rw [spec_Ends.l3, if_pos c1, if_pos (Int.natCast_nonneg p), hrd, if_pos (Int.natCast_nonneg s), if_pos c2, if_pos (Int.ofNat_lt.2 hs), rdL, if_neg hn]
theorem ev_l1 {x : List SrcE} {y : List (List Arr)} (hy : Fit y) (hx : x.length = y.length) {o : List Nat} (ho : o.length ≤ 400) (hm : ∀ s ∈ o, s < y.length) :
    Ev (fun k => spec_Ends.l1 k x y [] (o.map fun (s : Nat) => (s : Int)) 0) (fin ((run y (st0 y.length) (o ++ rest y y.length)).2.2 ++ tail y.length)) := by
  have hn := hy.n
  suffices h : ∀ (d j : Nat), j + d = y.length → Ev (fun k => spec_Ends.l1 k x y [] ((o ++ rest y j).map fun (s : Nat) => (s : Int)) (j : Int)) (fin ((run y (st0 y.length) (o ++ rest y y.length)).2.2 ++ tail y.length)) by
    have := h y.length 0 (by omega)
    simpa [rest] using this
  intro d
  induction d with
  | zero =>
    intro j hj
    obtain rfl : j = y.length := by omega
    have hr := rest_len hy y.length
    refine Ev.step (fun k => ?_) (ev_l3 (wl := o ++ rest y y.length) hy hx (by rw [List.length_append]; omega) (fun s hs => by
      rcases List.mem_append.1 hs with h | h
      · exact hm s h
      · exact rest_mem h))
    rw [spec_Ends.l1, if_neg (by omega), if_pos (by omega), if_pos (by omega), Int.toNat_natCast, hx]
  | succ d ih =>
    intro j hj
    have hjl : j < y.length := by omega
    have hl := hy.len j
    have hr := rest_len hy j
    suffices h2 : ∀ (e q : Nat), q + e = (row y j).length → Ev (fun k => spec_Ends.l2 k x y [] ((o ++ rest y j ++ List.replicate q j).map fun (s : Nat) => (s : Int)) (j : Int) (q : Int)) (fin ((run y (st0 y.length) (o ++ rest y y.length)).2.2 ++ tail y.length)) by
      refine Ev.step (fun k => ?_) (h2 (row y j).length 0 (by omega))
      rw [spec_Ends.l1, if_pos (by omega)]
      simp
    intro e
    induction e with
    | zero =>
      intro q hq
      obtain rfl : q = (row y j).length := by omega
      have ih' := ih (j + 1) (by omega)
      rw [rest_snoc, ← List.append_assoc] at ih'
      refine Ev.step (fun k => ?_) ih'
      rw [spec_Ends.l2, if_pos (Int.natCast_nonneg j), if_pos (Int.ofNat_lt.2 hjl), rdL, if_neg (Int.lt_irrefl _), w64_succ (n := 1000) (by omega) (by omega)]
    | succ e ihe =>
      intro q hq
      have ih' := ihe (q + 1) (by omega)
      have e1 : (o ++ rest y j ++ List.replicate (q + 1) j).map (fun (s : Nat) => (s : Int)) = (o ++ rest y j ++ List.replicate q j).map (fun (s : Nat) => (s : Int)) ++ [(j : Int)] := by
        rw [List.replicate_succ', ← List.append_assoc, List.map_append]; rfl
      rw [e1] at ih'
      refine Ev.step (fun k => ?_) ih'
      rw [spec_Ends.l2, if_pos (Int.natCast_nonneg j), if_pos (Int.ofNat_lt.2 hjl), rdL, if_pos (by omega), if_pos (by simp; omega), w64_succ (n := 1000) (by omega) (by omega)]
theorem spec_ends (x : List SrcE) (y : List (List Arr)) (o : List Int) (sx : sm_SourceS x) (sy : sm_ArrivalSS y) (so : o.length ≤ 1048576) : Ev (fun k => spec_Ends.f k x y o) (endsR x y o) := by
  have hin : ∀ b, inputsB x y = b → spec_InputsOk.f x y = some b := fun b hb => by unfold spec_InputsOk.f; rw [if_pos ⟨sx, sy⟩, hb]
  by_cases hi : inputsB x y = true
  case neg =>
    have hi' : inputsB x y = false := by simpa using hi
    unfold endsR
    rw [if_neg (fun h => hi h.1)]
    unfold spec_Ends.f
    simp only [Option.bind_some, hin _ hi', Bool.false_eq_true, if_false]
    refine Ev.step (f := fun _ => some []) (fun k => ?_) (Ev.now _)
    rw [spec_Ends.j0, if_pos rfl]
  obtain ⟨hy, hx⟩ := fit_of sy hi
  have hx := hx.symm
  unfold spec_Ends.f
  simp only [Option.bind_some, hin _ hi, if_true]
  by_cases ho : o.length ≤ 400
  case neg =>
    unfold endsR
    rw [if_neg (fun h => ho h.2.1)]
    refine Ev.step (f := fun _ => some []) (fun k => ?_) (Ev.now _)
    rw [spec_Ends.j0, if_pos (decide_eq_true (by omega))]
  suffices h : ∀ (d j : Nat), j + d = o.length → (∀ i, i < j → ∀ h : i < o.length, 0 ≤ o[i] ∧ o[i] ≤ (x.length : Int) - 1) → Ev (fun k => spec_Ends.l0 k x y o [] o (j : Int)) (endsR x y o) by
    refine Ev.step (f := fun k => spec_Ends.l0 k x y o [] o 0) (fun k => ?_) (h o.length 0 (by omega) (fun i hi => absurd hi (Nat.not_lt_zero _)))
    rw [spec_Ends.j0, if_neg (by simp; omega)]
    simp only [Option.bind_some, List.nil_append, List.length_nil, Nat.zero_add]
    rw [if_pos (by omega)]
  intro d
  induction d with
  | zero =>
    intro j hj hall
    obtain rfl : j = o.length := by omega
    have hio : inO x.length o = true := by
      unfold inO
      rw [List.all_eq_true]
      intro s hs
      obtain ⟨i, hi, rfl⟩ := List.mem_iff_getElem.1 hs
      exact decide_eq_true (hall i hi hi)
    have ho2 : ∀ s ∈ o, 0 ≤ s ∧ s ≤ (x.length : Int) - 1 := by
      unfold inO at hio
      simpa using hio
    have e1 : (o.map Int.toNat).map (fun (s : Nat) => (s : Int)) = o := by
      rw [List.map_map]
      conv => rhs; rw [← List.map_id o]
      apply List.map_congr_left
      intro s hs
      have := ho2 s hs
      show ((s.toNat : Nat) : Int) = s
      omega
    have h1 := ev_l1 (x := x) hy hx (o := o.map Int.toNat) (by simpa using ho) (fun s hs => by
      obtain ⟨t, ht, rfl⟩ := List.mem_map.1 hs
      have := ho2 t ht
      omega)
    rw [e1] at h1
    unfold endsR
    rw [if_pos ⟨hi, ho, hio⟩]
    refine Ev.step (fun k => ?_) h1
    rw [spec_Ends.l0, if_neg (by omega)]
  | succ d ih =>
    intro j hj hall
    have hlt : j < o.length := by omega
    have hrd : rd o (j : Int) = o[j] := by simp [rd, hlt]
    have hx10 : (x.length : Int) ≤ 10 := by have := hy.n; omega
    have hw : wrap64 ((x.length : Int) - 1) = (x.length : Int) - 1 := w64 (by omega) (by omega)
    by_cases hb : 0 ≤ o[j] ∧ o[j] ≤ (x.length : Int) - 1
    · refine Ev.step (fun k => ?_) (ih (j + 1) (by omega) (fun i hij hil => by
        by_cases e : i = j
        · subst e; exact hb
        · exact hall i (by omega) hil))
      rw [spec_Ends.l0, if_pos (Int.ofNat_lt.2 hlt), if_pos (Int.natCast_nonneg j), hrd, hw, in_f, decide_eq_true hb, w64_succ hlt (by omega)]
      simp only [Option.bind_some, if_true]
    · have hne : ¬ inO x.length o = true := by
        unfold inO
        rw [List.all_eq_true]
        intro h
        exact hb (of_decide_eq_true (h _ (List.getElem_mem hlt)))
      unfold endsR
      rw [if_neg (fun h => hne h.2.2)]
      refine Ev.step (f := fun _ => some []) (fun k => ?_) (Ev.now _)
      rw [spec_Ends.l0, if_pos (Int.ofNat_lt.2 hlt), if_pos (Int.natCast_nonneg j), hrd, hw, in_f, decide_eq_false hb]
      simp
end Go.Proofs.Ytmkhiaikfeoedaa.EndsK
