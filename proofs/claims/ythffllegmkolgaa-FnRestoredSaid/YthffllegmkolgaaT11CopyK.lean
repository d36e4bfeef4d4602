/- copy(x[j+1:], x[j:]) over a row of the call's own, its elements of whatever number of cells: room for one more at place j. -/
import Derived.Test.YthffllegmkolgaaT11WKept
import Derived.Laws.IdiomCopy
import Derived.Lib.SliceRun
namespace Go.Proofs.Ythffllegmkolgaa.SortKit
open Go.RowKit Go.Proofs.YthffllegmkolgaaW.PrintWords
set_option linter.unusedVariables false
theorem run_copy_cellsK {P : Program} (w : World) (dT sT ty elem : TypeId) (b o dLen dCap : Nat) (a : Addr) (sLen sCap sz n : Nat) (cs : List Value)
    (hu : P.underlying dT = some (.slice elem)) (hs : (P.info? elem).map (·.size) = some sz) (hn : n = Nat.min sLen dLen) (hl : cs.length = n * sz)
    (hsrc : ∀ j v, cs[j]? = some v → w.cell? (a.add j) = some v) (hc : ∀ j, j < cs.length → (w.cell? ⟨b, o + j, none⟩).isSome = true) (hf : ∀ j, j < cs.length → w.frozen? ⟨b, o + j, none⟩ = false) (h1 : ∀ v ∈ cs, v.oneCell' = true) :
    (Builtin.copy_ #[dT, sT] ty #[.slice (some ⟨b, o, none⟩) dLen dCap, .slice (some a) sLen sCap]).run P w = .ok (goInt n) (w.setCells b o cs) := by
  have hload := run_firstCells_some (P := P) w sz n a sLen sCap cs hl hsrc
  have hst := run_storeCells_cells (P := P) b o cs 0 w (by simpa using hc) (by simpa using hf) h1
  cases hq : P.info? elem with
  | none => simp [hq] at hs
  | some i =>
    have hi : i.size = sz := by simpa [hq] using hs
    simp [Builtin.copy_, run_underlying hu, Builtin.lenOf, sizeOf, typeInfo, hq, hi, ← hn, hload, hst]
theorem run_copy_noneK {P : Program} (w : World) (dT sT ty elem : TypeId) (d a : Option Addr) (dLen dCap sLen sCap sz : Nat) (hu : P.underlying dT = some (.slice elem)) (hs : (P.info? elem).map (·.size) = some sz) (hn : Nat.min sLen dLen = 0) :
    (Builtin.copy_ #[dT, sT] ty #[.slice d dLen dCap, .slice a sLen sCap]).run P w = .ok (goInt 0) w := by
  cases hq : P.info? elem with
  | none => simp [hq] at hs
  | some i =>
    have hl : ∀ (x : Addr), (loadCells x 0).run P w = .ok #[] w := fun x => by simpa using run_loadCells_list (P := P) w x [] (by simp)
    cases d <;> cases a <;> simp [Builtin.copy_, run_underlying hu, Builtin.lenOf, Builtin.firstCells, sizeOf, typeInfo, hq, hn, storeCells, hl]
section
variable {α : Type} {d : Kd α} {e : Nat} {w : World} {base : Nat} {ok : Nat → Prop} {g n cap : Nat} {xs : List α} {P : Program}
def shifted (xs : List α) (j : Nat) : List α := xs.take (j + 1) ++ (xs.drop j).take (xs.length - (j + 1))
theorem shifted_length (xs : List α) (j : Nat) (hj : j < xs.length) : (shifted xs j).length = xs.length := by
  unfold shifted; rw [List.length_append, List.length_take, List.length_take, List.length_drop]; omega
theorem R_shift (hflat : ∀ {w w' base base'} {ok ok' : Nat → Prop} {x cs}, d.M w base ok x cs → d.M w' base' ok' x cs) (h : d.R e w base ok (.slice (some ⟨g, 0, none⟩) n cap) xs) {j : Nat} (hj : j < n) (hs : 0 < d.sz)
    (t ty : TypeId) (ht : P.underlying t = some (.slice e)) (hi : (P.info? e).map (·.size) = some d.sz) :
    ∃ k w1, (Builtin.copy_ #[t, t] ty #[.slice (if cap = j + 1 then some ⟨g, 0, none⟩ else (some (⟨g, 0, none⟩ : Addr)).map (·.add ((j + 1) * d.sz))) (n - (j + 1)) (cap - (j + 1)), .slice (if cap = j then some ⟨g, 0, none⟩ else (some (⟨g, 0, none⟩ : Addr)).map (·.add (j * d.sz))) (n - j) (cap - j)]).run P w = .ok k w1 ∧
      d.R e w1 base ok (.slice (some ⟨g, 0, none⟩) n cap) (shifted xs j) ∧ w.grownBy w1 (some g) := by
  have hn : n = xs.length := (Kd.R_reads' h).1
  subst hn
  have hcap := (Kd.R_reads' h).2.1
  have hm : Nat.min (xs.length - j) (xs.length - (j + 1)) = xs.length - (j + 1) := Nat.min_eq_right (by omega)
  by_cases h0 : xs.length - (j + 1) = 0
  · refine ⟨_, w, run_copy_noneK w t t ty e _ _ _ _ _ _ d.sz ht hi (by rw [hm, h0]), ?_, World.grownBy.refl w _⟩
    have : shifted xs j = xs := by
      unfold shifted
      rw [h0, List.take_zero, List.append_nil, List.take_of_length_le (by omega)]
    rw [this]; exact h
  · obtain ⟨hok, inner, ⟨hlen, hrow⟩, hrep⟩ := h
    rcases hrow with ⟨hv, _⟩ | ⟨g', cap', cur, hv, hb, hcell, hnc, hcm, hcs, htake⟩
    · cases hv
    · injection hv with hv1 hv2 hv3
      injection hv1 with hv1
      injection hv1 with hg' _
      subst hg' hv3
      have hc1 : ¬ cap = j + 1 := by omega
      have hc2 : ¬ cap = j := by omega
      rw [if_neg hc1, if_neg hc2]
      simp only [Option.map_some, add_plain]
      have hle : xs.length * d.sz ≤ cur.size := by rw [hcs]; exact Nat.mul_le_mul_right _ hnc
      have hvl : ((inner.drop (j * d.sz)).take ((xs.length - (j + 1)) * d.sz)).length = (xs.length - (j + 1)) * d.sz := by
        rw [List.length_take, List.length_drop, hlen, ← Nat.sub_mul]
        exact Nat.min_eq_left (Nat.mul_le_mul_right _ (by omega))
      have hsum : (j + 1) * d.sz + (xs.length - (j + 1)) * d.sz = xs.length * d.sz := by rw [← Nat.add_mul]; congr 1; omega
      have hone : ∀ u ∈ inner, u.oneCell' = true := by
        intro u hu
        obtain ⟨i, hi', rfl⟩ := List.getElem_of_mem hu
        have hq : i / d.sz < xs.length := by rw [Nat.div_lt_iff_lt_mul hs]; omega
        have := hrep.2 (i / d.sz) xs[i / d.sz] (List.getElem?_eq_getElem hq)
        refine d.K_one (d.K_of_M this) _ ?_
        have ht' : i / d.sz * d.sz + i % d.sz = i := by rw [Nat.mul_comm]; exact Nat.div_add_mod _ _
        have hr : i % d.sz < d.sz := Nat.mod_lt _ hs
        rw [List.mem_iff_getElem?]
        refine ⟨i % d.sz, ?_⟩
        rw [List.getElem?_take, if_pos hr, List.getElem?_drop, ht', List.getElem?_eq_getElem hi']
      have hcc : ∀ i u, inner[i]? = some u → w.cell? ⟨g, i, none⟩ = some u := by
        intro i u hu
        have hi' : i < xs.length * d.sz := by rw [← hlen]; exact (List.getElem?_eq_some_iff.1 hu).1
        rw [blk_cell hcell i, ← Array.getElem?_toList]
        rw [← htake, List.getElem?_take, if_pos hi'] at hu
        exact hu
      have hrun := run_copy_cellsK (P := P) w t t ty e g ((j + 1) * d.sz) (xs.length - (j + 1)) (cap - (j + 1)) ⟨g, j * d.sz, none⟩ (xs.length - j) (cap - j) d.sz (xs.length - (j + 1)) ((inner.drop (j * d.sz)).take ((xs.length - (j + 1)) * d.sz)) ht hi hm.symm hvl
        (fun i u hu => by
          rw [List.getElem?_take] at hu
          split at hu
          · rw [List.getElem?_drop] at hu
            rw [add_at]; exact hcc _ _ hu
          · cases hu)
        (fun i hi' => by
          rw [blk_cell hcell, Array.getElem?_eq_getElem (by rw [hvl] at hi'; omega)]; rfl)
        (fun i hi' => blk_frozen hcell _) (fun u hu => hone u (List.mem_of_mem_drop (List.mem_of_mem_take hu)))
      obtain ⟨cur', hcell', hsz', hl'⟩ := setCells_row ((inner.drop (j * d.sz)).take ((xs.length - (j + 1)) * d.sz)) ((j + 1) * d.sz) w cur hcell (by rw [hvl, hsum]; exact hle)
      obtain ⟨s1, s2, s3, s4⟩ := setCells_same g ((inner.drop (j * d.sz)).take ((xs.length - (j + 1)) * d.sz)) ((j + 1) * d.sz) w
      refine ⟨_, _, hrun, ?_, ⟨s1, s2, s3, by rw [s4]; exact Nat.le_refl _, fun i hi' hne => setCells_far _ _ i (fun h => hne (by rw [h]))⟩⟩
      have hshl := shifted_length xs j hj
      have hin : cur'.toList.take (xs.length * d.sz) = inner.take ((j + 1) * d.sz) ++ (inner.drop (j * d.sz)).take ((xs.length - (j + 1)) * d.sz) := by
        have h3 : cur.toList.take ((j + 1) * d.sz) = inner.take ((j + 1) * d.sz) := by
          rw [← htake, List.take_take, Nat.min_eq_left (by omega)]
        rw [hl', h3]
        rw [List.take_left' (by rw [List.length_append, hvl, List.length_take, hlen, Nat.min_eq_left (by omega), hsum])]
      refine ⟨hok, inner.take ((j + 1) * d.sz) ++ (inner.drop (j * d.sz)).take ((xs.length - (j + 1)) * d.sz), ⟨?_, .inr ⟨g, cap, cur', by rw [hshl], hb, hcell', by rw [hshl]; exact hnc, hcm, by rw [hsz', hcs], by rw [hshl]; exact hin⟩⟩, ?_⟩
      · have hcl : cur'.toList.length = cur.size := Array.length_toList.trans hsz'
        rw [hshl, ← hin, List.length_take, hcl]
        exact Nat.min_eq_left hle
      · have hrep2 : Reps (d.M (w.setCells g ((j + 1) * d.sz) ((inner.drop (j * d.sz)).take ((xs.length - (j + 1)) * d.sz))) base (fun k => ok k ∧ some k ≠ (Value.slice (some ⟨g, 0, none⟩) xs.length cap).ownBlock)) d.sz xs inner := hrep.imp_ (fun p c hp => hflat hp)
        exact Kd.reps_append (Kd.reps_take hrep2 (by omega)) (Kd.reps_take (Kd.reps_drop hrep2) (by rw [List.length_drop]; omega))
theorem wpList_shift {ops : Array Oper} {rest : List Oper} {o : Oper} {a : Act} {Q : Exit → Act → World → Prop} (hgd : o.guard = none) (s x : Operand) (t : TypeId) (ho : o.op = .call { callee := .builtin .copy, args := #[s, x], argTypes := #[t, t] })
    (hflat : ∀ {w w' base base'} {ok ok' : Nat → Prop} {x cs}, d.M w base ok x cs → d.M w' base' ok' x cs) (h : d.R e w base ok (.slice (some ⟨g, 0, none⟩) n cap) xs) {j : Nat} (hj : j < n) (hs : 0 < d.sz) (ht : P.underlying t = some (.slice e)) (hi : (P.info? e).map (·.size) = some d.sz)
    {dv sv : Value} (hdv : dv = .slice (if cap = j + 1 then some ⟨g, 0, none⟩ else (some (⟨g, 0, none⟩ : Addr)).map (·.add ((j + 1) * d.sz))) (n - (j + 1)) (cap - (j + 1))) (hsv : sv = .slice (if cap = j then some ⟨g, 0, none⟩ else (some (⟨g, 0, none⟩ : Addr)).map (·.add (j * d.sz))) (n - j) (cap - j))
    (hd : a.eval s = dv) (hx : a.eval x = sv) (hK : ∀ k w1, d.R e w1 base ok (.slice (some ⟨g, 0, none⟩) n cap) (shifted xs j) → w.grownBy w1 (some g) → wpList P ops Q rest (a.put o.dst k) w1) : wpList P ops Q (o :: rest) a w := by
  obtain ⟨k, w1, hr, h1, h2⟩ := R_shift (P := P) hflat h hj hs t o.type ht hi
  rw [← hdv, ← hsv] at hr
  refine wpList_plain hgd fun K hK' => ?_
  unfold Oper.wp execOp
  simp only [ho, resolve, invoke, builtin, Sem.run_bind, Sem.run_pure, Result.andThen_ok, List.map_toArray, List.map_cons, List.map_nil, hd, hx, hr]
  exact hK' _ _ (hK k w1 h1 h2)
end
end Go.Proofs.Ythffllegmkolgaa.SortKit
