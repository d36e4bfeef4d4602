/- A row of the call's own that the library has sorted: what is told of it behind the sort. -/
import Derived.Test.YthffllegmkolgaaT10WKept
import Derived.Shelf.SlSortCmp.WholeK
namespace Go.Proofs.Ythffllegmkolgaa.SortKit
open Go.RowKit Go.Sort Go.Proofs.YthffllegmkolgaaW.PrintWords
set_option linter.unusedVariables false
section
variable {α : Type} [Inhabited α] {d : Kd α} {e : Nat} {w : World} {base : Nat} {ok : Nat → Prop} {g n cap : Nat} {xs : List α} {enc : α → List Value}
theorem arr_get (xs : List α) (i : Nat) (h : i < xs.length) : xs.toArray[i]! = xs[i] := by
  rw [getElem!_pos xs.toArray i (by simpa using h)]; simp
theorem holdsK_of_R (hk : ∀ x, (enc x).length = d.sz) (hM : ∀ w base ok x cs, d.M w base ok x cs → cs = enc x) (h : d.R e w base ok (.slice (some ⟨g, 0, none⟩) n cap) xs) (hs : 0 < d.sz) : HoldsK enc d.sz w g 0 xs.toArray := by
  intro j hj
  rw [size_flatK, List.size_toArray] at hj
  have hn := (Kd.R_reads' h).1
  have hq : j / d.sz < xs.length := by rw [Nat.div_lt_iff_lt_mul hs]; omega
  obtain ⟨c, hc, hm, h1, h2⟩ := Kd.R_elem h default ((j / d.sz : Nat) : Int) (Int.natCast_nonneg _) (Int.ofNat_lt.2 (hn ▸ hq))
  have hcx := hM _ _ _ _ _ hm
  rw [Int.toNat_natCast] at h1 h2 hcx
  have ht : j / d.sz * d.sz + j % d.sz = j := by rw [Nat.mul_comm]; exact Nat.div_add_mod _ _
  have hr : j % d.sz < d.sz := Nat.mod_lt _ hs
  have hg : xs.getD (j / d.sz) default = xs[j / d.sz] := by rw [List.getD_eq_getElem?_getD, List.getElem?_eq_getElem hq]; rfl
  rw [hg] at hcx
  subst hcx
  have h3 := h1 (j % d.sz) (enc xs[j / d.sz])[j % d.sz] (List.getElem?_eq_getElem (by omega))
  have h4 := h2 (j % d.sz)
  rw [ht] at h3 h4
  refine ⟨?_, by rw [Nat.zero_add]; exact h4⟩
  rw [Nat.zero_add, h3, get_flatK _ _ _ _ (by rw [List.size_toArray]; exact hj), arr_get _ _ hq, getElem!_pos _ _ (by omega)]
  rfl
theorem grow_heap_lt (w : World) (os : Array Obj) {k : Nat} (h : k < w.heap.size) : (grow w os).heap[k]? = w.heap[k]? := by
  unfold grow
  simp only
  rw [Array.getElem?_append_left h]
theorem putRow_far (w : World) (g : Nat) (F : Array Value) {k : Nat} (h : k ≠ g) : (putRow id w g 0 F).heap[k]? = w.heap[k]? := by
  unfold putRow mapBlock
  simp only [Array.getElem?_modify]
  rw [if_neg (fun h2 => h h2.symm)]
theorem putRow_at (w : World) (g : Nat) (F : Array Value) {cur : Array Value} {t : Nat} {fr : Nat × Nat} (h : w.heap[g]? = some (.cells cur t fr)) : (putRow id w g 0 F).heap[g]? = some (.cells (putCells id 0 F cur) t fr) := by
  unfold putRow mapBlock
  simp only [Array.getElem?_modify, if_true, h]
  rfl
theorem putRow_size (w : World) (g : Nat) (F : Array Value) : (putRow id w g 0 F).heap.size = w.heap.size := by
  unfold putRow mapBlock
  simp
theorem putCells_take (F cur : Array Value) (h : F.size ≤ cur.size) : (putCells id 0 F cur).toList.take F.size = F.toList := by
  apply List.ext_getElem?
  intro i
  rw [List.getElem?_take]
  by_cases hi : i < F.size
  · rw [if_pos hi]
    unfold putCells
    rw [Array.getElem?_toList, Array.getElem?_mapIdx, Array.getElem?_eq_getElem (by omega), Array.getElem?_toList, Array.getElem?_eq_getElem hi]
    simp only [Option.map_some, Nat.zero_le, Nat.zero_add, hi, and_self, if_true, Nat.sub_zero, id]
    rw [getElem!_pos F i hi]
  · rw [if_neg hi, List.getElem?_eq_none (by simpa using hi)]
theorem reps_flatK (k : Nat) (hs : 0 < k) {R : α → List Value → Prop} (hk : ∀ x, (enc x).length = k) (hR : ∀ x, R x (enc x)) (xs : List α) : Reps R k xs (flatK enc k xs.toArray).toList := by
  refine ⟨by simp, fun j p hj => ?_⟩
  obtain ⟨hj', rfl⟩ := List.getElem?_eq_some_iff.1 hj
  have he : ((flatK enc k xs.toArray).toList.drop (j * k)).take k = enc xs[j] := by
    apply List.ext_getElem?
    intro i
    rw [List.getElem?_take]
    by_cases hi : i < k
    · have hlt : j * k + i < xs.length * k := by
        have := Nat.mul_le_mul_right k (show j + 1 ≤ xs.length by omega)
        rw [Nat.add_mul] at this; omega
      rw [if_pos hi, List.getElem?_drop, Array.getElem?_toList, Array.getElem?_eq_getElem (by simpa using hlt)]
      have := get_flatK enc k xs.toArray (j * k + i) (by simpa using hlt)
      rw [getElem!_pos _ _ (by simpa using hlt)] at this
      rw [this]
      have h1 : (j * k + i) / k = j := by rw [Nat.mul_comm, Nat.mul_add_div hs, Nat.div_eq_of_lt hi, Nat.add_zero]
      have h2 : (j * k + i) % k = i := by rw [Nat.mul_comm, Nat.mul_add_mod, Nat.mod_eq_of_lt hi]
      rw [h1, h2, arr_get _ _ hj', getElem!_pos _ _ (by rw [hk]; exact hi), List.getElem?_eq_getElem (by rw [hk]; exact hi)]
    · rw [if_neg hi, List.getElem?_eq_none (by rw [hk]; omega)]
  rw [he]
  exact hR _
theorem R_sorted (hk : ∀ x, (enc x).length = d.sz) (hM : ∀ w base ok x, d.M w base ok x (enc x)) (hs : 0 < d.sz) (h : d.R e w base ok (.slice (some ⟨g, 0, none⟩) n cap) xs) {xs' : List α} (hl : xs'.length = xs.length) (q : Nat) (os : Array Obj) :
    d.R e (sortWorldK enc d.sz w g 0 q xs'.toArray os) base ok (.slice (some ⟨g, 0, none⟩) n cap) xs' ∧ Kept w (sortWorldK enc d.sz w g 0 q xs'.toArray os) (fun k => k = g) ∧ w.grownBy (sortWorldK enc d.sz w g 0 q xs'.toArray os) (some g) := by
  have hkp : Kept w (sortWorldK enc d.sz w g 0 q xs'.toArray os) (fun k => k = g) := by
    refine ⟨?_, fun i hi hn => ?_⟩
    · show w.heap.size ≤ (grow (putRow id (Sort.ahead w q) g 0 _) os).heap.size
      unfold grow
      simp only [Array.size_append]
      rw [putRow_size]
      exact Nat.le_add_right _ _
    · show (grow (putRow id (Sort.ahead w q) g 0 _) os).heap[i]? = _
      rw [grow_heap_lt _ _ (by rw [putRow_size]; exact hi), putRow_far _ _ _ hn]
      rfl
  refine ⟨?_, hkp, ⟨rfl, rfl, rfl, hkp.1, fun i hi hn => hkp.2 i hi (fun h => hn (by rw [h]))⟩⟩
  obtain ⟨hok, inner, ⟨hlen, hrow⟩, hrep⟩ := h
  rcases hrow with ⟨h0, _⟩ | ⟨g', cap', cur, hv, hb, hcell, hnc, hcm, hcs, htake⟩
  · cases h0
  · injection hv with hv1 hv2 hv3
    injection hv1 with hv1
    injection hv1 with hg' _
    subst hg' hv3
    have hgl : g < w.heap.size := blk_lt hcell
    have hF : (flatK enc d.sz xs'.toArray).size = xs.length * d.sz := by rw [size_flatK, List.size_toArray, hl]
    refine ⟨hok, (flatK enc d.sz xs'.toArray).toList, ⟨by rw [Array.length_toList, hF, hl], .inr ⟨g, cap, putCells id 0 (flatK enc d.sz xs'.toArray) cur, by rw [hl, hv2], hb, ?_, by omega, hcm, ?_, ?_⟩⟩, reps_flatK _ hs hk (fun x => hM _ _ _ _) _⟩
    · show (grow (putRow id (Sort.ahead w q) g 0 _) os).heap[g]? = _
      rw [grow_heap_lt _ _ (by rw [putRow_size]; exact hgl)]
      exact putRow_at _ _ _ hcell
    · unfold putCells; rw [Array.size_mapIdx]; exact hcs
    · rw [hl, ← hF]
      exact putCells_take _ _ (by rw [hF, hcs]; exact Nat.mul_le_mul_right _ hnc)
end
end Go.Proofs.Ythffllegmkolgaa.SortKit
