/- Joined: SortKit, CelSort. -/
import Derived.Test.YthffllegmkolgaaT11WKept
import Derived.Shelf.SlSortCmp.WholeK
import Derived.Test.YthffllegmkolgaaProg
import Derived.Test.YthffllegmkolgaaT11TreeSort
import Derived.Test.YthffllegmkolgaaT11TreeCalls
import Derived.Shelf.SlSortCmp.NoneTotal
namespace Go.Proofs.Ythffllegmkolgaa.SortKit
open Go.RowKit Go.Sort Go.Proofs.YthffllegmkolgaaW.PrintWords
set_option linter.unusedVariables false
section
variable {α : Type} [Inhabited α] {d : Kd α} {e : Nat} {w : World} {base : Nat} {ok : Nat → Prop} {g n cap : Nat} {xs : List α} {enc : α → List Value}
theorem arr_get (xs : List α) (i : Nat) (h : i < xs.length) : xs.toArray[i]! = xs[i] := by
  rw [getElem!_pos xs.toArray i (by simpa using h)]; simp
theorem holdsK_of_R (hk : ∀ x, (enc x).length = d.sz) (hM : ∀ w base ok x cs, d.M w base ok x cs → cs = enc x) (h : d.R e w base ok (.slice (some ⟨g, 0, none⟩) n cap) xs) (hs : 0 < d.sz) : HoldsK enc d.sz w g 0 xs.toArray := by
  intro j hj
  rw [size_flatK, List.size_toArray] at hj
  have hn := (Kd.R_reads' h).1
  have hq : j / d.sz < xs.length := by rw [Nat.div_lt_iff_lt_mul hs]; omega
  obtain ⟨c, hc, hm, h1, h2⟩ := Kd.R_elem h default ((j / d.sz : Nat) : Int) (Int.natCast_nonneg _) (Int.ofNat_lt.2 (hn ▸ hq))
  have hcx := hM _ _ _ _ _ hm
  rw [Int.toNat_natCast] at h1 h2 hcx
  have ht : j / d.sz * d.sz + j % d.sz = j := by rw [Nat.mul_comm]; exact Nat.div_add_mod _ _
  have hr : j % d.sz < d.sz := Nat.mod_lt _ hs
  have hg : xs.getD (j / d.sz) default = xs[j / d.sz] := by rw [List.getD_eq_getElem?_getD, List.getElem?_eq_getElem hq]; rfl
  rw [hg] at hcx
  subst hcx
  have h3 := h1 (j % d.sz) (enc xs[j / d.sz])[j % d.sz] (List.getElem?_eq_getElem (by omega))
  have h4 := h2 (j % d.sz)
  rw [ht] at h3 h4
  refine ⟨?_, by rw [Nat.zero_add]; exact h4⟩
  rw [Nat.zero_add, h3, get_flatK _ _ _ _ (by rw [List.size_toArray]; exact hj), arr_get _ _ hq, getElem!_pos _ _ (by omega)]
  rfl
theorem grow_heap_lt (w : World) (os : Array Obj) {k : Nat} (h : k < w.heap.size) : (grow w os).heap[k]? = w.heap[k]? := by
  unfold grow
  simp only
  rw [Array.getElem?_append_left h]
theorem putRow_far (w : World) (g : Nat) (F : Array Value) {k : Nat} (h : k ≠ g) : (putRow id w g 0 F).heap[k]? = w.heap[k]? := by
  unfold putRow mapBlock
  simp only [Array.getElem?_modify]
  rw [if_neg (fun h2 => h h2.symm)]
theorem putRow_at (w : World) (g : Nat) (F : Array Value) {cur : Array Value} {t : Nat} {fr : Nat × Nat} (h : w.heap[g]? = some (.cells cur t fr)) : (putRow id w g 0 F).heap[g]? = some (.cells (putCells id 0 F cur) t fr) := by
  unfold putRow mapBlock
  simp only [Array.getElem?_modify, if_true, h]
  rfl
theorem putRow_size (w : World) (g : Nat) (F : Array Value) : (putRow id w g 0 F).heap.size = w.heap.size := by
  unfold putRow mapBlock
  simp
theorem putCells_take (F cur : Array Value) (h : F.size ≤ cur.size) : (putCells id 0 F cur).toList.take F.size = F.toList := by
  apply List.ext_getElem?
  intro i
  rw [List.getElem?_take]
  by_cases hi : i < F.size
  · rw [if_pos hi]
    unfold putCells
    rw [Array.getElem?_toList, Array.getElem?_mapIdx, Array.getElem?_eq_getElem (by omega), Array.getElem?_toList, Array.getElem?_eq_getElem hi]
    simp only [Option.map_some, Nat.zero_le, Nat.zero_add, hi, and_self, if_true, Nat.sub_zero, id]
    rw [getElem!_pos F i hi]
  · rw [if_neg hi, List.getElem?_eq_none (by simpa using hi)]
theorem reps_flatK (k : Nat) (hs : 0 < k) {R : α → List Value → Prop} (hk : ∀ x, (enc x).length = k) (hR : ∀ x, R x (enc x)) (xs : List α) : Reps R k xs (flatK enc k xs.toArray).toList := by
  refine ⟨by simp, fun j p hj => ?_⟩
  obtain ⟨hj', rfl⟩ := List.getElem?_eq_some_iff.1 hj
  have he : ((flatK enc k xs.toArray).toList.drop (j * k)).take k = enc xs[j] := by
    apply List.ext_getElem?
    intro i
    rw [List.getElem?_take]
    by_cases hi : i < k
    · have hlt : j * k + i < xs.length * k := by
        have := Nat.mul_le_mul_right k (show j + 1 ≤ xs.length by omega)
        rw [Nat.add_mul] at this; omega
      rw [if_pos hi, List.getElem?_drop, Array.getElem?_toList, Array.getElem?_eq_getElem (by simpa using hlt)]
      have := get_flatK enc k xs.toArray (j * k + i) (by simpa using hlt)
      rw [getElem!_pos _ _ (by simpa using hlt)] at this
      rw [this]
      have h1 : (j * k + i) / k = j := by rw [Nat.mul_comm, Nat.mul_add_div hs, Nat.div_eq_of_lt hi, Nat.add_zero]
      have h2 : (j * k + i) % k = i := by rw [Nat.mul_comm, Nat.mul_add_mod, Nat.mod_eq_of_lt hi]
      rw [h1, h2, arr_get _ _ hj', getElem!_pos _ _ (by rw [hk]; exact hi), List.getElem?_eq_getElem (by rw [hk]; exact hi)]
    · rw [if_neg hi, List.getElem?_eq_none (by rw [hk]; omega)]
  rw [he]
  exact hR _
theorem R_sorted (hk : ∀ x, (enc x).length = d.sz) (hM : ∀ w base ok x, d.M w base ok x (enc x)) (hs : 0 < d.sz) (h : d.R e w base ok (.slice (some ⟨g, 0, none⟩) n cap) xs) {xs' : List α} (hl : xs'.length = xs.length) (q : Nat) (os : Array Obj) :
    d.R e (sortWorldK enc d.sz w g 0 q xs'.toArray os) base ok (.slice (some ⟨g, 0, none⟩) n cap) xs' ∧ Kept w (sortWorldK enc d.sz w g 0 q xs'.toArray os) (fun k => k = g) ∧ w.grownBy (sortWorldK enc d.sz w g 0 q xs'.toArray os) (some g) := by
  have hkp : Kept w (sortWorldK enc d.sz w g 0 q xs'.toArray os) (fun k => k = g) := by
    refine ⟨?_, fun i hi hn => ?_⟩
    · show w.heap.size ≤ (grow (putRow id (Sort.ahead w q) g 0 _) os).heap.size
      unfold grow
      simp only [Array.size_append]
      rw [putRow_size]
      exact Nat.le_add_right _ _
    · show (grow (putRow id (Sort.ahead w q) g 0 _) os).heap[i]? = _
      rw [grow_heap_lt _ _ (by rw [putRow_size]; exact hi), putRow_far _ _ _ hn]
      rfl
  refine ⟨?_, hkp, ⟨rfl, rfl, rfl, hkp.1, fun i hi hn => hkp.2 i hi (fun h => hn (by rw [h]))⟩⟩
  obtain ⟨hok, inner, ⟨hlen, hrow⟩, hrep⟩ := h
  rcases hrow with ⟨h0, _⟩ | ⟨g', cap', cur, hv, hb, hcell, hnc, hcm, hcs, htake⟩
  · cases h0
  · injection hv with hv1 hv2 hv3
    injection hv1 with hv1
    injection hv1 with hg' _
    subst hg' hv3
    have hgl : g < w.heap.size := blk_lt hcell
    have hF : (flatK enc d.sz xs'.toArray).size = xs.length * d.sz := by rw [size_flatK, List.size_toArray, hl]
    refine ⟨hok, (flatK enc d.sz xs'.toArray).toList, ⟨by rw [Array.length_toList, hF, hl], .inr ⟨g, cap, putCells id 0 (flatK enc d.sz xs'.toArray) cur, by rw [hl, hv2], hb, ?_, by omega, hcm, ?_, ?_⟩⟩, reps_flatK _ hs hk (fun x => hM _ _ _ _) _⟩
    · show (grow (putRow id (Sort.ahead w q) g 0 _) os).heap[g]? = _
      rw [grow_heap_lt _ _ (by rw [putRow_size]; exact hgl)]
      exact putRow_at _ _ _ hcell
    · unfold putCells; rw [Array.size_mapIdx]; exact hcs
    · rw [hl, ← hF]
      exact putCells_take _ _ (by rw [hF, hcs]; exact Nat.mul_le_mul_right _ hnc)
end
end Go.Proofs.Ythffllegmkolgaa.SortKit

namespace Go.Proofs.Ythffllegmkolgaa.Lay
open Go.Shelf Go.Proofs
def laySort_ren : Go.Shelf.Ren := ⟨fun | 6 => 73 | 15 => 103 | 14 => 102 | 28 => 118 | 29 => 119 | 20 => 110 | 21 => 111 | 22 => 112 | 23 => 113 | 24 => 114 | 25 => 115 | 26 => 116 | 27 => 117 | 46 => 138 | 47 => 139 | 48 => 140 | 49 => 141 | 50 => 142 | 57 => 148 | n => n, fun | 22 => 28 | 24 => 48 | 25 => 78 | 3 => 3 | 39 => 120 | 0 => 0 | 53 => 142 | 55 => 144 | 4 => 4 | 46 => 135 | 45 => 134 | 50 => 139 | 5 => 5 | 9 => 9 | 66 => 155 | 70 => 159 | 76 => 164 | 77 => 71 | n => n, fun | n => n⟩
theorem laySort : Go.Proofs.SlLaysF0.n6 Try.prog laySort_ren := {
  mixed := by kernel_rfl
  f6 := ⟨Try.f73.name, by decide, Try.func73.trans (congrArg some (by kernel_rfl))⟩
  f14 := ⟨Try.f102.name, by decide, Try.func102.trans (congrArg some (by kernel_rfl))⟩
  f15 := Try.func103.trans (congrArg some (by kernel_rfl))
  f20 := ⟨Try.f110.name, by decide, Try.func110.trans (congrArg some (by kernel_rfl))⟩
  f21 := ⟨Try.f111.name, by decide, Try.func111.trans (congrArg some (by kernel_rfl))⟩
  f22 := ⟨Try.f112.name, by decide, Try.func112.trans (congrArg some (by kernel_rfl))⟩
  f23 := ⟨Try.f113.name, by decide, Try.func113.trans (congrArg some (by kernel_rfl))⟩
  f24 := ⟨Try.f114.name, by decide, Try.func114.trans (congrArg some (by kernel_rfl))⟩
  f25 := ⟨Try.f115.name, by decide, Try.func115.trans (congrArg some (by kernel_rfl))⟩
  f26 := ⟨Try.f116.name, by decide, Try.func116.trans (congrArg some (by kernel_rfl))⟩
  f27 := ⟨Try.f117.name, by decide, Try.func117.trans (congrArg some (by kernel_rfl))⟩
  f28 := Try.func118.trans (congrArg some (by kernel_rfl))
  f29 := Try.func119.trans (congrArg some (by kernel_rfl))
  f46 := ⟨Try.f138.name, by decide, Try.func138.trans (congrArg some (by kernel_rfl))⟩
  f47 := Try.func139.trans (congrArg some (by kernel_rfl))
  f48 := Try.func140.trans (congrArg some (by kernel_rfl))
  f49 := ⟨Try.f141.name, by decide, Try.func141.trans (congrArg some (by kernel_rfl))⟩
  f50 := ⟨Try.f142.name, by decide, Try.func142.trans (congrArg some (by kernel_rfl))⟩
  f57 := ⟨Try.f148.name, by decide, Try.func148.trans (congrArg some (by kernel_rfl))⟩
  t0 := Try.underlying0
  a0 := Try.isAgg0
  z0 := Try.sizeOf0
  v0 := Try.zeroValue0
  t3 := Try.underlying3
  a3 := Try.isAgg3
  z3 := Try.sizeOf3
  v3 := Try.zeroValue3
  t4 := Try.underlying4
  a4 := Try.isAgg4
  z4 := Try.sizeOf4
  v4 := Try.zeroValue4
  t5 := Try.underlying5
  a5 := Try.isAgg5
  z5 := Try.sizeOf5
  v5 := Try.zeroValue5
  t9 := Try.underlying9
  a9 := Try.isAgg9
  z9 := Try.sizeOf9
  v9 := Try.zeroValue9
  t22 := Try.underlying28
  a22 := Try.isAgg28
  z22 := Try.sizeOf28
  v22 := Try.zeroValue28
  t25 := Try.underlying78
  a25 := Try.isAgg78
  z25 := Try.sizeOf78
  v25 := Try.zeroValue78
  t39 := Try.underlying120
  a39 := Try.isAgg120
  z39 := Try.sizeOf120
  v39 := Try.zeroValue120
  t45 := Try.underlying134
  a45 := Try.isAgg134
  z45 := Try.sizeOf134
  v45 := Try.zeroValue134
  t46 := Try.underlying135
  a46 := Try.isAgg135
  z46 := Try.sizeOf135
  v46 := Try.zeroValue135
  t50 := Try.underlying139
  a50 := Try.isAgg139
  z50 := Try.sizeOf139
  v50 := Try.zeroValue139
  t53 := Try.underlying142
  a53 := Try.isAgg142
  z53 := Try.sizeOf142
  v53 := Try.zeroValue142
  t55 := Try.underlying144
  a55 := Try.isAgg144
  z55 := Try.sizeOf144
  v55 := Try.zeroValue144
  t66 := Try.underlying155
  a66 := Try.isAgg155
  z66 := Try.sizeOf155
  v66 := Try.zeroValue155
  t70 := Try.underlying159
  a70 := Try.isAgg159
  z70 := Try.sizeOf159
  v70 := Try.zeroValue159
  t76 := Try.underlying164
  a76 := Try.isAgg164
  z76 := Try.sizeOf164
  v76 := Try.zeroValue164
  t77 := Try.underlying71
  a77 := Try.isAgg71
  z77 := Try.sizeOf71
  v77 := Try.zeroValue71 }
end Go.Proofs.Ythffllegmkolgaa.Lay

namespace Go.Proofs.Ythffllegmkolgaa.TreeK
open Go.RowKit Go.Proofs.YthffllegmkolgaaW.PrintWords Go.Proofs.YthffllegmkolgaaW.PrintLast Go.Proofs.YthffllegmkolgaaW.PrintMore Go.Proofs.Ythffllegmkolgaa.QTree Go.Sort
set_option linter.unusedSimpArgs false
set_option linter.unusedVariables false
theorem R_iso {α β : Type} {d : Kd α} {f : β → α} {e : Nat} {w : World} {base : Nat} {ok : Nat → Prop} {v : Value} {ys : List β} : (Kd.iso d f).R e w base ok v ys ↔ d.R e w base ok v (ys.map f) := by
  constructor
  · rintro ⟨hok, inner, hown, hl, hr⟩
    refine ⟨hok, inner, by rw [List.length_map]; exact hown, by rw [List.length_map]; exact hl, fun j p hj => ?_⟩
    rw [List.getElem?_map] at hj
    obtain ⟨q, hq, rfl⟩ := Option.map_eq_some_iff.1 hj
    exact hr j q hq
  · rintro ⟨hok, inner, hown, hl, hr⟩
    rw [List.length_map] at hown hl
    exact ⟨hok, inner, hown, hl, fun j p hj => hr j (f p) (by rw [List.getElem?_map, hj]; rfl)⟩
abbrev CelR := {c : Cel // 1 ≤ c.f2 ∧ c.f2 ≤ 400}
instance : Inhabited CelR := ⟨⟨⟨⟨#[]⟩, ⟨#[]⟩, 1, false⟩, by decide⟩⟩
def encC (c : Cel) : List Value := [.string c.f0, .string c.f1, .int .i64 c.f2, .bool c.f3]
set_option maxHeartbeats 1600000 in
theorem order_exact (a b : Cel) (w : World) (ha : 1 ≤ a.f2 ∧ a.f2 ≤ 400) (hb : 1 ≤ b.f2 ∧ b.f2 ≤ 400) :
    Calls Try.prog 60 #[.agg (encC a).toArray, .agg (encC b).toArray] w fun e w' => e = .returned (.int .i64 (ordI a b)) ∧ ∃ q os, w' = grow (w.drewN q) os := by
  obtain ⟨a0, a1, a2, a3⟩ := a
  obtain ⟨b0, b1, b2, b3⟩ := b
  obtain ⟨r, hr⟩ : ∃ r, ordI ⟨a0, a1, a2, a3⟩ ⟨b0, b1, b2, b3⟩ = r := ⟨_, rfl⟩
  rw [hr]
  have HO : Aside0 (r = if Lib.compareBytes a0.data.toList b0.data.toList = 0 then b2 - a2 else Lib.compareBytes a0.data.toList b0.data.toList) := ⟨hr.symm⟩
  clear hr
  simp only [encC]
  simp only [] at ha hb
  obtain ⟨k, hk⟩ : ∃ k : Int, Lib.compareBytes a0.data.toList b0.data.toList = k := ⟨_, rfl⟩
  rw [hk] at HO
  have wr1 : wrap64 (b2 - a2) = b2 - a2 := by unfold wrap64; omega
  go_enter Try.func60, Try.ntmps60
  by_cases h0 : k = 0
  · have HF : Aside0 (r = b2 - a2) := ⟨HO.out.trans (if_pos h0)⟩
    clear HO
    subst h0
    go_wp2_with (go_at_call 98; refine (stringsCompare _ _ _).mono ?_; rintro e w' ⟨rfl, rfl⟩; rw [hk])
    go_ret
    exact ⟨by rw [HF.out]; rfl, 0, _, by rw [alloc_eq_grow, alloc_eq_grow, grow_grow]; rfl⟩
  · have HF : Aside0 (r = k) := ⟨HO.out.trans (if_neg h0)⟩
    clear HO
    go_wp2_with (go_at_call 98; refine (stringsCompare _ _ _).mono ?_; rintro e w' ⟨rfl, rfl⟩; rw [hk])
    go_ret
    exact ⟨by rw [HF.out]; rfl, 0, _, by rw [alloc_eq_grow, alloc_eq_grow, grow_grow]; rfl⟩
theorem ordR_swo : SWO (ltOf fun x y : CelR => ordI x.1 y.1) where
  irrefl x := (ltOf_ord x.1 x.1).trans (ahead_swo.irrefl _)
  trans x y z h1 h2 := (ltOf_ord x.1 z.1).trans (ahead_swo.trans x.1 y.1 z.1 ((ltOf_ord x.1 y.1).symm.trans h1) ((ltOf_ord y.1 z.1).symm.trans h2))
  ntrans x y z h1 h2 := (ltOf_ord x.1 z.1).trans (ahead_swo.ntrans x.1 y.1 z.1 ((ltOf_ord x.1 y.1).symm.trans h1) ((ltOf_ord y.1 z.1).symm.trans h2))
theorem sort_cells (P0_ : Nat → Prop) (u : Value) (l0 : List Cel) (w0 w : World) (hB : Below w0.heap.size w0 w) (ho0 : Kd.R k48 48 w w0.heap.size P0_ u l0) (hin : ∀ c ∈ l0, 1 ≤ c.f2 ∧ c.f2 ≤ 400) (hn : noTie l0 = true) (hl : l0.length < 4611686018427387904) :
    Calls Try.prog 73 #[u, .func (.func 60) #[] #[]] w fun e w' => e = .returned (.tuple #[]) ∧ Kd.R k48 48 w' w0.heap.size P0_ u (srt l0) ∧ Below w0.heap.size w0 w' ∧ Kept w w' (fun k_ => P0_ k_) := by
  rcases Nat.eq_zero_or_pos l0.length with h0 | hp
  · obtain rfl := List.eq_nil_of_length_eq_zero h0
    obtain ⟨A, c, rfl⟩ := Kd.R_slice ho0
    refine (AnyF.slices_SortFunc_none Lay.laySort A c _ w).mono ?_
    rintro e w' ⟨rfl, rfl⟩
    exact ⟨rfl, ho0, hB, Kept.refl _ _⟩
  · obtain ⟨g, cap, rfl, hg, hgl, cells, hcell⟩ := Kd.R_form ho0 hp
    have hPg : P0_ g := ho0.1 g rfl
    obtain ⟨ys, rfl⟩ : ∃ ys : List CelR, l0 = ys.map (·.1) := ⟨l0.attach.map (fun c => ⟨c.1, hin c.1 c.2⟩), by rw [List.map_map]; exact (List.attach_map_subtype_val l0).symm⟩
    have hR := R_iso.2 ho0
    have hH := SortKit.holdsK_of_R (d := Kd.iso k48 (fun c : CelR => c.1)) (enc := fun c : CelR => encC c.1) (fun _ => rfl) (fun w base ok x cs h => k48_openM h) hR (by decide)
    have eg : ∀ args w, (callFunc 60 args).run Try.prog w = .ok (.enter 60 args) w := enters_of Try.func60 (by kernel_rfl) rfl
    have hcon := AnyQ.slices_SortFunc Lay.laySort 4 Try.isAgg48 Try.sizeOf48 (fun c : CelR => encC c.1) (fun _ => rfl) (fun x v hv => by simp [encC] at hv; rcases hv with rfl | rfl | rfl | rfl <;> rfl) (fun x y : CelR => ordI x.1 y.1) ordR_swo 60 #[] g 0 cap ys.toArray w eg
      (fun m os dk _ x y => order_exact x.1 y.1 _ x.2 y.2) hH hgl (by simpa using hl)
    have hs : ys.toArray.size = (ys.map (·.1)).length := by simp
    rw [hs] at hcon
    refine (show Calls Try.prog 73 _ _ _ from hcon).mono ?_
    rintro e w' ⟨rfl, d', n, os, ⟨hsz, _, hperm⟩, hsort, rfl⟩
    have hlen : d'.toList.length = ys.length := by rw [Array.length_toList, hsz]; simp
    have hR2 := SortKit.R_sorted (d := Kd.iso k48 (fun c : CelR => c.1)) (enc := fun c : CelR => encC c.1) (fun _ => rfl) (fun w base ok x => k48_mkM w base ok x.1) (by decide) hR (xs' := d'.toList) hlen n os
    rw [Array.toArray_toList] at hR2
    have hperm2 : d'.toList.Perm ys := by
      have h1 : d'.extract 0 (ys.map (·.1)).length = d' := by rw [List.length_map, ← hlen, Array.length_toList, Array.extract_size]
      have h2 : ys.toArray.extract 0 (ys.map (·.1)).length = ys.toArray := by rw [← hs, Array.extract_size]
      rw [h1, h2] at hperm
      simpa using hperm
    have hout : d'.toList.map (·.1) = srt (ys.map (·.1)) := by
      refine srt_of_weak hn ?_ (hperm2.map _)
      rw [List.pairwise_map, List.pairwise_iff_getElem]
      intro i j hi hj hij
      have := hsort i j (Nat.zero_le _) hij (by rw [List.length_map, ← hlen]; exact hj)
      rw [getElem!_pos d' i (by simpa using hi), getElem!_pos d' j (by simpa using hj)] at this
      have h3 := (ltOf_ord _ _).symm.trans this
      simpa using h3
    have hRR := R_iso.1 hR2.1
    rw [hout] at hRR
    exact ⟨rfl, hRR, pw_below_grown hB (some g) (by exact hB.size) hR2.2.2 (fun k hk => by injection hk with hk; exact hk ▸ hg), hR2.2.1.mono (fun k hk => hk ▸ hPg)⟩
end Go.Proofs.Ythffllegmkolgaa.TreeK
