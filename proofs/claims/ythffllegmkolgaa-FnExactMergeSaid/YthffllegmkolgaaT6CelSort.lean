/- slices.SortFunc over cells by cellOrder, called: the row holds its cells sorted. -/
import Derived.Test.YthffllegmkolgaaT6TreeSort
import Derived.Test.YthffllegmkolgaaT6TreeCalls
import Derived.Test.YthffllegmkolgaaT6SortKit
import Derived.Test.YthffllegmkolgaaT6LaySort
import Derived.Shelf.SlSortCmp.NoneTotal
namespace Go.Proofs.Ythffllegmkolgaa.TreeK
open Go.RowKit Go.Proofs.YthffllegmkolgaaW.PrintWords Go.Proofs.YthffllegmkolgaaW.PrintLast Go.Proofs.YthffllegmkolgaaW.PrintMore Go.Proofs.Ythffllegmkolgaa.QTree Go.Sort
set_option linter.unusedSimpArgs false
set_option linter.unusedVariables false
theorem R_iso {α β : Type} {d : Kd α} {f : β → α} {e : Nat} {w : World} {base : Nat} {ok : Nat → Prop} {v : Value} {ys : List β} : (Kd.iso d f).R e w base ok v ys ↔ d.R e w base ok v (ys.map f) := by
  constructor
  · rintro ⟨hok, inner, hown, hl, hr⟩
    refine ⟨hok, inner, by rw [List.length_map]; exact hown, by rw [List.length_map]; exact hl, fun j p hj => ?_⟩
    rw [List.getElem?_map] at hj
    obtain ⟨q, hq, rfl⟩ := Option.map_eq_some_iff.1 hj
    exact hr j q hq
  · rintro ⟨hok, inner, hown, hl, hr⟩
    rw [List.length_map] at hown hl
    exact ⟨hok, inner, hown, hl, fun j p hj => hr j (f p) (by rw [List.getElem?_map, hj]; rfl)⟩
abbrev CelR := {c : Cel // 1 ≤ c.f2 ∧ c.f2 ≤ 400}
instance : Inhabited CelR := ⟨⟨⟨⟨#[]⟩, ⟨#[]⟩, 1, false⟩, by decide⟩⟩
def encC (c : Cel) : List Value := [.string c.f0, .string c.f1, .int .i64 c.f2, .bool c.f3]
set_option maxHeartbeats 1600000 in
theorem order_exact (a b : Cel) (w : World) (ha : 1 ≤ a.f2 ∧ a.f2 ≤ 400) (hb : 1 ≤ b.f2 ∧ b.f2 ≤ 400) :
    Calls Try.prog 60 #[.agg (encC a).toArray, .agg (encC b).toArray] w fun e w' => e = .returned (.int .i64 (ordI a b)) ∧ ∃ q os, w' = grow (w.drewN q) os := by
  obtain ⟨a0, a1, a2, a3⟩ := a
  obtain ⟨b0, b1, b2, b3⟩ := b
  obtain ⟨r, hr⟩ : ∃ r, ordI ⟨a0, a1, a2, a3⟩ ⟨b0, b1, b2, b3⟩ = r := ⟨_, rfl⟩
  rw [hr]
  have HO : Aside0 (r = if Lib.compareBytes a0.data.toList b0.data.toList = 0 then b2 - a2 else Lib.compareBytes a0.data.toList b0.data.toList) := ⟨hr.symm⟩
  clear hr
  simp only [encC]
  simp only [] at ha hb
  obtain ⟨k, hk⟩ : ∃ k : Int, Lib.compareBytes a0.data.toList b0.data.toList = k := ⟨_, rfl⟩
  rw [hk] at HO
  have wr1 : wrap64 (b2 - a2) = b2 - a2 := by unfold wrap64; omega
  go_enter Try.func60, Try.ntmps60
  by_cases h0 : k = 0
  · have HF : Aside0 (r = b2 - a2) := ⟨HO.out.trans (if_pos h0)⟩
    clear HO
    subst h0
    go_wp2_with (go_at_call 98; refine (stringsCompare _ _ _).mono ?_; rintro e w' ⟨rfl, rfl⟩; rw [hk])
    go_ret
    exact ⟨by rw [HF.out]; rfl, 0, _, by rw [alloc_eq_grow, alloc_eq_grow, grow_grow]; rfl⟩
  · have HF : Aside0 (r = k) := ⟨HO.out.trans (if_neg h0)⟩
    clear HO
    go_wp2_with (go_at_call 98; refine (stringsCompare _ _ _).mono ?_; rintro e w' ⟨rfl, rfl⟩; rw [hk])
    go_ret
    exact ⟨by rw [HF.out]; rfl, 0, _, by rw [alloc_eq_grow, alloc_eq_grow, grow_grow]; rfl⟩
theorem ordR_swo : SWO (ltOf fun x y : CelR => ordI x.1 y.1) where
  irrefl x := (ltOf_ord x.1 x.1).trans (ahead_swo.irrefl _)
  trans x y z h1 h2 := (ltOf_ord x.1 z.1).trans (ahead_swo.trans x.1 y.1 z.1 ((ltOf_ord x.1 y.1).symm.trans h1) ((ltOf_ord y.1 z.1).symm.trans h2))
  ntrans x y z h1 h2 := (ltOf_ord x.1 z.1).trans (ahead_swo.ntrans x.1 y.1 z.1 ((ltOf_ord x.1 y.1).symm.trans h1) ((ltOf_ord y.1 z.1).symm.trans h2))
theorem sort_cells (P0_ : Nat → Prop) (u : Value) (l0 : List Cel) (w0 w : World) (hB : Below w0.heap.size w0 w) (ho0 : Kd.R k48 48 w w0.heap.size P0_ u l0) (hin : ∀ c ∈ l0, 1 ≤ c.f2 ∧ c.f2 ≤ 400) (hn : noTie l0 = true) (hl : l0.length < 4611686018427387904) :
    Calls Try.prog 73 #[u, .func (.func 60) #[] #[]] w fun e w' => e = .returned (.tuple #[]) ∧ Kd.R k48 48 w' w0.heap.size P0_ u (srt l0) ∧ Below w0.heap.size w0 w' ∧ Kept w w' (fun k_ => P0_ k_) := by
  rcases Nat.eq_zero_or_pos l0.length with h0 | hp
  · obtain rfl := List.eq_nil_of_length_eq_zero h0
    obtain ⟨A, c, rfl⟩ := Kd.R_slice ho0
    refine (AnyF.slices_SortFunc_none Lay.laySort A c _ w).mono ?_
    rintro e w' ⟨rfl, rfl⟩
    exact ⟨rfl, ho0, hB, Kept.refl _ _⟩
  · obtain ⟨g, cap, rfl, hg, hgl, cells, hcell⟩ := Kd.R_form ho0 hp
    have hPg : P0_ g := ho0.1 g rfl
    obtain ⟨ys, rfl⟩ : ∃ ys : List CelR, l0 = ys.map (·.1) := ⟨l0.attach.map (fun c => ⟨c.1, hin c.1 c.2⟩), by rw [List.map_map]; exact (List.attach_map_subtype_val l0).symm⟩
    have hR := R_iso.2 ho0
    have hH := SortKit.holdsK_of_R (d := Kd.iso k48 (fun c : CelR => c.1)) (enc := fun c : CelR => encC c.1) (fun _ => rfl) (fun w base ok x cs h => k48_openM h) hR (by decide)
    have eg : ∀ args w, (callFunc 60 args).run Try.prog w = .ok (.enter 60 args) w := enters_of Try.func60 (by kernel_rfl) rfl
    have hcon := AnyQ.slices_SortFunc Lay.laySort 4 Try.isAgg48 Try.sizeOf48 (fun c : CelR => encC c.1) (fun _ => rfl) (fun x v hv => by simp [encC] at hv; rcases hv with rfl | rfl | rfl | rfl <;> rfl) (fun x y : CelR => ordI x.1 y.1) ordR_swo 60 #[] g 0 cap ys.toArray w eg
      (fun m os dk _ x y => order_exact x.1 y.1 _ x.2 y.2) hH hgl (by simpa using hl)
    have hs : ys.toArray.size = (ys.map (·.1)).length := by simp
    rw [hs] at hcon
    refine (show Calls Try.prog 73 _ _ _ from hcon).mono ?_
    rintro e w' ⟨rfl, d', n, os, ⟨hsz, _, hperm⟩, hsort, rfl⟩
    have hlen : d'.toList.length = ys.length := by rw [Array.length_toList, hsz]; simp
    have hR2 := SortKit.R_sorted (d := Kd.iso k48 (fun c : CelR => c.1)) (enc := fun c : CelR => encC c.1) (fun _ => rfl) (fun w base ok x => k48_mkM w base ok x.1) (by decide) hR (xs' := d'.toList) hlen n os
    rw [Array.toArray_toList] at hR2
    have hperm2 : d'.toList.Perm ys := by
      have h1 : d'.extract 0 (ys.map (·.1)).length = d' := by rw [List.length_map, ← hlen, Array.length_toList, Array.extract_size]
      have h2 : ys.toArray.extract 0 (ys.map (·.1)).length = ys.toArray := by rw [← hs, Array.extract_size]
      rw [h1, h2] at hperm
      simpa using hperm
    have hout : d'.toList.map (·.1) = srt (ys.map (·.1)) := by
      refine srt_of_weak hn ?_ (hperm2.map _)
      rw [List.pairwise_map, List.pairwise_iff_getElem]
      intro i j hi hj hij
      have := hsort i j (Nat.zero_le _) hij (by rw [List.length_map, ← hlen]; exact hj)
      rw [getElem!_pos d' i (by simpa using hi), getElem!_pos d' j (by simpa using hj)] at this
      have h3 := (ltOf_ord _ _).symm.trans this
      simpa using h3
    have hRR := R_iso.1 hR2.1
    rw [hout] at hRR
    exact ⟨rfl, hRR, pw_below_grown hB (some g) (by exact hB.size) hR2.2.2 (fun k hk => by injection hk with hk; exact hk ▸ hg), hR2.2.1.mono (fun k hk => hk ▸ hPg)⟩
end Go.Proofs.Ythffllegmkolgaa.TreeK
