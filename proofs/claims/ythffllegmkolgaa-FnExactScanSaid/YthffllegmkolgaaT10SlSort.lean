/- Joined: LaySlice, SlSort. -/
import Derived.Test.YthffllegmkolgaaProg
import Derived.Shelf.SlSortFuncK.WholeK
import Derived.Test.YthffllegmkolgaaT10ParMark
import Derived.Test.YthffllegmkolgaaT10SortKit
import Derived.Shelf.GgSortFunc.Tiny
namespace Go.Proofs.Ythffllegmkolgaa.Lay
open Go.Shelf Go.Proofs
def laySlice_ren : Go.Shelf.Ren := ⟨fun | 6 => 92 | 10 => 105 | 11 => 106 | 12 => 107 | 13 => 103 | 14 => 108 | 24 => 118 | 25 => 119 | 26 => 129 | 27 => 130 | 28 => 131 | 29 => 132 | 30 => 133 | 31 => 134 | 32 => 135 | 33 => 136 | 34 => 143 | 35 => 144 | 36 => 145 | 37 => 146 | 38 => 147 | 39 => 149 | n => n, fun | 20 => 20 | 26 => 107 | 35 => 125 | 0 => 0 | 37 => 127 | 3 => 3 | 41 => 120 | 44 => 132 | 49 => 142 | 51 => 144 | 4 => 4 | 54 => 150 | 53 => 149 | 58 => 139 | 5 => 5 | 9 => 9 | 60 => 161 | 64 => 159 | 66 => 166 | 67 => 71 | 17 => 17 | 32 => 122 | 33 => 123 | 82 => 181 | 12 => 12 | 75 => 174 | 76 => 175 | 77 => 176 | 78 => 177 | 79 => 178 | 80 => 179 | n => n, fun | n => n⟩
theorem laySlice : Go.Proofs.LaysGg.n6 Try.prog laySlice_ren := {
  mixed := by kernel_rfl
  f6 := Try.func92.trans (congrArg some (by kernel_rfl))
  f10 := Try.func105.trans (congrArg some (by kernel_rfl))
  f11 := Try.func106.trans (congrArg some (by kernel_rfl))
  f12 := Try.func107.trans (congrArg some (by kernel_rfl))
  f13 := Try.func103.trans (congrArg some (by kernel_rfl))
  f14 := Try.func108.trans (congrArg some (by kernel_rfl))
  f24 := Try.func118.trans (congrArg some (by kernel_rfl))
  f25 := Try.func119.trans (congrArg some (by kernel_rfl))
  f26 := Try.func129.trans (congrArg some (by kernel_rfl))
  f27 := Try.func130.trans (congrArg some (by kernel_rfl))
  f28 := Try.func131.trans (congrArg some (by kernel_rfl))
  f29 := Try.func132.trans (congrArg some (by kernel_rfl))
  f30 := Try.func133.trans (congrArg some (by kernel_rfl))
  f31 := Try.func134.trans (congrArg some (by kernel_rfl))
  f32 := Try.func135.trans (congrArg some (by kernel_rfl))
  f33 := Try.func136.trans (congrArg some (by kernel_rfl))
  f34 := Try.func143.trans (congrArg some (by kernel_rfl))
  f35 := Try.func144.trans (congrArg some (by kernel_rfl))
  f36 := Try.func145.trans (congrArg some (by kernel_rfl))
  f37 := Try.func146.trans (congrArg some (by kernel_rfl))
  f38 := Try.func147.trans (congrArg some (by kernel_rfl))
  f39 := Try.func149.trans (congrArg some (by kernel_rfl))
  t0 := Try.underlying0
  a0 := Try.isAgg0
  z0 := Try.sizeOf0
  v0 := Try.zeroValue0
  i0 := by kernel_rfl
  t3 := Try.underlying3
  a3 := Try.isAgg3
  z3 := Try.sizeOf3
  v3 := Try.zeroValue3
  i3 := by kernel_rfl
  t4 := Try.underlying4
  a4 := Try.isAgg4
  z4 := Try.sizeOf4
  v4 := Try.zeroValue4
  i4 := by kernel_rfl
  t5 := Try.underlying5
  a5 := Try.isAgg5
  z5 := Try.sizeOf5
  v5 := Try.zeroValue5
  i5 := by kernel_rfl
  t9 := Try.underlying9
  a9 := Try.isAgg9
  z9 := Try.sizeOf9
  v9 := Try.zeroValue9
  i9 := by kernel_rfl
  t12 := Try.underlying12
  a12 := Try.isAgg12
  z12 := Try.sizeOf12
  v12 := Try.zeroValue12
  i12 := by kernel_rfl
  t17 := Try.underlying17
  a17 := Try.isAgg17
  z17 := Try.sizeOf17
  v17 := Try.zeroValue17
  i17 := by kernel_rfl
  t20 := Try.underlying20
  a20 := Try.isAgg20
  z20 := Try.sizeOf20
  v20 := Try.zeroValue20
  i20 := by kernel_rfl
  t26 := Try.underlying107
  a26 := Try.isAgg107
  z26 := Try.sizeOf107
  v26 := Try.zeroValue107
  i26 := by kernel_rfl
  t32 := Try.underlying122
  a32 := Try.isAgg122
  z32 := Try.sizeOf122
  v32 := Try.zeroValue122
  i32 := by kernel_rfl
  t33 := Try.underlying123
  a33 := Try.isAgg123
  z33 := Try.sizeOf123
  v33 := Try.zeroValue123
  i33 := by kernel_rfl
  t35 := Try.underlying125
  a35 := Try.isAgg125
  z35 := Try.sizeOf125
  v35 := Try.zeroValue125
  i35 := by kernel_rfl
  t37 := Try.underlying127
  a37 := Try.isAgg127
  z37 := Try.sizeOf127
  v37 := Try.zeroValue127
  i37 := by kernel_rfl
  t41 := Try.underlying120
  a41 := Try.isAgg120
  z41 := Try.sizeOf120
  v41 := Try.zeroValue120
  i41 := by kernel_rfl
  t44 := Try.underlying132
  a44 := Try.isAgg132
  z44 := Try.sizeOf132
  v44 := Try.zeroValue132
  i44 := by kernel_rfl
  t49 := Try.underlying142
  a49 := Try.isAgg142
  z49 := Try.sizeOf142
  v49 := Try.zeroValue142
  i49 := by kernel_rfl
  t51 := Try.underlying144
  a51 := Try.isAgg144
  z51 := Try.sizeOf144
  v51 := Try.zeroValue144
  i51 := by kernel_rfl
  t53 := Try.underlying149
  a53 := Try.isAgg149
  z53 := Try.sizeOf149
  v53 := Try.zeroValue149
  i53 := by kernel_rfl
  t54 := Try.underlying150
  a54 := Try.isAgg150
  z54 := Try.sizeOf150
  v54 := Try.zeroValue150
  i54 := by kernel_rfl
  t58 := Try.underlying139
  a58 := Try.isAgg139
  z58 := Try.sizeOf139
  v58 := Try.zeroValue139
  i58 := by kernel_rfl
  t60 := Try.underlying161
  a60 := Try.isAgg161
  z60 := Try.sizeOf161
  v60 := Try.zeroValue161
  i60 := by kernel_rfl
  t64 := Try.underlying159
  a64 := Try.isAgg159
  z64 := Try.sizeOf159
  v64 := Try.zeroValue159
  i64 := by kernel_rfl
  t66 := Try.underlying166
  a66 := Try.isAgg166
  z66 := Try.sizeOf166
  v66 := Try.zeroValue166
  i66 := by kernel_rfl
  t67 := Try.underlying71
  a67 := Try.isAgg71
  z67 := Try.sizeOf71
  v67 := Try.zeroValue71
  i67 := by kernel_rfl
  t75 := Try.underlying174
  a75 := Try.isAgg174
  z75 := Try.sizeOf174
  v75 := Try.zeroValue174
  i75 := by kernel_rfl
  t76 := Try.underlying175
  a76 := Try.isAgg175
  z76 := Try.sizeOf175
  v76 := Try.zeroValue175
  i76 := by kernel_rfl
  t77 := Try.underlying176
  a77 := Try.isAgg176
  z77 := Try.sizeOf176
  v77 := Try.zeroValue176
  i77 := by kernel_rfl
  t78 := Try.underlying177
  a78 := Try.isAgg177
  z78 := Try.sizeOf177
  v78 := Try.zeroValue177
  i78 := by kernel_rfl
  t79 := Try.underlying178
  a79 := Try.isAgg178
  z79 := Try.sizeOf178
  v79 := Try.zeroValue178
  i79 := by kernel_rfl
  t80 := Try.underlying179
  a80 := Try.isAgg179
  z80 := Try.sizeOf179
  v80 := Try.zeroValue179
  i80 := by kernel_rfl
  t82 := Try.underlying181
  a82 := Try.isAgg181
  z82 := Try.sizeOf181
  v82 := Try.zeroValue181
  i82 := by kernel_rfl }
end Go.Proofs.Ythffllegmkolgaa.Lay

namespace Go.Proofs.Ythffllegmkolgaa.TreeK
open Go.RowKit Go.Proofs.YthffllegmkolgaaW.PrintWords Go.Proofs.YthffllegmkolgaaW.PrintLast Go.Proofs.YthffllegmkolgaaW.PrintMore Go.Proofs.Ythffllegmkolgaa.QTree Go.Sort
set_option linter.unusedSimpArgs false
set_option linter.unusedVariables false
def encP (p : Par) : List Value := [.string p.f0, .string p.f1]
instance : Inhabited Par := ⟨⟨⟨#[]⟩, ⟨#[]⟩⟩⟩
theorem ltP_swo : SWO ltP where
  irrefl x := bl_irrefl _
  trans _ _ _ h1 h2 := bl_trans h1 h2
  ntrans x y z h1 h2 := by
    unfold ltP at *
    rw [Bool.eq_false_iff] at *
    intro h3
    rcases bl_tri x.f0.toList y.f0.toList with h | h | h
    · exact h1 h
    · exact h2 (h ▸ h3)
    · exact h2 (bl_trans h h3)
set_option maxHeartbeats 800000 in
theorem less_pairs (g off c Bs size : Nat) (W : World) (G : Nat → ByteArray) (hs : W.cell? ⟨Bs, 0, none⟩ = some (.slice (some ⟨g, off, none⟩) size c))
    (hc : ∀ t, t < size → W.cell? ⟨g, off + t * 2, none⟩ = some (.string (G t))) (i j : Nat) (hi : i < size) (hj : j < size) (_hsz : size < 4611686018427387904) :
    Calls Try.prog 93 #[.int .i64 i, .int .i64 j, .pointer (some ⟨Bs, 0, none⟩)] W fun e w' => e = .returned (.bool (Op.bytesLess (G i).toList (G j).toList)) ∧ ∃ q, w' = W.drewN q := by
  have ci := hc i hi
  have cj := hc j hj
  go_enter Try.func93, Try.ntmps93
  go_wp2
  go_quiet (fail)
  go_wp2
  go_ret
  exact ⟨rfl, nq, rfl⟩
noncomputable def slT : TypeInfo := (Try.prog.info? 63).get (by kernel_rfl)
noncomputable def slE : TypeInfo := (Try.prog.info? 105).get (by kernel_rfl)
theorem slK (n : Nat) (h2 : 2 ≤ n) : Lib.swapperK n slE 25 = 9 := by
  have a : slE.hasPointers = true := by kernel_rfl
  have b : slE.bytes = 32 := by kernel_rfl
  have c : (n == 0) = false := by simp; omega
  have d : (n == 1) = false := by simp; omega
  simp [Lib.swapperK, a, b, c, d]
theorem slK0 (n : Nat) (h1 : n ≤ 1) : Lib.swapperK n slE 25 = n + 1 := by
  rcases Nat.eq_zero_or_pos n with h | h
  · subst h; simp [Lib.swapperK]
  · obtain rfl : n = 1 := by omega
    simp [Lib.swapperK]
theorem grow_grown (w : World) (os : Array Obj) : w.grownBy (grow w os) none := ⟨rfl, rfl, rfl, by unfold grow; simp, fun i hi _ => SortKit.grow_heap_lt w os hi⟩
set_option maxHeartbeats 1600000 in
theorem sort_pairs (P0_ : Nat → Prop) (u : Value) (l0 : List Par) (Bs : Nat) (w0 w : World) (hB : Below w0.heap.size w0 w) (ho0 : KP.R TP w w0.heap.size P0_ u l0) (hBs : w.heap[Bs]? = some (.cells #[u] 63 (0, 0))) (hl : l0.length < 4611686018427387904) :
    Calls Try.prog 92 #[.iface 63 u, .func (.func 93) #[] #[.pointer (some ⟨Bs, 0, none⟩)]] w fun e w' => e = .returned (.tuple #[]) ∧ ∃ l', (l'.Perm l0 ∧ l'.Pairwise (fun a b => ltP b a = false)) ∧ KP.R TP w' w0.heap.size P0_ u l' ∧ Below w0.heap.size w0 w' ∧ Kept w w' (fun k_ => P0_ k_) := by
  obtain ⟨A, c, rfl⟩ := Kd.R_slice ho0
  by_cases h2 : 2 ≤ l0.length
  case neg =>
    have h1 : l0.length ≤ 1 := by omega
    have hf : Try.prog.funcs.findIdx? (·.name == "internal/reflectlite" ++ ".Swapper$" ++ toString (Lib.swapperK l0.length slE 25)) = some (120 + l0.length) := by
      rw [slK0 _ h1]
      rcases Nat.eq_zero_or_pos l0.length with h | h
      · rw [h]; kernel_rfl
      · rw [show l0.length = 1 by omega]; kernel_rfl
    have hcon := Any.sort_Slice_tiny Lay.laySlice 63 105 slT slE (by kernel_rfl) (by kernel_rfl) (by kernel_rfl) (by kernel_rfl) 25 (fun _ => by kernel_rfl) A l0.length c h1 _ hf (.func 93) #[] #[.pointer (some ⟨Bs, 0, none⟩)] w
    refine (show Calls Try.prog 92 _ _ _ from hcon).mono ?_
    rintro e w' ⟨rfl, os, rfl⟩
    have hb : Below w.heap.size w (grow w os) := (Below.refl _ _).grown (grow_grown w os) (Nat.le_refl _) (fun k hk => by cases hk)
    refine ⟨rfl, l0, ⟨List.Perm.refl _, ?_⟩, Kd.R_below ho0 hb, bel hB hb, (Kept.refl _ _).below hb⟩
    match l0, h1 with
    | [], _ => exact List.Pairwise.nil
    | [a], _ => exact List.pairwise_singleton _ _
    | a :: b :: t, h => simp at h
  case pos =>
    obtain ⟨g, cap, ee, hg, hgl, cells, hcell⟩ := Kd.R_form ho0 (by omega)
    injection ee with e1 e2 e3
    subst e1 e3
    have hPg : P0_ g := ho0.1 g rfl
    have hBg : Bs ≠ g := fun h => Kd.R_ne ho0 hBs (by decide) (by rw [h]; rfl)
    have hH := SortKit.holdsK_of_R (d := KP) (enc := encP) (fun _ => rfl) (fun w base ok x cs h => k105_openM h) ho0 (by decide)
    have eg : ∀ args w, (callFunc 93 args).run Try.prog w = .ok (.enter 93 args) w := enters_of Try.func93 (by kernel_rfl) rfl
    have hless : LessReadsK Try.prog 93 #[.pointer (some ⟨Bs, 0, none⟩)] encP 2 ltP g 0 l0.toArray.size w := by
      intro m os dk hs i j hi hj
      have e : sortWorldK encP 2 w g 0 m dk os = putRowK encP 2 (grow (Sort.ahead w m) os) g 0 dk := by
        unfold sortWorldK; rw [putRowK_grow _ _ (Sort.ahead w m) _ g 0 _ hgl]
      have hHg : HoldsK encP 2 (grow (Sort.ahead w m) os) g 0 l0.toArray := holdsK_grow _ _ _ _ g 0 l0.toArray hgl (holdsK_ahead _ _ _ _ _ _ _ hH)
      have hsz : l0.toArray.size = l0.length := by simp
      rw [hsz] at hs hi hj
      refine less_pairs g 0 c Bs l0.length _ (fun t => dk[t]!.f0) ?_ (fun t ht => ?_) i j hi hj hl
      · rw [e, cell?_putRowK_other _ _ _ g 0 dk _ (by exact hBg), cell?_grow _ _ _ (by exact blk_lt hBs)]; exact (blk_cell hBs 0).trans rfl
      · rw [e]; exact ((holdsK_putRowK _ _ _ g 0 l0.toArray dk hHg (by rw [hsz]; exact hs)).cell (i := t) (c := 0) (by omega) (by omega)).1
    have hf : Try.prog.funcs.findIdx? (·.name == "internal/reflectlite" ++ ".Swapper$" ++ toString (Lib.swapperK l0.toArray.size slE 25)) = some 128 := by
      rw [slK _ (by simpa using h2)]; kernel_rfl
    have hcon := Any.sort_Slice_cells_sorted Lay.laySlice 63 105 slT slE (by kernel_rfl) (by kernel_rfl) (by kernel_rfl) (by kernel_rfl) 25 (fun _ => by kernel_rfl) encP 2 (fun _ => rfl) (by kernel_rfl) (fun _ => by kernel_rfl)
      (fun x v hv => by simp [encP] at hv; rcases hv with rfl | rfl <;> rfl) ltP ltP_swo 93 _ eg g 0 c l0.toArray (by simpa using h2) (by simpa using hl) 128 hf false
      (fun args W => run_callFunc_extern Try.func128 (by kernel_rfl) (by kernel_rfl) (by kernel_rfl) (e := Extern.ReflectliteSwapper.swap false) (by kernel_rfl) args W) w hless hH hgl
    have hs : l0.toArray.size = l0.length := by simp
    rw [hs] at hcon
    refine (show Calls Try.prog 92 _ _ _ from hcon).mono ?_
    rintro e w' ⟨rfl, d', n, os, ⟨hsz, _, hperm⟩, hsort, rfl⟩
    have hlen : d'.toList.length = l0.length := by rw [Array.length_toList, hsz]; simp
    have hR2 := SortKit.R_sorted (d := KP) (enc := encP) (fun _ => rfl) (fun w base ok x => k105_mkM w base ok x) (by decide) ho0 (xs' := d'.toList) hlen n os
    rw [Array.toArray_toList] at hR2
    have hperm2 : d'.toList.Perm l0 := by
      have h1 : d'.extract 0 l0.length = d' := by rw [← hlen, Array.length_toList, Array.extract_size]
      have h2 : l0.toArray.extract 0 l0.length = l0.toArray := by rw [← hs, Array.extract_size]
      rw [h1, h2] at hperm
      simpa using hperm
    have hpw : d'.toList.Pairwise (fun a b => ltP b a = false) := by
      rw [List.pairwise_iff_getElem]
      intro i j hi hj hij
      have := hsort i j (Nat.zero_le _) hij (by rw [← hlen]; exact hj)
      rw [getElem!_pos d' i (by simpa using hi), getElem!_pos d' j (by simpa using hj)] at this
      simpa using this
    exact ⟨rfl, _, ⟨hperm2, hpw⟩, hR2.1, pw_below_grown hB (some g) (by exact hB.size) hR2.2.2 (fun k hk => by injection hk with hk; exact hk ▸ hg), hR2.2.1.mono (fun k hk => hk ▸ hPg)⟩
end Go.Proofs.Ythffllegmkolgaa.TreeK
