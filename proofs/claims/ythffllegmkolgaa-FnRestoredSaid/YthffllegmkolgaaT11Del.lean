/- The program's test of a change, slices.IndexFunc and slices.DeleteFunc by it, called. -/
import Derived.Test.YthffllegmkolgaaT11DelKit
namespace Go.Proofs.Ythffllegmkolgaa.TreeK
open Go.RowKit Go.Proofs.YthffllegmkolgaaW.PrintWords Go.Proofs.YthffllegmkolgaaW.PrintLast Go.Proofs.YthffllegmkolgaaW.PrintMore Go.Proofs.Ythffllegmkolgaa.QTree Go.Proofs.Ythffllegmkolgaa.EvKit Go.Proofs.Ythffllegmkolgaa.GTree
set_option linter.unusedSimpArgs false
set_option linter.unusedVariables false
set_option linter.unnecessarySimpa false
def newB (frm : Int) (c : Cel) : Bool := !decide (c.f2 ≤ frm)
theorem pred_le (c0 c1 : ByteArray) (c2 : Int) (c3 : Bool) (frm : Int) (gf : Nat) (w : World) (hb : w.heap[gf]? = some (.cells #[.int .i64 frm] 3 (0, 0))) (r : Bool) (hr : decide (c2 ≤ frm) = r) :
    Calls Try.prog 76 #[.agg #[.string c0, .string c1, .int .i64 c2, .bool c3], .pointer (some ⟨gf, 0, none⟩)] w fun e w' => e = .returned (.bool r) ∧ Below w.heap.size w w' := by
  have HB := zA (bel_alloc w (.cells #[.string c0, .string c1, .int .i64 c2, .bool c3] 48))
  have BC := zA (blk_new w (.cells #[.string c0, .string c1, .int .i64 c2, .bool c3] 48))
  have BF := zA (blk_alloc hb (.cells #[.string c0, .string c1, .int .i64 c2, .bool c3] 48))
  clear hb
  go_enter Try.func76, Try.ntmps76
  go_upto_region 1 with (fail)
  obtain ⟨gc, hgc⟩ : ∃ gc, gc = w.heap.size := ⟨_, rfl⟩
  rw [← hgc] at BC
  generalize w.alloc (.cells #[.string c0, .string c1, .int .i64 c2, .bool c3] 48) = W at HB BC BF ⊢
  simp only [← hgc]
  have HGC := zA hgc
  clear hgc
  obtain ⟨bc0, bc1, bc2, bc3⟩ := keep4 BC.out
  have bf0 : W.cell? ⟨gf, 0, none⟩ = some (.int .i64 frm) := (blk_cell BF.out 0).trans rfl
  go_wp2
  go_ret
  exact ⟨by rw [← hr]; rfl, HB.out⟩
def idxN (frm : Int) : List Cel → Nat
  | [] => 0
  | c :: cs => if c.f2 ≤ frm then 0 else idxN frm cs + 1
def idxI (frm : Int) (l : List Cel) : Int := if idxN frm l = l.length then -1 else (idxN frm l : Int)
theorem idxN_le (frm : Int) : ∀ l : List Cel, idxN frm l ≤ l.length
  | [] => Nat.le_refl _
  | c :: cs => by
    have := idxN_le frm cs
    rw [idxN]; split <;> simp only [List.length_cons] <;> omega
theorem idxN_hit {frm : Int} {l : List Cel} {j : Nat} {c : Cel} (hj : j < l.length) (e : l[j] = c) (h : idxN frm (l.drop j) + j = idxN frm l) (hc : c.f2 ≤ frm) : idxN frm l = j := by
  rw [List.drop_eq_getElem_cons hj, e, idxN, if_pos hc] at h; omega
theorem idxN_miss {frm : Int} {l : List Cel} {j : Nat} {c : Cel} (hj : j < l.length) (e : l[j] = c) (h : idxN frm (l.drop j) + j = idxN frm l) (hc : ¬ c.f2 ≤ frm) : idxN frm (l.drop (j + 1)) + (j + 1) = idxN frm l := by
  rw [List.drop_eq_getElem_cons hj, e, idxN, if_neg hc] at h; omega
theorem idxN_take (frm : Int) : ∀ l : List Cel, ∀ c ∈ l.take (idxN frm l), newB frm c = true
  | [], c, hc => by simp at hc
  | d :: cs, c, hc => by
    rw [idxN] at hc
    split at hc
    · simp at hc
    · rename_i hn
      rw [List.take_succ_cons] at hc
      rcases List.mem_cons.1 hc with rfl | hc
      · simp [newB, hn]
      · exact idxN_take frm cs c hc
theorem idxN_at (frm : Int) : ∀ (l : List Cel) (h : idxN frm l < l.length), newB frm l[idxN frm l] = false
  | [], h => by simp at h
  | d :: cs, h => by
    by_cases hn : d.f2 ≤ frm
    · have e : idxN frm (d :: cs) = 0 := by rw [idxN, if_pos hn]
      simp only [e, zl3]
      simp [newB, hn]
    · have e : idxN frm (d :: cs) = idxN frm cs + 1 := by rw [idxN, if_neg hn]
      simp only [e, zl2]
      exact idxN_at frm cs (by rw [e] at h; simpa using h)
set_option maxHeartbeats 800000 in
set_option maxRecDepth 100000 in
theorem idx_cells (A : Option Addr) (c : Nat) (l : List Cel) (frm : Int) (gf : Nat) (w : World) (hC : KC.C w A l.length l) (hc : l.length ≤ c) (hl : l.length ≤ 1000000) (hb : w.heap[gf]? = some (.cells #[.int .i64 frm] 3 (0, 0))) :
    Calls Try.prog 104 #[.slice A l.length c, .func (.func 76) #[] #[.pointer (some ⟨gf, 0, none⟩)]] w fun e w' => e = .returned (.int .i64 (idxI frm l)) ∧ Below w.heap.size w w' := by
  have HC := zA hC
  have BF := zA hb
  have HLN := zA hl
  clear hC hb hl
  obtain ⟨R, hR⟩ : ∃ R, R = idxI frm l := ⟨_, rfl⟩
  rw [← hR]
  have HR := zA hR
  clear hR
  go_enter Try.func104, Try.ntmps104
  go_wp2
  go_loopg [8] (l.length + 1) (fun kq v8 wr => ∃ (j : Nat), (j + kq = l.length + 1 ∧ j ≤ l.length) ∧ v8 = .int .i64 (j : Int) ∧ Aside0 (idxN frm (l.drop j) + j = idxN frm l) ∧ Aside0 (Below w.heap.size w wr))
  case atStart => exact ⟨0, ⟨by omega, Nat.zero_le _⟩, rfl, ⟨rfl⟩, ⟨by first | exact Below.refl _ _ | exact pw_below_drewN (Below.refl _ _) _⟩⟩
  case round =>
    obtain ⟨j, hj, rfl, HI, HB⟩ := hrel
    by_cases hlt : j < l.length
    case neg =>
      obtain rfl : j = l.length := by omega
      have hE : R = -1 := by
        have h := HI.out
        rw [List.drop_length] at h
        rw [HR.out, idxI, if_pos (by rw [← h]; simp [idxN])]
      subst hE
      go_wp2
      go_ret
      exact ⟨rfl, by first | exact HB.out | exact pw_below_drewN HB.out _⟩
    obtain ⟨⟨k0, k1, k2, k3⟩, hye⟩ : ∃ c : Cel, l[j] = c := ⟨_, rfl⟩
    obtain ⟨ad2, ee, e0, e1, e2, e3⟩ := elemC HC.out HB.out hlt hye
    cases ee
    have hw : wrap64 ((j : Int) + 1) = (j : Int) + 1 := w64 (by omega) (by have := HLN.out; omega)
    have BFr := zA (blk_below BF.out HB.out)
    by_cases h2 : k2 ≤ frm
    case pos =>
      have hE : R = (j : Int) := by
        have h := idxN_hit hlt hye HI.out h2
        rw [HR.out, idxI, if_neg (by rw [h]; omega), h]
      subst hE
      clear hye
      go_wp2_with (go_at_call 76; refine (pred_le k0 k1 k2 k3 frm gf _ BFr.out true (decide_eq_true h2)).mono ?_; rintro e w5 ⟨rfl, hb⟩; replace HB := zA (bel HB.out hb); clear hb e0 e1 e2 e3)
      go_ret
      exact ⟨rfl, by first | exact HB.out | exact pw_below_drewN HB.out _⟩
    have HN := zA (idxN_miss hlt hye HI.out h2)
    clear hye
    go_wp2_with (go_at_call 76; refine (pred_le k0 k1 k2 k3 frm gf _ BFr.out false (decide_eq_false h2)).mono ?_; rintro e w5 ⟨rfl, hb⟩; replace HB := zA (bel HB.out hb); clear hb e0 e1 e2 e3)
    go_roundg (l.length - j)
    case measure => omega
    case rel => exact ⟨j + 1, ⟨by omega, by omega⟩, by go_num, HN, ⟨by first | exact HB.out | exact pw_below_drewN HB.out _⟩⟩
theorem addr0 (g n : Nat) : (⟨g, 0, none⟩ : Addr).add n = ⟨g, n, none⟩ := by
  have h : (⟨g, 0, none⟩ : Addr).add n = ⟨g, 0 + n, none⟩ := by unfold Addr.add; split <;> simp_all
  rw [h, Nat.zero_add]
set_option maxHeartbeats 1600000 in
set_option maxRecDepth 100000 in
theorem del_cells (P : Nat → Prop) (A : Option Addr) (cap : Nat) (l : List Cel) (frm : Int) (gf : Nat) (w0 w : World) (hB : Below w0.heap.size w0 w) (ho : KC.R TC w w0.heap.size P (.slice A l.length cap) l) (hl : l.length ≤ 1000000) (hb : w.heap[gf]? = some (.cells #[.int .i64 frm] 3 (0, 0))) :
    Calls Try.prog 74 #[.slice A l.length cap, .func (.func 76) #[] #[.pointer (some ⟨gf, 0, none⟩)]] w fun e w' => e = .returned (.slice A (l.filter (newB frm)).length cap) ∧ KC.R TC w' w0.heap.size P (.slice A (l.filter (newB frm)).length cap) (l.filter (newB frm)) ∧ Below w0.heap.size w0 w' ∧ Kept w w' P := by
  have HRD := Kd.R_reads' ho
  have CI := zA (idx_cells A cap l frm gf w HRD.2.2 HRD.2.1 hl hb)
  have HLC := zA HRD.2.1
  clear HRD
  have HB := zA hB
  have R0 := zA ho
  have BF := zA hb
  have HLN := zA hl
  clear hB ho hb hl
  obtain ⟨i, hi⟩ : ∃ i, i = idxN frm l := ⟨_, rfl⟩
  by_cases hn : i = l.length
  case pos =>
    have hE : idxI frm l = -1 := by rw [idxI, if_pos (by rw [← hi]; exact hn)]
    have hF : l.filter (newB frm) = l := List.filter_eq_self.2 (fun c hc => idxN_take frm l c (by rw [← hi, hn, List.take_length]; exact hc))
    have HF := zA hF
    rw [hE] at CI
    clear hE hF hi hn
    have HK := zA (Kept.refl w P)
    go_enter Try.func74, Try.ntmps74
    go_wp2_with (go_at_call 104; refine CI.out.mono ?_; rintro e w5 ⟨rfl, hb⟩; replace R0 := zA (Kd.R_below R0.out hb); replace HB := zA (bel HB.out hb); replace HK := zA (HK.out.below hb); clear hb)
    go_ret
    rw [HF.out]
    exact ⟨rfl, R0.out, HB.out, HK.out⟩
  have hile := idxN_le frm l
  have hil : i < l.length := by omega
  obtain ⟨g, cap', ee, hg, hgl, cells, hcells⟩ := Kd.R_form R0.out (by omega)
  injection ee with e1 e2 e3
  subst e1
  subst e3
  clear hcells cells
  have hE : idxI frm l = (i : Int) := by rw [idxI, if_neg (by rw [← hi]; exact hn), hi]
  have HD := zA (Del.start (kp := newB frm) hil (fun c hc => idxN_take frm l c (by rw [← hi]; exact hc)) (by have := idxN_at frm l (by omega); simpa only [← hi] using this))
  have HPG := zA (R0.out.1 g rfl)
  have hgf := Kd.R_ne R0.out BF.out (by decide)
  have HGF : Aside0 (gf ≠ g) := ⟨fun h => hgf (by rw [h]; rfl)⟩
  have HG := zA hg
  rw [hE] at CI
  have hne1 : ((i : Int) == -1) = false := beq_eq_false_iff_ne.2 (by omega)
  have hw0 : wrap64 ((i : Int) + 1) = (i : Int) + 1 := w64 (by omega) (by have := HLN.out; omega)
  have HI := zA hil
  have HK := zA (Kept.refl w P)
  clear hgf hg hE hi hn hile hil hgl e2
  go_enter Try.func74, Try.ntmps74
  go_wp2_with (go_at_call 104; refine CI.out.mono ?_; rintro e w5 ⟨rfl, hb⟩; replace R0 := zA (Kd.R_below R0.out hb); replace HB := zA (bel HB.out hb); replace HK := zA (HK.out.below hb); replace BF := zA (blk_below BF.out hb); clear hb)
  go_loopg [5, 6] (l.length + 1) (fun kq v5 v6 wr => ∃ (i j : Nat) (xs : List Cel), (l.length + 1 ≤ j + kq ∧ j ≤ l.length) ∧ v5 = .int .i64 (i : Int) ∧ v6 = .int .i64 (j : Int) ∧ Aside0 (Del (newB frm) l i j xs) ∧ Aside0 (KC.R TC wr w0.heap.size P (.slice (some ⟨g, 0, none⟩) l.length cap) xs) ∧ Aside0 (wr.heap[gf]? = some (.cells #[.int .i64 frm] 3 (0, 0))) ∧ Aside0 (Below w0.heap.size w0 wr) ∧ Aside0 (Kept w wr P))
  case atStart => exact ⟨i, i + 1, l, ⟨by have := HI.out; omega, HI.out⟩, rfl, by go_num, HD, ⟨by first | exact R0.out | exact Kd.R_drewN R0.out _⟩, ⟨by first | exact BF.out | exact blk_drewN BF.out _⟩, ⟨by first | exact HB.out | exact pw_below_drewN HB.out _⟩, ⟨by first | exact HK.out | exact HK.out.drewN _⟩⟩
  case round =>
    clear R0 BF HB HK HD HI hne1 hw0 CI
    obtain ⟨i, j, xs, hj, rfl, rfl, HD, R0, BF, HB, HK⟩ := hrel
    have hx := HD.out.len
    have hij := HD.out.lt
    have hC := (Kd.R_reads' R0.out).2.2
    by_cases hlt : j < l.length
    case neg =>
      obtain rfl : j = l.length := by omega
      have hdn := HD.out.done
      have hnum := HD.out.num
      rw [List.take_length] at hnum
      rw [← hx] at R0
      have hcl := clear_row (xs.length - i) i wr xs (by omega) R0.out
      have hclr := clear_run R0.out (i := i) (by omega) (cap - i)
      obtain ⟨i0, hi0, hzz⟩ := Option.map_eq_some_iff.1 info48
      simp only [Prod.mk.injEq] at hzz
      obtain ⟨_, hz1, _⟩ := hzz
      have hcap := HLC.out
      have hcut1 := cut_from (P := Try.prog) 28 48 .i64 Try.underlying28 hi0 4 hz1 (some ⟨g, 0, none⟩) l.length cap (i : Int) (by omega) (by omega)
      rw [Int.toNat_natCast, if_neg (by omega)] at hcut1
      simp only [Option.map_some, addr0] at hcut1
      have hcut2 := cut_to (P := Try.prog) 28 48 .i64 Try.underlying28 hi0 (some ⟨g, 0, none⟩) l.length cap (i : Int) (by omega) (by omega) (by omega)
      rw [Int.toNat_natCast] at hcut2
      have R1 := zA (Kd.R_take (m := i) hcl.1 (by rw [List.length_append, List.length_take]; omega))
      rw [List.take_append_of_le_length (by rw [List.length_take]; omega), List.take_take, Nat.min_self, hdn] at R1
      have HB1 := zA (pw_below_grown HB.out (some g) HB.out.size hcl.2 (fun k hk => by injection hk with hk; exact hk ▸ HG.out))
      have HK1 := zA (Kept.of_grown hcl.2 HK.out (fun k hk => by injection hk with hk; exact .inl (hk ▸ HPG.out)))
      rw [hx] at hclr R1 HB1 HK1
      have HX := zA hx
      have HNUM := zA hnum
      clear hx hnum hdn hcl hi0 hz1 hC
      go_wp2
      go_ret
      rw [← HNUM.out]
      exact ⟨rfl, R1.out, HB1.out, HK1.out⟩
    obtain ⟨⟨k0, k1, k2, k3⟩, hye⟩ : ∃ c : Cel, l[j] = c := ⟨_, rfl⟩
    obtain ⟨ad2, ee, e0, e1, e2, e3⟩ := elemC hC (Below.refl _ _) (by omega) ((HD.out.at_ hlt (by omega)).trans hye)
    have ee' := Option.some.inj ee
    subst ee'
    have hw : wrap64 ((j : Int) + 1) = (j : Int) + 1 := w64 (by omega) (by have := HLN.out; omega)
    have hw2 : wrap64 ((i : Int) + 1) = (i : Int) + 1 := w64 (by omega) (by have := HLN.out; omega)
    simp only [addr0] at e0 e1 e2 e3
    clear ee hC
    go_upto_region 8 with (fail)
    have B3 := zA (blk_new wr (.cells #[.string k0, .string k1, .int .i64 k2, .bool k3] 48))
    have hb := bel_alloc wr (.cells #[.string k0, .string k1, .int .i64 k2, .bool k3] 48)
    replace R0 := zA (Kd.R_below R0.out hb)
    replace BF := zA (blk_below BF.out hb)
    replace HB := zA (bel HB.out hb)
    replace HK := zA (HK.out.below hb)
    clear e0 e1 e2 e3 hb
    generalize wr.alloc (.cells #[.string k0, .string k1, .int .i64 k2, .bool k3] 48) = W3 at *
    generalize wr.heap.size = g9 at *
    obtain ⟨hx0, hx1, hx2, hx3⟩ := keep4 B3.out
    by_cases h2 : k2 ≤ frm
    case pos =>
      have HD2 := zA (HD.out.skip hlt (by rw [hye]; simp [newB, h2]))
      clear hye
      go_wp2_with (go_at_call 76; refine (pred_le k0 k1 k2 k3 frm gf _ BF.out true (decide_eq_true h2)).mono ?_; rintro e w5 ⟨rfl, hb⟩; replace R0 := zA (Kd.R_below R0.out hb); replace BF := zA (blk_below BF.out hb); replace HB := zA (bel HB.out hb); replace HK := zA (HK.out.below hb); clear hb hx0 hx1 hx2 hx3 B3)
      go_roundg (l.length - j)
      case measure => omega
      case rel => exact ⟨i, j + 1, xs, ⟨by omega, by omega⟩, rfl, by go_num, HD2, ⟨by first | exact R0.out | exact Kd.R_drewN R0.out _⟩, ⟨by first | exact BF.out | exact blk_drewN BF.out _⟩, ⟨by first | exact HB.out | exact pw_below_drewN HB.out _⟩, ⟨by first | exact HK.out | exact HK.out.drewN _⟩⟩
    have HD2 := zA (HD.out.keep hlt (by rw [hye]; simp [newB, h2]))
    rw [hye] at HD2
    clear hye
    go_upto_region 9 with (go_at_call 76; refine (pred_le k0 k1 k2 k3 frm gf _ BF.out false (decide_eq_false h2)).mono ?_; rintro e w5 ⟨rfl, hb⟩; replace R0 := zA (Kd.R_below R0.out hb); replace BF := zA (blk_below BF.out hb); replace B3 := zA (blk_below B3.out hb); replace HB := zA (bel HB.out hb); replace HK := zA (HK.out.below hb); clear hb hx0 hx1 hx2 hx3)
    obtain ⟨hx0, hx1, hx2, hx3⟩ := keep4 B3.out
    obtain ⟨cO, hcO, hmO, hcO1, hcO2⟩ := Kd.R_elem R0.out z48 ((i : Nat) : Int) (by omega) (by omega)
    obtain rfl := k48_openM hmO
    have hy0 : w5.cell? ⟨g, i * 4, none⟩ = some _ := hcO1 0 _ rfl
    have hy1 : w5.cell? ⟨g, i * 4 + 1, none⟩ = some _ := hcO1 1 _ rfl
    have hy2 : w5.cell? ⟨g, i * 4 + 2, none⟩ = some _ := hcO1 2 _ rfl
    have hy3 : w5.cell? ⟨g, i * 4 + 3, none⟩ = some _ := hcO1 3 _ rfl
    have hf0 : w5.frozen? ⟨g, i * 4, none⟩ = false := hcO2 0
    have hf1 : w5.frozen? ⟨g, i * 4 + 1, none⟩ = false := hcO2 1
    have hf2 : w5.frozen? ⟨g, i * 4 + 2, none⟩ = false := hcO2 2
    have hf3 : w5.frozen? ⟨g, i * 4 + 3, none⟩ = false := hcO2 3
    have hseg0 := (Kd.R_seg (d := KC) R0.out ((i : Nat) : Int) (by omega) (by omega) (seg := [.string k0, .string k1, .int .i64 k2, .bool k3]) (j := 0) hcO hcO1 (Nat.le_refl 4) (x' := ⟨k0, k1, k2, k3⟩) (okp := fun _ => False) (show KC.M _ _ _ _ _ from k48_mkM _ _ _ (⟨k0, k1, k2, k3⟩ : Cel)) (fun _ h => h.elim))
    rw [Int.toNat_natCast, show i * KC.sz + 0 = i * 4 from rfl, setCells4] at hseg0
    have R1 := zA hseg0.1
    have BF1 := zA (blk_grown BF.out hseg0.2 (fun h => HGF.out (by injection h)))
    have HB1 := zA (pw_below_grown HB.out (some g) HB.out.size hseg0.2 (fun k hk => by injection hk with hk; exact hk ▸ HG.out))
    have HK1 := zA (Kept.of_grown hseg0.2 HK.out (fun k hk => by injection hk with hk; exact .inl (hk ▸ HPG.out)))
    clear hseg0 hcO hcO1 hcO2 hmO
    have hil : (i : Int) < (l.length : Int) := by omega
    go_wp2_with (fail)
    go_roundg (l.length - j)
    case measure => omega
    case rel => exact ⟨i + 1, j + 1, _, ⟨by omega, by omega⟩, by go_num, by go_num, HD2, ⟨by first | exact R1.out | exact Kd.R_drewN R1.out _⟩, ⟨by first | exact BF1.out | exact blk_drewN BF1.out _⟩, ⟨by first | exact HB1.out | exact pw_below_drewN HB1.out _⟩, ⟨by first | exact HK1.out | exact HK1.out.drewN _⟩⟩
end Go.Proofs.Ythffllegmkolgaa.TreeK
