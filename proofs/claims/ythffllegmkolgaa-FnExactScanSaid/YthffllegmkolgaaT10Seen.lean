/- The program's Look, called: what it tells is 'lookR'. -/
import Derived.Test.YthffllegmkolgaaT10LookPure
import Derived.Test.YthffllegmkolgaaT10TreeWalk
import Derived.Test.YthffllegmkolgaaT10RngV
import Derived.Test.YthffllegmkolgaaT10QTreex8
import Derived.BigQuiet
import Derived.Deep.RegionHeld3
import Derived.Carry
namespace Go.Proofs.Ythffllegmkolgaa.TreeK
open Go.RowKit Go.Proofs.YthffllegmkolgaaW.PrintWords Go.Proofs.YthffllegmkolgaaW.PrintLast Go.Proofs.YthffllegmkolgaaW.PrintMore Go.Proofs.Ythffllegmkolgaa.QTree Go.Proofs.Ythffllegmkolgaa.MapKit
set_option linter.unusedSimpArgs false
set_option linter.unusedVariables false
def celV (c : Cel) : Value := .agg #[.string c.f0, .string c.f1, .int .i64 c.f2, .bool c.f3]
def seenF (seq : Int) (xs : List Cel) : Lit → Option Value
  | .string k => (seenC seq xs k).map celV
  | _ => none
theorem zero48 (w : World) : (zeroValue 48).run Try.prog w = .ok (celV zCel) w := by kernel_rfl
theorem keyStr {s : ByteArray} (h : s.size ≤ maxLen) : keyOf Try.prog 9 (.string s) = some (.string s.toList) := by
  rw [← ba_list]; exact WideMaps.keyOf_string_mk Try.underlying9 h
theorem seen_look {w : World} {b n : Nat} {seq : Int} {xs : List Cel} (h : MapV Try.prog 9 w b n (seenF seq xs)) {s : ByteArray} (hs : s.size ≤ maxLen) {c : Cel} {ok : Bool} (hc : (seenC seq xs s.toList).getD zCel = c) (hok : (seenC seq xs s.toList).isSome = ok) :
    (Instr.lookup 81 (.map (some b)) (.string s) true).run Try.prog w = .ok (.tuple #[celV c, .bool ok]) w :=
  h.look2 (Maps.string_keyed Try.underlying9) Try.underlying81 (zero48 w) (keyStr hs) (by rw [← hc]; unfold seenF; simp only []; cases seenC seq xs s.toList <;> rfl) (by rw [← hok]; unfold seenF; simp only []; cases seenC seq xs s.toList <;> rfl)
theorem seenF_hit {seq : Int} {X : List Cel} {j : Nat} {c : Cel} (hj : j < X.length) (hc : X[j] = c) (hh : hitB seq c (seenC seq (X.take j) c.f0.toList) = true) :
    seenF seq (X.take (j + 1)) (.string c.f0.toList) = some (celV c) ∧ ∀ l, l ≠ .string c.f0.toList → seenF seq (X.take (j + 1)) l = seenF seq (X.take j) l := by
  rw [List.take_succ_eq_append_getElem hj, hc]
  unfold seenF
  refine ⟨?_, fun l hl => ?_⟩
  · simp only [seenC_snoc]; rw [if_pos ⟨trivial, hh⟩]; rfl
  · cases l with
    | string k =>
      simp only [seenC_snoc]
      rw [if_neg (fun h => hl (by rw [h.1]))]
    | _ => rfl
theorem seenF_miss {seq : Int} {X : List Cel} {j : Nat} {c : Cel} (hj : j < X.length) (hc : X[j] = c) (hh : hitB seq c (seenC seq (X.take j) c.f0.toList) = false) :
    ∀ l, seenF seq (X.take (j + 1)) l = seenF seq (X.take j) l := by
  rw [List.take_succ_eq_append_getElem hj, hc]
  unfold seenF
  intro l
  cases l with
  | string k =>
    simp only [seenC_snoc]
    rw [if_neg (fun h => by obtain ⟨h1, h2⟩ := h; subst h1; rw [hh] at h2; cases h2)]
  | _ => rfl
theorem cells_f (m : List Cel) (rs : List (List Cel)) (s q : Int) (h : (m ++ rs.flatten).length ≤ 8388608) : impl_cells.f m rs s q = some (m ++ rs.flatten) := by
  rw [List.length_append] at h
  unfold impl_cells.f impl_Cell_100.f impl_Cell_72.f
  rw [if_pos (by omega), if_pos (by omega)]
  simp only [Option.bind_some]
  rw [if_pos (by omega)]
theorem call_cells (A0 A1 : Option Addr) (c0 c1 : Nat) (m : List Cel) (rs : List (List Cel)) (seq most : Int) (w : World) (hC : k48.C w A0 m.length m) (hc0 : m.length ≤ c0) (hD : (Kd.slice 48 k48).C w A1 rs.length rs) (hc1 : rs.length ≤ c1) (h : (m ++ rs.flatten).length ≤ 8388608) :
    Calls Try.prog 75 #[.agg #[.slice A0 m.length c0, .slice A1 rs.length c1, .int .i64 seq, .int .i64 most]] w fun e w' => ∃ A c, e = .returned (.slice A (m ++ rs.flatten).length c) ∧ Kd.R k48 48 w' w.heap.size (fun _ => True) (.slice A (m ++ rs.flatten).length c) (m ++ rs.flatten) ∧ Below w.heap.size w w' := by
  refine (impl_cells.calls A0 c0 m A1 c1 rs seq most _ w hC hc0 hD hc1 (cells_f m rs seq most h)).mono ?_
  rintro e w' ⟨v, rfl, hR, hb⟩
  obtain ⟨A, c, rfl, hl, hC⟩ := Kd.R_reads hR
  exact ⟨A, c, rfl, hR, hb⟩
set_option maxHeartbeats 3200000 in
set_option maxRecDepth 100000 in
theorem call_seen (A0 A1 : Option Addr) (c0 c1 : Nat) (m : List Cel) (rs : List (List Cel)) (sq most seq : Int) (w : World) (hC : k48.C w A0 m.length m) (hc0 : m.length ≤ c0) (hD : (Kd.slice 48 k48).C w A1 rs.length rs) (hc1 : rs.length ≤ c1) (hl : (m ++ rs.flatten).length ≤ 8388608) (hsz : ∀ c ∈ m ++ rs.flatten, cellB c = true) :
    Calls Try.prog 62 #[.agg #[.slice A0 m.length c0, .slice A1 rs.length c1, .int .i64 sq, .int .i64 most], .int .i64 seq] w fun e w' => ∃ b n, e = .returned (.map (some b)) ∧ MapV Try.prog 9 w' b n (seenF seq (m ++ rs.flatten)) ∧ Below w.heap.size w w' ∧ n ≤ (m ++ rs.flatten).length := by
  have CC : ∀ V : World, Below w.heap.size w V → _ := fun V hb => call_cells A0 A1 c0 c1 m rs sq most V (Kd.C_below hC hb) hc0 (Kd.C_below hD hb) hc1 hl
  replace CC := zA CC
  obtain ⟨X, hX⟩ : ∃ X, m ++ rs.flatten = X := ⟨_, rfl⟩
  rw [hX] at CC hl hsz ⊢
  have HS := zA hsz
  have hmm := @run_makeMap Try.prog
  clear hC hD hsz hX hc0 hc1
  go_enter Try.func62, Try.ntmps62
  go_upto_region 2 with (fail)
  have BK := zA (blk_alloc (blk_new w (.cells #[.slice A0 m.length c0, .slice A1 rs.length c1, .int .i64 sq, .int .i64 most] 31)) (.map #[] 0))
  have HM : Aside0 (MapV Try.prog 9 ((w.alloc (.cells #[.slice A0 m.length c0, .slice A1 rs.length c1, .int .i64 sq, .int .i64 most] 31)).alloc (.map #[] 0)) (w.heap.size + 1) 0 (seenF seq (X.take 0))) := ⟨by
    have h := (MapV.made (P := Try.prog) (kt := 9) (w.alloc (.cells #[.slice A0 m.length c0, .slice A1 rs.length c1, .int .i64 sq, .int .i64 most] 31))).congr (g := seenF seq (X.take 0)) (by intro l _; unfold seenF; cases l <;> rfl)
    rwa [show (w.alloc (.cells #[.slice A0 m.length c0, .slice A1 rs.length c1, .int .i64 sq, .int .i64 most] 31)).heap.size = w.heap.size + 1 from by simp] at h⟩
  have HB := zA (bel (bel_alloc w (.cells #[.slice A0 m.length c0, .slice A1 rs.length c1, .int .i64 sq, .int .i64 most] 31)) (bel_alloc (w.alloc (.cells #[.slice A0 m.length c0, .slice A1 rs.length c1, .int .i64 sq, .int .i64 most] 31)) (.map #[] 0)))
  have hgm : Aside0 (w.heap.size ≤ w.heap.size + 1) := ⟨Nat.le_succ _⟩
  clear hmm
  generalize (w.alloc (.cells #[.slice A0 m.length c0, .slice A1 rs.length c1, .int .i64 sq, .int .i64 most] 31)).alloc (.map #[] 0) = W1 at *
  generalize w.heap.size + 1 = gm at *
  have hx0 := (keep4 BK.out).1
  have hx1 := (keep4 BK.out).2.1
  have hx2 := (keep4 BK.out).2.2.1
  have hx3 := (keep4 BK.out).2.2.2
  go_wp2_with (go_at_call 75; refine (CC.out _ HB.out).mono ?_; rintro e w5 ⟨A, c, rfl, hR, hb⟩; have HO := zA (Kd.R_mono (ok' := fun k => k ≠ gm) (Kd.R_lower (Kd.R_bound hR) HB.out.size) (fun k hk => by have := HM.out.lt; have := hk.2.1; omega)); replace HM := zA (HM.out.below hb); replace HB := zA (bel HB.out hb); clear hR hb hx0 hx1 hx2 hx3 BK CC)
  go_loopg [14] (X.length + 1) (fun kq v14 wr => ∃ (j n : Nat), (j + kq = X.length + 1 ∧ j ≤ X.length) ∧ v14 = .int .i64 (j : Int) ∧ n ≤ j ∧ Aside0 (MapV Try.prog 9 wr gm n (seenF seq (X.take j))) ∧ Aside0 (Kd.R k48 48 wr w.heap.size (fun k => k ≠ gm) (.slice A X.length c) X) ∧ Aside0 (Below w.heap.size w wr))
  case atStart => exact ⟨0, 0, ⟨by omega, Nat.zero_le _⟩, rfl, Nat.le_refl _, ⟨HM.out⟩, ⟨HO.out⟩, ⟨by repeat (first | (with_reducible exact HB.out) | apply pw_below_drewN)⟩⟩
  case round =>
    clear HM HO HB
    obtain ⟨j, n, hj, rfl, hn, HM, HO, HB⟩ := hrel
    by_cases hlt : j < X.length
    case neg =>
      obtain rfl : j = X.length := by omega
      rw [List.take_length] at HM
      go_wp2
      go_ret
      exact ⟨_, _, rfl, by first | exact HM.out | exact HM.out.drewN _, by repeat (first | (with_reducible exact HB.out) | apply pw_below_drewN), hn⟩
    obtain ⟨⟨k0, k1, k2, k3⟩, hye⟩ : ∃ c : Cel, X[j] = c := ⟨_, rfl⟩
    have hcb : cellB ⟨k0, k1, k2, k3⟩ = true := hye ▸ HS.out _ (List.getElem_mem hlt)
    have hk0 : k0.size ≤ maxLen := by
      unfold cellB at hcb
      simp only [Bool.and_eq_true, decide_eq_true_eq] at hcb
      have := hcb.1.1.1
      unfold maxLen; omega
    obtain ⟨ad2, ee, g0, g1, g2, g3⟩ := elemC (Kd.R_reads' HO.out).2.2 (Below.refl _ _) hlt hye
    cases ee
    replace hye := zA hye
    clear hcb
    go_upto_region 5 with (fail)
    have B3 := zA (blk_new wr (.cells #[.string k0, .string k1, .int .i64 k2, .bool k3] 48))
    have hb := bel_alloc wr (.cells #[.string k0, .string k1, .int .i64 k2, .bool k3] 48)
    replace HM := zA (HM.out.below hb)
    replace HO := zA (Kd.R_below HO.out hb)
    replace HB := zA (bel HB.out hb)
    clear g0 g1 g2 g3 hb
    generalize wr.alloc (.cells #[.string k0, .string k1, .int .i64 k2, .bool k3] 48) = W3 at *
    generalize wr.heap.size = g9 at *
    have hx0 := (keep4 B3.out).1
    have hx1 := (keep4 B3.out).2.1
    have hx2 := (keep4 B3.out).2.2.1
    have hx3 := (keep4 B3.out).2.2.2
    obtain ⟨o, ho⟩ : ∃ o, seenC seq (X.take j) k0.toList = o := ⟨_, rfl⟩
    obtain ⟨⟨d0, d1, d2, d3⟩, hd⟩ : ∃ d : Cel, o.getD zCel = d := ⟨_, rfl⟩
    obtain ⟨had, hh⟩ : ∃ b, o.isSome = b := ⟨_, rfl⟩
    have hlk := seen_look (c := ⟨d0, d1, d2, d3⟩) (ok := had) HM.out hk0 (by rw [ho, hd]) (by rw [ho, hh])
    unfold celV at hlk
    obtain ⟨a1, h1⟩ : ∃ b, decide (k2 ≤ seq) = b := ⟨_, rfl⟩
    obtain ⟨a3, h3⟩ : ∃ b, decide (d2 < k2) = b := ⟨_, rfl⟩
    have hH : Aside0 (hitB seq ⟨k0, k1, k2, k3⟩ (seenC seq (X.take j) (⟨k0, k1, k2, k3⟩ : Cel).f0.toList) = (a1 && (!had || a3))) := ⟨by
      show hitB seq ⟨k0, k1, k2, k3⟩ (seenC seq (X.take j) k0.toList) = _
      rw [ho, ← h1, ← hh, ← h3]
      unfold hitB
      cases o with
      | none => simp
      | some x => simp only [Option.getD_some] at hd; subst hd; simp⟩
    replace ho := zA ho
    replace hd := zA hd
    replace hh := zA hh
    go_upto_region 6 with (fail)
    have B4 := zA (blk_new W3 (.cells #[.string d0, .string d1, .int .i64 d2, .bool d3] 48))
    have hb := bel_alloc W3 (.cells #[.string d0, .string d1, .int .i64 d2, .bool d3] 48)
    replace B3 := zA (blk_below B3.out hb)
    replace HM := zA (HM.out.below hb)
    replace HO := zA (Kd.R_below HO.out hb)
    replace HB := zA (bel HB.out hb)
    clear hx0 hx1 hx2 hx3 hb hlk
    generalize W3.alloc (.cells #[.string d0, .string d1, .int .i64 d2, .bool d3] 48) = W4 at *
    generalize W3.heap.size = g8 at *
    have hx0 := (keep4 B3.out).1
    have hx1 := (keep4 B3.out).2.1
    have hx2 := (keep4 B3.out).2.2.1
    have hx3 := (keep4 B3.out).2.2.2
    have hy0 := (keep4 B4.out).1
    have hy1 := (keep4 B4.out).2.1
    have hy2 := (keep4 B4.out).2.2.1
    have hy3 := (keep4 B4.out).2.2.2
    cases a1
    case false =>
      have hG := zA (seenF_miss hlt hye.out (hH.out.trans rfl))
      replace HM := zA (HM.out.congr (g := seenF seq (X.take (j + 1))) (fun l _ => hG.out l))
      go_wp2_with (fail)
      go_roundg (X.length - j)
      case measure => omega
      case rel => exact ⟨j + 1, n, ⟨by omega, by omega⟩, by go_num, by omega, ⟨by first | exact HM.out | exact HM.out.drewN _⟩, ⟨by first | exact HO.out | exact Kd.R_drewN HO.out _⟩, ⟨by repeat (first | (with_reducible exact HB.out) | apply pw_below_drewN)⟩⟩
    cases had
    case false =>
      have hG := zA (seenF_hit hlt hye.out (hH.out.trans rfl))
      go_wp2_with (at_mapUpdate; refine MapV.store (by first | exact HM.out | exact HM.out.drewN _) (Maps.string_keyed Try.underlying9) Try.underlying81 (by unfold maxLen; omega) (keyStr hk0) rfl (.tmp 40) (.tmp 42) (.tmp 43) rfl rfl rfl rfl (g := seenF seq (X.take (j + 1))) hG.out.1 (fun l _ h => hG.out.2 l h) ?_; intro w9 hm9 hg9; replace HM := zA hm9; replace HO := zA (Kd.R_grown (by first | exact HO.out | exact Kd.R_drewN HO.out _) hg9 (fun k (hk : k ≠ gm) h => hk (by injection h))); replace HB := zA (Below.grown (by repeat (first | (with_reducible exact HB.out) | apply pw_below_drewN)) hg9 (show Below w.heap.size w _ from (by repeat (first | (with_reducible exact HB.out) | apply pw_below_drewN))).size (fun k hk => by injection hk with hk; subst hk; exact hgm.out)); clear hm9 hg9)
      go_roundg (X.length - j)
      case measure => omega
      case rel => exact ⟨j + 1, n + 1, ⟨by omega, by omega⟩, by go_num, by omega, ⟨HM.out⟩, ⟨HO.out⟩, ⟨by repeat (first | (with_reducible exact HB.out) | apply pw_below_drewN)⟩⟩
    cases a3
    case false =>
      have hG := zA (seenF_miss hlt hye.out (hH.out.trans rfl))
      replace HM := zA (HM.out.congr (g := seenF seq (X.take (j + 1))) (fun l _ => hG.out l))
      go_wp2_with (fail)
      go_roundg (X.length - j)
      case measure => omega
      case rel => exact ⟨j + 1, n, ⟨by omega, by omega⟩, by go_num, by omega, ⟨by first | exact HM.out | exact HM.out.drewN _⟩, ⟨by first | exact HO.out | exact Kd.R_drewN HO.out _⟩, ⟨by repeat (first | (with_reducible exact HB.out) | apply pw_below_drewN)⟩⟩
    case true =>
      have hG := zA (seenF_hit hlt hye.out (hH.out.trans rfl))
      go_wp2_with (at_mapUpdate; refine MapV.store (by first | exact HM.out | exact HM.out.drewN _) (Maps.string_keyed Try.underlying9) Try.underlying81 (by unfold maxLen; omega) (keyStr hk0) rfl (.tmp 40) (.tmp 42) (.tmp 43) rfl rfl rfl rfl (g := seenF seq (X.take (j + 1))) hG.out.1 (fun l _ h => hG.out.2 l h) ?_; intro w9 hm9 hg9; replace HM := zA hm9; replace HO := zA (Kd.R_grown (by first | exact HO.out | exact Kd.R_drewN HO.out _) hg9 (fun k (hk : k ≠ gm) h => hk (by injection h))); replace HB := zA (Below.grown (by repeat (first | (with_reducible exact HB.out) | apply pw_below_drewN)) hg9 (show Below w.heap.size w _ from (by repeat (first | (with_reducible exact HB.out) | apply pw_below_drewN))).size (fun k hk => by injection hk with hk; subst hk; exact hgm.out)); clear hm9 hg9)
      go_roundg (X.length - j)
      case measure => omega
      case rel => exact ⟨j + 1, n + 1, ⟨by omega, by omega⟩, by go_num, by omega, ⟨HM.out⟩, ⟨HO.out⟩, ⟨by repeat (first | (with_reducible exact HB.out) | apply pw_below_drewN)⟩⟩
end Go.Proofs.Ythffllegmkolgaa.TreeK
