/- Marks laid on sources in memory, called: what is marked is told by its lengths alone. -/
import Derived.Test.YtmkhiaikfeoedaaE1MkArr
namespace Go.Proofs.Ytmkhiaikfeoedaa.MarkK
open Go.RowKit Go.Proofs.YtmkhiaikfeoedaaW.PrintWords Go.Proofs.YtmkhiaikfeoedaaW.PrintLast Go.Proofs.YtmkhiaikfeoedaaW.PrintMore Go.Proofs.Ytmkhiaikfeoedaa.QFnExactInputsOk Go.Proofs.Ytmkhiaikfeoedaa.EvKit
set_option linter.unusedSimpArgs false
set_option linter.unusedVariables false
abbrev KS := k58
abbrev TS : TypeId := 58
abbrev MSrc := S58
abbrev zS : MSrc := z58
def wtS : List MSrc → Nat
  | [] => 0
  | a :: l => a.f2.length + 2 + wtS l
theorem wtS_split (l : List MSrc) : ∀ j, wtS l = wtS (l.take j) + wtS (l.drop j) := by
  induction l with
  | nil => intro j; simp [wtS]
  | cons a l ih =>
    intro j
    cases j with
    | zero => simp [wtS]
    | succ j => show a.f2.length + 2 + wtS l = a.f2.length + 2 + wtS (l.take j) + wtS (l.drop j); rw [ih j]; omega
theorem wtS_step (l : List MSrc) : ∀ (j : Nat) (h : j < l.length), wtS (l.take (j + 1)) = wtS (l.take j) + (l[j].f2.length + 2) := by
  induction l with
  | nil => intro j h; simp at h
  | cons a l ih =>
    intro j h
    cases j with
    | zero => simp [wtS]
    | succ j =>
      have h' : j < l.length := by simpa using h
      show a.f2.length + 2 + wtS (l.take (j + 1)) = a.f2.length + 2 + wtS (l.take j) + (l[j].f2.length + 2)
      rw [ih j h']; omega
theorem wtS_le (l : List MSrc) (j : Nat) : wtS (l.take j) ≤ wtS l := by rw [wtS_split l j]; omega
theorem set_grown (W : World) (g j : Nat) (v : Value) : W.grownBy (W.setCell ⟨g, j, none⟩ v) (some g) :=
  ⟨rfl, rfl, rfl, by simp [World.setCell], fun i _ hi => Below.heap_setCell W ⟨g, j, none⟩ v i (fun h => hi (by rw [h]))⟩
set_option maxHeartbeats 1600000 in
set_option maxRecDepth 100000 in
theorem mark_srcs (P1_ : Nat → Prop) (u : Value) (l : List MSrc) (k : Int) (w0 w : World) (hB : Below w0.heap.size w0 w) (ho : Kd.S KS TS w w0.heap.size P1_ u l) (hk : 0 ≤ k) (hl : k + wtS l ≤ 10000000000000000) :
    Calls Try.prog 15 #[u, .int .i64 k] w fun e w' => e = .returned (.int .i64 (k + wtS l)) ∧ Below w0.heap.size w0 w' ∧ Kept w w' (fun k_ => P1_ k_) := by
  have HO := Aside0.mk (Kd.S_mono ho (ok' := fun k_ => (P1_ k_ ∨ w.heap.size ≤ k_)) (fun k hk => .inl hk))
  have HB := Aside0.mk hB
  have HK := Aside0.mk (Kept.refl w (fun k_ => P1_ k_))
  have HW := Aside0.mk hB.size
  have HL := Aside0.mk hl
  have HK0 := Aside0.mk hk
  have hlm : l.length ≤ 9223372036854775807 := by
    obtain ⟨A, c, rfl, _, hC⟩ := Kd.S_reads ho
    exact hC.2.1
  obtain ⟨A, cap, rfl⟩ := Kd.S_slice ho
  clear hB ho hl hk
  go_enter Try.func15, Try.ntmps15
  go_wp2
  go_loopg [1, 5] (l.length + 1) (fun kq v1 v5 wr => ∃ (j : Nat) (xs : List MSrc), (j + kq = l.length + 1 ∧ j ≤ l.length) ∧ v1 = .int .i64 (k + wtS (l.take j)) ∧ v5 = .int .i64 (j : Int) ∧ Aside0 (xs.length = l.length ∧ xs.drop j = l.drop j) ∧ Aside0 (Kd.S KS TS wr w0.heap.size (fun k_ => (P1_ k_ ∨ w.heap.size ≤ k_)) (.slice A l.length cap) xs) ∧ Aside0 (Below w0.heap.size w0 wr) ∧ Aside0 (Kept w wr (fun k_ => P1_ k_)))
  case atStart => exact ⟨0, l, ⟨by omega, Nat.zero_le _⟩, by simp [wtS], rfl, ⟨rfl, rfl⟩, ⟨HO.out⟩, ⟨HB.out⟩, ⟨HK.out⟩⟩
  case round =>
    clear HO HB HK
    obtain ⟨j, xs, hj, rfl, rfl, HX, HO, HB, HK⟩ := hrel
    by_cases hlt : j < l.length
    case neg =>
      obtain rfl : j = l.length := by omega
      rw [List.take_length]
      go_wp2
      go_ret
      exact ⟨rfl, by first | exact HB.out | exact pw_below_drewN HB.out _, by first | exact HK.out | exact HK.out.drewN _⟩
    obtain ⟨g, cp, hv, hg1, hg2, _⟩ := Kd.S_form HO.out (by rw [HX.out.1]; omega)
    rw [HX.out.1] at hv
    injection hv with hv1 _ hv3
    subst hv1 hv3
    obtain ⟨oki, c, _, hM, hoki, hH⟩ : ∃ (oki : Nat → Prop) (c : List Value), c.length = KS.sz ∧ KS.M wr w0.heap.size oki (xs.getD j zS) c ∧ (∀ k, oki k → (P1_ k ∨ w.heap.size ≤ k) ∧ k ≠ g) ∧ Kd.H KS TS wr w0.heap.size (fun k_ => (P1_ k_ ∨ w.heap.size ≤ k_)) (.slice (some ⟨g, 0, none⟩) l.length cap) xs (j : Int) oki c := by
      obtain ⟨oki, c, h1, h2, _, h4, h5⟩ := Kd.S_lend HO.out zS (j : Int) (by omega) (by omega)
      exact ⟨oki, c, h1, h2, h4, h5⟩
    have hxj := drop_at HX.out.2 (by rw [HX.out.1]; exact hlt) hlt
    have hgd : xs.getD j zS = l[j] := by rw [List.getD_eq_getElem?_getD, List.getElem?_eq_getElem (by rw [HX.out.1]; exact hlt)]; exact hxj.1
    rw [hgd] at hM
    obtain ⟨x, hx⟩ : ∃ x, x = l[j] := ⟨_, rfl⟩
    have hst := wtS_step l j hlt
    have hle := wtS_le l (j + 1)
    rw [← hx] at hM hst
    obtain ⟨vr, rfl, hR⟩ := k58_openM hM
    obtain ⟨K, hK⟩ : ∃ K, K = k + (wtS (l.take j) : Int) := ⟨_, rfl⟩
    have hKb : 0 ≤ K ∧ K + (x.f2.length + 2 : Nat) ≤ 10000000000000000 ∧ k + (wtS (l.take (j + 1)) : Int) = K + (x.f2.length + 2 : Nat) := by
      have h1 := HL.out; have h2 := HK0.out; omega
    rw [← hK]
    have HKB := Aside0.mk hKb
    have HX2 := Aside0.mk hxj.2
    have HNE := Aside0.mk (H_ne hH)
    have HI := Aside0.mk hoki
    have HH := Aside0.mk hH
    have HR := Aside0.mk hR
    obtain ⟨s, hs⟩ := mark_text K (by omega) wr
    have HT := Aside0.mk hs
    have w1 : wrap64 (K + 1) = K + 1 := w64 (by omega) (by omega)
    clear hs hoki hM hgd hst hle hK hxj hx hH hR hKb HO
    go_upto_region 5 with (go_at_call 35; refine HT.out.mono ?_; rintro e w2 ⟨rfl, hb⟩; replace HH := Aside0.mk (Kd.H_below HH.out hb); replace HR := Aside0.mk (Kd.R_below HR.out hb); replace HB := Aside0.mk (HB.out.trans (hb.mono HB.out.size)); replace HK := Aside0.mk (HK.out.below hb); replace hg2 := Nat.lt_of_lt_of_le hg2 hb.size; have hc0 : w2.cell? ⟨g, j * 3, none⟩ = some (.string x.f0) := (H_at HH.out hlt).1 0 _ rfl; have hf0 : w2.frozen? ⟨g, j * 3, none⟩ = false := (H_at HH.out hlt).2 0; clear hb)
    clear hc0 hf0
    have hp : Kd.H KS TS (w2.setCell ⟨g, j * 3, none⟩ (.string s)) w0.heap.size (fun k_ => (P1_ k_ ∨ w.heap.size ≤ k_)) (.slice (some ⟨g, 0, none⟩) l.length cap) xs (j : Int) oki [.string s, .bool x.f1, vr] ∧ w2.grownBy (w2.setCell ⟨g, j * 3, none⟩ (.string s)) (some g) := H_put HH.out hlt 0 (.string s) (by decide) rfl rfl
    replace HR := Aside0.mk (Kd.R_grown HR.out hp.2 (fun q hq e => by injection e with e; exact (HI.out q hq).2 e))
    replace HH := Aside0.mk hp.1
    replace HB := Aside0.mk (HB.out.grown hp.2 HB.out.size (fun q e => by injection e with e; exact e ▸ hg1))
    replace HK := Aside0.mk (HK.out.of_grown hp.2 (fun q e => by injection e with e; exact e ▸ HNE.out.1))
    replace hg2 : g < (w2.setCell ⟨g, j * 3, none⟩ (.string s)).heap.size := Nat.lt_of_lt_of_le hg2 hp.2.size
    clear hp
    generalize w2.setCell ⟨g, j * 3, none⟩ (.string s) = W1 at HH HB HK HR hg2 ⊢
    have hc1 : W1.cell? ⟨g, j * 3 + 1, none⟩ = some (.bool x.f1) := (H_at HH.out hlt).1 1 _ rfl
    have hf1 : W1.frozen? ⟨g, j * 3 + 1, none⟩ = false := (H_at HH.out hlt).2 1
    have HQ : Aside0 (∀ b : Bool, Kd.R Kd.string 9 (W1.setCell ⟨g, j * 3 + 1, none⟩ (.bool b)) w0.heap.size oki vr x.f2 ∧ Kd.H KS TS (W1.setCell ⟨g, j * 3 + 1, none⟩ (.bool b)) w0.heap.size (fun k_ => (P1_ k_ ∨ w.heap.size ≤ k_)) (.slice (some ⟨g, 0, none⟩) l.length cap) xs (j : Int) oki [.string s, .bool b, vr] ∧ Below w0.heap.size w0 (W1.setCell ⟨g, j * 3 + 1, none⟩ (.bool b)) ∧ Kept w (W1.setCell ⟨g, j * 3 + 1, none⟩ (.bool b)) (fun k_ => P1_ k_)) := ⟨fun b => by
      have hp : Kd.H KS TS (W1.setCell ⟨g, j * 3 + 1, none⟩ (.bool b)) w0.heap.size (fun k_ => (P1_ k_ ∨ w.heap.size ≤ k_)) (.slice (some ⟨g, 0, none⟩) l.length cap) xs (j : Int) oki [.string s, .bool b, vr] ∧ W1.grownBy (W1.setCell ⟨g, j * 3 + 1, none⟩ (.bool b)) (some g) := H_put HH.out hlt 1 (.bool b) (by decide) rfl rfl
      exact ⟨Kd.R_grown HR.out hp.2 (fun q hq e => by injection e with e; exact (HI.out q hq).2 e), hp.1, HB.out.grown hp.2 HB.out.size (fun q e => by injection e with e; exact e ▸ hg1), HK.out.of_grown hp.2 (fun q e => by injection e with e; exact e ▸ HNE.out.1)⟩⟩
    have w2_ : wrap64 (K + 1 + 1) = K + 2 := by have h := HKB.out; rw [w64 (by omega) (by omega)]; omega
    go_upto_region 8 with (fail)
    clear hc1 hf1 HH HR HB HK
    generalize ((K + 1).tmod 3 == 0) = b
    obtain ⟨hR, hH, hB, hK⟩ := HQ.out b
    clear HQ
    replace hg2 : g < (W1.setCell ⟨g, j * 3 + 1, none⟩ (.bool b)).heap.size := Nat.lt_of_lt_of_le hg2 (set_grown W1 g (j * 3 + 1) (.bool b)).size
    generalize W1.setCell ⟨g, j * 3 + 1, none⟩ (.bool b) = W3 at hR hH hB hK hg2 ⊢
    have hc2 : W3.cell? ⟨g, j * 3 + 2, none⟩ = some vr := (H_at hH hlt).1 2 _ rfl
    have hkz : 0 ≤ K + 2 ∧ K + 2 + (x.f2.length : Int) ≤ 10000000000000000 ∧ K + 2 + (x.f2.length : Int) = k + (wtS (l.take (j + 1)) : Int) := by have := HKB.out; omega
    have HC := Aside0.mk (mark_strs oki vr x.f2 (K + 2) w0 W3 hB hR hkz.1 hkz.2.1)
    have HE := Aside0.mk hkz.2.2
    have HH := Aside0.mk hH
    have HK := Aside0.mk hK
    clear hkz hR hH hB hK
    simp only [w1, w2_]
    go_wp2_with (go_at_call 36; refine HC.out.mono ?_; rintro e w5 ⟨rfl, ⟨l', hl', hR⟩, hb, hkp⟩; have HR := Aside0.mk hR; have HB := Aside0.mk hb; have HKP := Aside0.mk hkp; clear hR hb hkp hc2 hl')
    have hw : w.heap.size ≤ W3.heap.size := HK.out.1
    replace HK := Aside0.mk (HK.out.then_ HKP.out (fun q hq => (HI.out q hq).1))
    have hH : Kd.H KS TS w5 w0.heap.size (fun k_ => (P1_ k_ ∨ w.heap.size ≤ k_)) (.slice (some ⟨g, 0, none⟩) l.length cap) xs (j : Int) (fun k => oki k ∨ (P1_ k ∨ w.heap.size ≤ k) ∧ W3.heap.size ≤ k) [.string s, .bool b, vr] := Kd.H_step (Kd.H_widen HH.out) (w1 := w5) (fun q ho hn hlt => HKP.out.2 q hlt (fun h => hn (.inl h)))
    have hQ := Kd.H_back hH (x' := (⟨s, b, l'⟩ : MSrc)) (okp := fun k => oki k ∨ W3.heap.size ≤ k) (k58_mkM _ _ _ (⟨s, b, l'⟩ : MSrc) HR.out) (fun q hq => hq.elim .inl (fun h => .inr ⟨.inr (Nat.le_trans hw h), h⟩))
    rw [Int.toNat_natCast] at hQ
    have HQ := Aside0.mk hQ
    clear hH hQ hw
    go_roundg (l.length - j)
    case measure => omega
    case rel => exact ⟨j + 1, xs.set j (⟨s, b, l'⟩ : MSrc), ⟨by omega, by omega⟩, by rw [HE.out], by go_num, ⟨by rw [List.length_set]; exact HX.out.1, drop_set _ HX2.out⟩, ⟨by first | exact HQ.out | exact Kd.S_drewN HQ.out _⟩, ⟨by first | exact HB.out | exact pw_below_drewN HB.out _⟩, ⟨by first | exact HK.out | exact HK.out.drewN _⟩⟩
end Go.Proofs.Ytmkhiaikfeoedaa.MarkK
