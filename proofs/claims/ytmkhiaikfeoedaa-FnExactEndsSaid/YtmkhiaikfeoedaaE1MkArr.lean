/- Marks laid on arrivals and on sources in memory, called: what is marked is told by its lengths alone. -/
import Derived.Test.YtmkhiaikfeoedaaE1MkKit
namespace Go.Proofs.Ytmkhiaikfeoedaa.MarkK
open Go.RowKit Go.Proofs.YtmkhiaikfeoedaaW.PrintWords Go.Proofs.YtmkhiaikfeoedaaW.PrintLast Go.Proofs.YtmkhiaikfeoedaaW.PrintMore Go.Proofs.Ytmkhiaikfeoedaa.QFnExactInputsOk Go.Proofs.Ytmkhiaikfeoedaa.EvKit
set_option linter.unusedSimpArgs false
set_option linter.unusedVariables false
abbrev KA := k54
abbrev TA : TypeId := 54
abbrev MArr := S54
abbrev zA : MArr := z54
def wtA : List MArr → Nat
  | [] => 0
  | a :: l => a.f1.length + 2 + wtA l
theorem wtA_split (l : List MArr) : ∀ j, wtA l = wtA (l.take j) + wtA (l.drop j) := by
  induction l with
  | nil => intro j; simp [wtA]
  | cons a l ih =>
    intro j
    cases j with
    | zero => simp [wtA]
    | succ j => show a.f1.length + 2 + wtA l = a.f1.length + 2 + wtA (l.take j) + wtA (l.drop j); rw [ih j]; omega
theorem wtA_step (l : List MArr) : ∀ (j : Nat) (h : j < l.length), wtA (l.take (j + 1)) = wtA (l.take j) + (l[j].f1.length + 2) := by
  induction l with
  | nil => intro j h; simp at h
  | cons a l ih =>
    intro j h
    cases j with
    | zero => simp [wtA]
    | succ j =>
      have h' : j < l.length := by simpa using h
      show a.f1.length + 2 + wtA (l.take (j + 1)) = a.f1.length + 2 + wtA (l.take j) + (l[j].f1.length + 2)
      rw [ih j h']; omega
theorem wtA_le (l : List MArr) (j : Nat) : wtA (l.take j) ≤ wtA l := by rw [wtA_split l j]; omega
theorem drop_at {α : Type} {xs l : List α} {j : Nat} (h : xs.drop j = l.drop j) (hx : j < xs.length) (hl : j < l.length) : xs[j] = l[j] ∧ xs.drop (j + 1) = l.drop (j + 1) := by
  rw [List.drop_eq_getElem_cons hx, List.drop_eq_getElem_cons hl] at h
  injection h with h1 h2
  exact ⟨h1, h2⟩
theorem drop_set {α : Type} {xs l : List α} {j : Nat} (x : α) (h : xs.drop (j + 1) = l.drop (j + 1)) : (xs.set j x).drop (j + 1) = l.drop (j + 1) := by
  rw [List.drop_set]
  simpa using h
set_option maxHeartbeats 1600000 in
set_option maxRecDepth 100000 in
theorem mark_arrs (P1_ : Nat → Prop) (u : Value) (l : List MArr) (k : Int) (w0 w : World) (hB : Below w0.heap.size w0 w) (ho : Kd.S KA TA w w0.heap.size P1_ u l) (hk : 0 ≤ k) (hl : k + wtA l ≤ 8000000000000000000) :
    Calls Try.prog 37 #[u, .int .i64 k] w fun e w' => e = .returned (.int .i64 (k + wtA l)) ∧ (∃ l', Kd.S KA TA w' w0.heap.size (fun k_ => (P1_ k_ ∨ w.heap.size ≤ k_)) u l') ∧ Below w0.heap.size w0 w' ∧ Kept w w' (fun k_ => P1_ k_) := by
  have HO := Aside0.mk (Kd.S_mono ho (ok' := fun k_ => (P1_ k_ ∨ w.heap.size ≤ k_)) (fun k hk => .inl hk))
  have HB := Aside0.mk hB
  have HK := Aside0.mk (Kept.refl w (fun k_ => P1_ k_))
  have HW := Aside0.mk hB.size
  have HL := Aside0.mk hl
  have HK0 := Aside0.mk hk
  have hlm : l.length ≤ 9223372036854775807 := by
    obtain ⟨A, c, rfl, _, hC⟩ := Kd.S_reads ho
    exact hC.2.1
  obtain ⟨A, cap, rfl⟩ := Kd.S_slice ho
  clear hB ho hl hk
  go_enter Try.func37, Try.ntmps37
  go_wp2
  go_loopg [1, 5] (l.length + 1) (fun kq v1 v5 wr => ∃ (j : Nat) (xs : List MArr), (j + kq = l.length + 1 ∧ j ≤ l.length) ∧ v1 = .int .i64 (k + wtA (l.take j)) ∧ v5 = .int .i64 (j : Int) ∧ Aside0 (xs.length = l.length ∧ xs.drop j = l.drop j) ∧ Aside0 (Kd.S KA TA wr w0.heap.size (fun k_ => (P1_ k_ ∨ w.heap.size ≤ k_)) (.slice A l.length cap) xs) ∧ Aside0 (Below w0.heap.size w0 wr) ∧ Aside0 (Kept w wr (fun k_ => P1_ k_)))
  case atStart => exact ⟨0, l, ⟨by omega, Nat.zero_le _⟩, by simp [wtA], rfl, ⟨rfl, rfl⟩, ⟨HO.out⟩, ⟨HB.out⟩, ⟨HK.out⟩⟩
  case round =>
    clear HO HB HK
    obtain ⟨j, xs, hj, rfl, rfl, HX, HO, HB, HK⟩ := hrel
    by_cases hlt : j < l.length
    case neg =>
      obtain rfl : j = l.length := by omega
      rw [List.take_length]
      go_wp2
      go_ret
      exact ⟨rfl, ⟨xs, by first | exact HO.out | exact Kd.S_drewN HO.out _⟩, by first | exact HB.out | exact pw_below_drewN HB.out _, by first | exact HK.out | exact HK.out.drewN _⟩
    obtain ⟨g, cp, hv, hg1, hg2, _⟩ := Kd.S_form HO.out (by rw [HX.out.1]; omega)
    rw [HX.out.1] at hv
    injection hv with hv1 _ hv3
    subst hv1 hv3
    obtain ⟨oki, c, _, hM, hoki, hH⟩ : ∃ (oki : Nat → Prop) (c : List Value), c.length = KA.sz ∧ KA.M wr w0.heap.size oki (xs.getD j zA) c ∧ (∀ k, oki k → (P1_ k ∨ w.heap.size ≤ k) ∧ k ≠ g) ∧ Kd.H KA TA wr w0.heap.size (fun k_ => (P1_ k_ ∨ w.heap.size ≤ k_)) (.slice (some ⟨g, 0, none⟩) l.length cap) xs (j : Int) oki c := by
      obtain ⟨oki, c, h1, h2, _, h4, h5⟩ := Kd.S_lend HO.out zA (j : Int) (by omega) (by omega)
      exact ⟨oki, c, h1, h2, h4, h5⟩
    have hxj := drop_at HX.out.2 (by rw [HX.out.1]; exact hlt) hlt
    have hgd : xs.getD j zA = l[j] := by rw [List.getD_eq_getElem?_getD, List.getElem?_eq_getElem (by rw [HX.out.1]; exact hlt)]; exact hxj.1
    rw [hgd] at hM
    obtain ⟨x, hx⟩ : ∃ x, x = l[j] := ⟨_, rfl⟩
    have hst := wtA_step l j hlt
    have hle := wtA_le l (j + 1)
    rw [← hx] at hM hst
    obtain ⟨vr, rfl, hR⟩ := k54_openM hM
    obtain ⟨K, hK⟩ : ∃ K, K = k + (wtA (l.take j) : Int) := ⟨_, rfl⟩
    have hKb : 0 ≤ K ∧ K + (x.f1.length + 2 : Nat) ≤ 8000000000000000000 ∧ k + (wtA (l.take (j + 1)) : Int) = K + (x.f1.length + 2 : Nat) := by
      have h1 := HL.out; have h2 := HK0.out; omega
    rw [← hK]
    have HKB := Aside0.mk hKb
    have HKE := Aside0.mk hK
    have HX2 := Aside0.mk hxj.2
    have HNE := Aside0.mk (H_ne hH)
    have HI := Aside0.mk hoki
    have hc0 : wr.cell? ⟨g, j * 3, none⟩ = some (.int .i64 x.f0) := (H_at hH hlt).1 0 _ rfl
    have hf0 : wr.frozen? ⟨g, j * 3, none⟩ = false := (H_at hH hlt).2 0
    have w1 : wrap64 (K + 1) = K + 1 := w64 (by omega) (by omega)
    have HH := Aside0.mk hH
    have HR := Aside0.mk hR
    clear hoki hM hgd hst hle hK hxj hx hH hR hKb HO
    go_upto_region 6 with (fail)
    clear hc0 hf0
    have hp : Kd.H KA TA (wr.setCell ⟨g, j * 3, none⟩ (.int .i64 K)) w0.heap.size (fun k_ => (P1_ k_ ∨ w.heap.size ≤ k_)) (.slice (some ⟨g, 0, none⟩) l.length cap) xs (j : Int) oki [.int .i64 K, vr, .bool x.f2] ∧ wr.grownBy (wr.setCell ⟨g, j * 3, none⟩ (.int .i64 K)) (some g) := H_put HH.out hlt 0 (.int .i64 K) (by decide) rfl rfl
    replace HR := Aside0.mk (Kd.R_grown HR.out hp.2 (fun q hq e => by injection e with e; exact (HI.out q hq).2 e))
    replace HH := Aside0.mk hp.1
    replace HB := Aside0.mk (HB.out.grown hp.2 HB.out.size (fun q e => by injection e with e; exact e ▸ hg1))
    replace HK := Aside0.mk (HK.out.of_grown hp.2 (fun q e => by injection e with e; exact e ▸ HNE.out.1))
    have hgs : g < (wr.setCell ⟨g, j * 3, none⟩ (.int .i64 K)).heap.size := Nat.lt_of_lt_of_le hg2 hp.2.size
    clear hp
    generalize wr.setCell ⟨g, j * 3, none⟩ (.int .i64 K) = W1 at HH HB HK HR hgs ⊢
    have hc1 : W1.cell? ⟨g, j * 3 + 1, none⟩ = some vr := (H_at HH.out hlt).1 1 _ rfl
    have hkz : 0 ≤ K + 1 ∧ K + 1 + (x.f1.length : Int) ≤ 9000000000000000000 := by have := HKB.out; omega
    have HC := Aside0.mk (mark_ints oki vr x.f1 (K + 1) w0 W1 HB.out HR.out hkz.1 hkz.2)
    clear hkz
    go_upto_region 7 with (go_at_call 17; refine HC.out.mono ?_; rintro e w5 ⟨rfl, hR, hb, hkp⟩; replace HR := Aside0.mk hR; replace HB := Aside0.mk hb; have HKP := Aside0.mk hkp; clear hR hb hkp hc1)
    have hw : w.heap.size ≤ W1.heap.size := HK.out.1
    have hgs5 : g < w5.heap.size := Nat.lt_of_lt_of_le hgs HKP.out.1
    replace HK := Aside0.mk (HK.out.then_ HKP.out (fun q hq => (HI.out q hq).1))
    have hH : Kd.H KA TA w5 w0.heap.size (fun k_ => (P1_ k_ ∨ w.heap.size ≤ k_)) (.slice (some ⟨g, 0, none⟩) l.length cap) xs (j : Int) (fun k => oki k ∨ (P1_ k ∨ w.heap.size ≤ k) ∧ W1.heap.size ≤ k) [.int .i64 K, vr, .bool x.f2] := Kd.H_step (Kd.H_widen HH.out) (w1 := w5) (fun q ho hn hlt => HKP.out.2 q hlt (fun h => hn (.inl h)))
    have HQ : Aside0 (∀ b : Bool, Kd.S KA TA (w5.setCell ⟨g, j * 3 + 2, none⟩ (.bool b)) w0.heap.size (fun k_ => (P1_ k_ ∨ w.heap.size ≤ k_)) (.slice (some ⟨g, 0, none⟩) l.length cap) (xs.set j ⟨K, mkI (K + 1) x.f1.length, b⟩) ∧ Below w0.heap.size w0 (w5.setCell ⟨g, j * 3 + 2, none⟩ (.bool b)) ∧ Kept w (w5.setCell ⟨g, j * 3 + 2, none⟩ (.bool b)) (fun k_ => P1_ k_)) := ⟨fun b => by
      have hp : Kd.H KA TA (w5.setCell ⟨g, j * 3 + 2, none⟩ (.bool b)) w0.heap.size (fun k_ => (P1_ k_ ∨ w.heap.size ≤ k_)) (.slice (some ⟨g, 0, none⟩) l.length cap) xs (j : Int) (fun k => oki k ∨ (P1_ k ∨ w.heap.size ≤ k) ∧ W1.heap.size ≤ k) [.int .i64 K, vr, .bool b] ∧ w5.grownBy (w5.setCell ⟨g, j * 3 + 2, none⟩ (.bool b)) (some g) := H_put hH hlt 2 (.bool b) (by decide) rfl rfl
      have hb := Kd.H_back hp.1 (x' := (⟨K, mkI (K + 1) x.f1.length, b⟩ : MArr)) (k54_mkM _ _ _ (⟨K, mkI (K + 1) x.f1.length, b⟩ : MArr) (Kd.R_grown HR.out hp.2 (fun q hq e => by
        injection e with e
        rcases hq with hq | hq
        · exact (HI.out q hq).2 e
        · omega))) (fun q hq => hq.elim .inl (fun h => .inr ⟨.inr (Nat.le_trans hw h), h⟩))
      rw [Int.toNat_natCast] at hb
      exact ⟨hb, HB.out.grown hp.2 HB.out.size (fun q e => by injection e with e; exact e ▸ hg1), HK.out.of_grown hp.2 (fun q e => by injection e with e; exact e ▸ HNE.out.1)⟩⟩
    have hc2 : w5.cell? ⟨g, j * 3 + 2, none⟩ = some (.bool x.f2) := (H_at hH hlt).1 2 _ rfl
    have hf2 : w5.frozen? ⟨g, j * 3 + 2, none⟩ = false := (H_at hH hlt).2 2
    have w2 : wrap64 (K + 1 + (x.f1.length : Int) + 1) = k + (wtA (l.take (j + 1)) : Int) := by
      have h := HKB.out
      rw [w64 (by omega) (by omega)]; omega
    clear hH hw hgs5 hgs w1
    go_wp2_with (fail)
    go_roundg (l.length - j)
    case measure => omega
    case rel => exact ⟨j + 1, xs.set j ⟨K, mkI (K + 1) x.f1.length, _⟩, ⟨by omega, by omega⟩, by rw [w2], by go_num, ⟨by rw [List.length_set]; exact HX.out.1, drop_set _ HX2.out⟩, ⟨by first | exact (HQ.out _).1 | exact Kd.S_drewN (HQ.out _).1 _⟩, ⟨by first | exact (HQ.out _).2.1 | exact pw_below_drewN (HQ.out _).2.1 _⟩, ⟨by first | exact (HQ.out _).2.2 | exact (HQ.out _).2.2.drewN _⟩⟩
abbrev KAA : Kd (List MArr) := rows TA KA
def wtAA : List (List MArr) → Nat
  | [] => 0
  | a :: l => wtA a + wtAA l
theorem wtAA_split (l : List (List MArr)) : ∀ j, wtAA l = wtAA (l.take j) + wtAA (l.drop j) := by
  induction l with
  | nil => intro j; simp [wtAA]
  | cons a l ih =>
    intro j
    cases j with
    | zero => simp [wtAA]
    | succ j => show wtA a + wtAA l = wtA a + wtAA (l.take j) + wtAA (l.drop j); rw [ih j]; omega
theorem wtAA_step (l : List (List MArr)) : ∀ (j : Nat) (h : j < l.length), wtAA (l.take (j + 1)) = wtAA (l.take j) + wtA l[j] := by
  induction l with
  | nil => intro j h; simp at h
  | cons a l ih =>
    intro j h
    cases j with
    | zero => simp [wtAA]
    | succ j =>
      have h' : j < l.length := by simpa using h
      show wtA a + wtAA (l.take (j + 1)) = wtA a + wtAA (l.take j) + wtA l[j]
      rw [ih j h']; omega
theorem wtAA_le (l : List (List MArr)) (j : Nat) : wtAA (l.take j) ≤ wtAA l := by rw [wtAA_split l j]; omega
set_option maxHeartbeats 1600000 in
set_option maxRecDepth 100000 in
theorem mark_arrss (P1_ : Nat → Prop) (u : Value) (l : List (List MArr)) (k : Int) (w0 w : World) (hB : Below w0.heap.size w0 w) (ho : Kd.S KAA 51 w w0.heap.size P1_ u l) (hk : 0 ≤ k) (hl : k + wtAA l ≤ 8000000000000000000) :
    Calls Try.prog 16 #[u, .int .i64 k] w fun e w' => e = .returned (.int .i64 (k + wtAA l)) ∧ Below w0.heap.size w0 w' ∧ Kept w w' (fun k_ => P1_ k_) := by
  have HO := Aside0.mk (Kd.S_mono ho (ok' := fun k_ => (P1_ k_ ∨ w.heap.size ≤ k_)) (fun k hk => .inl hk))
  have HB := Aside0.mk hB
  have HK := Aside0.mk (Kept.refl w (fun k_ => P1_ k_))
  have HW := Aside0.mk hB.size
  have HL := Aside0.mk hl
  have HK0 := Aside0.mk hk
  have hlm : l.length ≤ 9223372036854775807 := by
    obtain ⟨A, c, rfl, _, hC⟩ := Kd.S_reads ho
    exact hC.2.1
  obtain ⟨A, cap, rfl⟩ := Kd.S_slice ho
  clear hB ho hl hk
  go_enter Try.func16, Try.ntmps16
  go_wp2
  go_loopg [1, 5] (l.length + 1) (fun kq v1 v5 wr => ∃ (j : Nat) (xs : List (List MArr)), (j + kq = l.length + 1 ∧ j ≤ l.length) ∧ v1 = .int .i64 (k + wtAA (l.take j)) ∧ v5 = .int .i64 (j : Int) ∧ Aside0 (xs.length = l.length ∧ xs.drop j = l.drop j) ∧ Aside0 (Kd.S KAA 51 wr w0.heap.size (fun k_ => (P1_ k_ ∨ w.heap.size ≤ k_)) (.slice A l.length cap) xs) ∧ Aside0 (Below w0.heap.size w0 wr) ∧ Aside0 (Kept w wr (fun k_ => P1_ k_)))
  case atStart => exact ⟨0, l, ⟨by omega, Nat.zero_le _⟩, by simp [wtAA], rfl, ⟨rfl, rfl⟩, ⟨HO.out⟩, ⟨HB.out⟩, ⟨HK.out⟩⟩
  case round =>
    clear HO HB HK
    obtain ⟨j, xs, hj, rfl, rfl, HX, HO, HB, HK⟩ := hrel
    by_cases hlt : j < l.length
    case neg =>
      obtain rfl : j = l.length := by omega
      rw [List.take_length]
      go_wp2
      go_ret
      exact ⟨rfl, by first | exact HB.out | exact pw_below_drewN HB.out _, by first | exact HK.out | exact HK.out.drewN _⟩
    obtain ⟨g, cp, hv, hg1, hg2, _⟩ := Kd.S_form HO.out (by rw [HX.out.1]; omega)
    rw [HX.out.1] at hv
    injection hv with hv1 _ hv3
    subst hv1 hv3
    obtain ⟨oki, c, _, hM, hcc, hoki, hH⟩ := Kd.S_lend HO.out ([] : List MArr) (j : Int) (by omega) (by omega)
    have hxj := drop_at HX.out.2 (by rw [HX.out.1]; exact hlt) hlt
    have hgd : xs.getD (j : Int).toNat [] = l[j] := by rw [Int.toNat_natCast, List.getD_eq_getElem?_getD, List.getElem?_eq_getElem (by rw [HX.out.1]; exact hlt)]; exact hxj.1
    rw [hgd] at hM
    obtain ⟨x, hx⟩ : ∃ x, x = l[j] := ⟨_, rfl⟩
    have hst := wtAA_step l j hlt
    have hle := wtAA_le l (j + 1)
    rw [← hx] at hM hst
    obtain ⟨vr, rfl, hR⟩ := hM
    obtain ⟨K, hK⟩ : ∃ K, K = k + (wtAA (l.take j) : Int) := ⟨_, rfl⟩
    have hKb : 0 ≤ K ∧ K + (wtA x : Nat) ≤ 8000000000000000000 ∧ k + (wtAA (l.take (j + 1)) : Int) = K + (wtA x : Nat) := by
      have h1 := HL.out; have h2 := HK0.out; omega
    rw [← hK]
    have hc0 : wr.cell? ⟨g, j, none⟩ = some vr := by have h := (H_at hH hlt).1 0 vr rfl; rwa [show KAA.sz = 1 from rfl, Nat.mul_one, Nat.add_zero] at h
    have HKE := Aside0.mk hKb.2.2
    have HX2 := Aside0.mk hxj.2
    have HI := Aside0.mk hoki
    have HH := Aside0.mk hH
    have HC := Aside0.mk (mark_arrs oki vr x K w0 wr HB.out hR hKb.1 hKb.2.1)
    clear hoki hgd hst hle hK hxj hx hH hR hKb HO hcc
    go_wp2_with (go_at_call 37; refine HC.out.mono ?_; rintro e w5 ⟨rfl, ⟨l', hR⟩, hb, hkp⟩; have HR := Aside0.mk hR; replace HB := Aside0.mk hb; have HKP := Aside0.mk hkp; clear hR hb hkp hc0)
    have hw : w.heap.size ≤ wr.heap.size := HK.out.1
    replace HK := Aside0.mk (HK.out.then_ HKP.out (fun q hq => (HI.out q hq).1))
    have hH : Kd.H KAA 51 w5 w0.heap.size (fun k_ => (P1_ k_ ∨ w.heap.size ≤ k_)) (.slice (some ⟨g, 0, none⟩) l.length cap) xs (j : Int) (fun k => oki k ∨ (P1_ k ∨ w.heap.size ≤ k) ∧ wr.heap.size ≤ k) [vr] := Kd.H_step (Kd.H_widen HH.out) (w1 := w5) (fun q ho hn hlt => HKP.out.2 q hlt (fun h => hn (.inl h)))
    have hQ := Kd.H_back hH (x' := l') (okp := fun k => oki k ∨ wr.heap.size ≤ k) ⟨vr, rfl, HR.out⟩ (fun q hq => hq.elim .inl (fun h => .inr ⟨.inr (Nat.le_trans hw h), h⟩))
    rw [Int.toNat_natCast] at hQ
    have HQ := Aside0.mk hQ
    clear hH hQ hw
    go_roundg (l.length - j)
    case measure => omega
    case rel => exact ⟨j + 1, xs.set j l', ⟨by omega, by omega⟩, by rw [HKE.out], by go_num, ⟨by rw [List.length_set]; exact HX.out.1, drop_set _ HX2.out⟩, ⟨by first | exact HQ.out | exact Kd.S_drewN HQ.out _⟩, ⟨by first | exact HB.out | exact pw_below_drewN HB.out _⟩, ⟨by first | exact HK.out | exact HK.out.drewN _⟩⟩
end Go.Proofs.Ytmkhiaikfeoedaa.MarkK
