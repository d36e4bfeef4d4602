/- The state of Squeeze over zeros; its three closures, called. -/
import Derived.Test.YtkfacigicohfkaaL1LimPure
import Derived.Test.YtkfacigicohfkaaL1MapV
import Derived.Test.YtkfacigicohfkaaL1WKept
import Derived.Test.YtkfacigicohfkaaL1WApart
import Derived.Test.YtkfacigicohfkaaL1WWords
import Derived.BigQuiet
namespace Go.Proofs.Ytkfacigicohfkaa.LimK
open Go.RowKit Go.Proofs.YtkfacigicohfkaaW.PrintWords Go.Proofs.YtkfacigicohfkaaW.PrintLast Go.Proofs.YtkfacigicohfkaaW.PrintMore Go.Proofs.Ytkfacigicohfkaa.QLim Go.Proofs.Ytkfacigicohfkaa.EvKit Go.Proofs.Ytkfacigicohfkaa.MapKit
set_option linter.unusedSimpArgs false
set_option linter.unusedVariables false
abbrev KB := Kd.int .u8
abbrev KI := Kd.int .i64
theorem bel {w u v : World} (h : Below w.heap.size w u) (h2 : Below u.heap.size u v) : Below w.heap.size w v := h.trans (h2.mono h.size)
theorem bel_alloc (w : World) (o : Obj) : Below w.heap.size w (w.alloc o) := below_alloc (Below.refl _ _) o
theorem set_grown (W : World) (g j : Nat) (v : Value) : W.grownBy (W.setCell ⟨g, j, none⟩ v) (some g) :=
  ⟨rfl, rfl, rfl, by simp [World.setCell], fun i _ hi => Below.heap_setCell W ⟨g, j, none⟩ v i (fun h => hi (by rw [h]))⟩
def aheadL (n s : Nat) : List Int := (List.range n).map (fun (i : Nat) => if i < s ∧ i + 4 ≤ n then (i : Int) else 0)
def lastF (n s : Nat) : Lit → Option Value
  | .int .u32 x => if x = 0 ∧ min s (n - 3) ≠ 0 then some (.int .i64 ((min s (n - 3) : Nat) : Int)) else none
  | _ => none
theorem ahead_len (n s : Nat) : (aheadL n s).length = n := by simp [aheadL]
theorem ahead_zero (n : Nat) : aheadL n 0 = List.replicate n 0 := by
  apply List.ext_getElem
  · simp [aheadL]
  · intro i h1 h2; simp [aheadL]
theorem ahead_at {n s i : Nat} (h : i < s) (h4 : i + 4 ≤ n) : rd (aheadL n s) (i : Int) = (i : Int) := by
  have hi : i < n := by omega
  simp [rd, aheadL, hi, h, h4]
theorem ahead_step {n s : Nat} (h : s + 4 ≤ n) : (aheadL n s).set s (s : Int) = aheadL n (s + 1) := by
  apply List.ext_getElem
  · simp [aheadL]
  · intro i h1 h2
    rw [List.getElem_set]
    simp only [aheadL, List.getElem_map, List.getElem_range]
    by_cases e : s = i
    · subst e; rw [if_pos rfl, if_pos ⟨by omega, h⟩]
    · rw [if_neg e]
      by_cases h3 : i < s
      · by_cases h4 : i + 4 ≤ n
        · rw [if_pos ⟨h3, h4⟩, if_pos ⟨by omega, h4⟩]
        · rw [if_neg (fun h => h4 h.2), if_neg (fun h => h4 h.2)]
      · rw [if_neg (by omega), if_neg (by omega)]
theorem ahead_same {n s : Nat} (h : ¬ s + 4 ≤ n) : aheadL n s = aheadL n (s + 1) := by
  unfold aheadL
  apply List.map_congr_left
  intro i _
  by_cases h3 : i < s ∧ i + 4 ≤ n
  · rw [if_pos h3, if_pos ⟨by omega, h3.2⟩]
  · rw [if_neg h3, if_neg (by omega)]
theorem last_same {n s : Nat} (h : ¬ s + 4 ≤ n) : lastF n s = lastF n (s + 1) := by
  funext l
  unfold lastF
  rw [show min (s + 1) (n - 3) = min s (n - 3) by omega]
theorem last_get {n s : Nat} (h : s ≤ n - 3) : ((lastF n s) (.int .u32 0)).getD (.int .i64 0) = .int .i64 (s : Int) := by
  unfold lastF
  simp only [Nat.min_eq_left h, true_and]
  by_cases h0 : s = 0
  · subst h0; simp
  · rw [if_pos h0]; rfl
theorem last_put {n s : Nat} (h : s + 4 ≤ n) : lastF n (s + 1) (.int .u32 0) = some (.int .i64 ((s + 1 : Nat) : Int)) ∧ ∀ l, l ≠ .int .u32 0 → lastF n (s + 1) l = lastF n s l := by
  refine ⟨?_, fun l hl => ?_⟩
  · unfold lastF
    simp only [true_and]
    rw [if_pos (by omega), show min (s + 1) (n - 3) = s + 1 by omega]
  · unfold lastF
    cases l with
    | int q x =>
      cases q <;> try rfl
      have hx : x ≠ 0 := fun e => hl (by rw [e])
      simp [hx]
    | _ => rfl
theorem zeroI (w : World) : (zeroValue 3).run Try.prog w = .ok (.int .i64 0) w := by kernel_rfl
theorem keyU : keyOf Try.prog 52 (.int .u32 0) = some (.int .u32 0) := Maps.keyOf_int_mk Try.underlying52 (by decide)
structure Sq (w : World) (A : Option Addr) (c n b o m mb a ra ca k s f N : Nat) (W : World) (sv av mv fv : Nat) (v : Value) : Prop where
  io : w.heap.size ≤ b ∧ b < o ∧ o < mb ∧ mb < m ∧ m < ra ∧ ra < a ∧ a < k ∧ k < s ∧ s < f ∧ f < N ∧ 5 ≤ n ∧ n ≤ 4000 ∧ n ≤ ca
  bB : W.heap[b]? = some (.cells #[.slice A n c] 22 (0, 0))
  bO : W.heap[o]? = some (.cells #[v] 22 (0, 0))
  bM : W.heap[m]? = some (.cells #[.map (some mb)] 50 (0, 0))
  bA : W.heap[a]? = some (.cells #[.slice (some ⟨ra, 0, none⟩) n ca] 51 (0, 0))
  bK : W.heap[k]? = some (.cells #[.func (.func 21) #[] #[.pointer (some ⟨b, 0, none⟩)]] 53 (0, 0))
  bS : W.heap[s]? = some (.cells #[.int .i64 (sv : Int)] 3 (0, 0))
  bF : W.heap[f]? = some (.cells #[.int .i64 (fv : Int)] 3 (0, 0))
  hM : ∃ q, q ≤ mv ∧ MapV Try.prog 52 W mb q (lastF n mv)
  hA : KI.R 3 W w.heap.size (fun x => x = ra) (.slice (some ⟨ra, 0, none⟩) n ca) (aheadL n av)
  hB : Below w.heap.size w W
  hN : N ≤ W.heap.size
variable {w : World} {A : Option Addr} {c n b o m mb a ra ca k s f N : Nat} {W W1 : World} {sv av mv fv : Nat} {v : Value}
theorem Sq.grown (h : Sq w A c n b o m mb a ra ca k s f N W sv av mv fv v) {row : Option Nat} (hg : W.grownBy W1 row) (hr : ∀ x, row = some x → N ≤ x) (hb : Below w.heap.size w W1) : Sq w A c n b o m mb a ra ca k s f N W1 sv av mv fv v where
  io := h.io
  bB := blk_grown h.bB hg (fun e => by have := hr _ e.symm; have := h.io; omega)
  bO := blk_grown h.bO hg (fun e => by have := hr _ e.symm; have := h.io; omega)
  bM := blk_grown h.bM hg (fun e => by have := hr _ e.symm; have := h.io; omega)
  bA := blk_grown h.bA hg (fun e => by have := hr _ e.symm; have := h.io; omega)
  bK := blk_grown h.bK hg (fun e => by have := hr _ e.symm; have := h.io; omega)
  bS := blk_grown h.bS hg (fun e => by have := hr _ e.symm; have := h.io; omega)
  bF := blk_grown h.bF hg (fun e => by have := hr _ e.symm; have := h.io; omega)
  hM := by obtain ⟨q, hq, hm⟩ := h.hM; exact ⟨q, hq, hm.kept hg (fun e => by have := hr _ e.symm; have := h.io; omega)⟩
  hA := Kd.R_grown h.hA hg (fun x hx e => by have := hr _ e.symm; have := h.io; omega)
  hB := hb
  hN := Nat.le_trans h.hN hg.size
theorem Sq.below (h : Sq w A c n b o m mb a ra ca k s f N W sv av mv fv v) (hb : Below W.heap.size W W1) : Sq w A c n b o m mb a ra ca k s f N W1 sv av mv fv v := h.grown (row := none) ⟨hb.os, hb.tape, hb.output, hb.size, fun i hi _ => hb.block i hi⟩ (fun x e => by cases e) (bel h.hB hb)
theorem Sq.drewN (h : Sq w A c n b o m mb a ra ca k s f N W sv av mv fv v) (q : Nat) : Sq w A c n b o m mb a ra ca k s f N (W.drewN q) sv av mv fv v := h.below (pw_below_drewN (Below.refl _ _) q)
theorem Sq.setS (h : Sq w A c n b o m mb a ra ca k s f N W sv av mv fv v) (x : Nat) : Sq w A c n b o m mb a ra ca k s f N (W.setCell ⟨s, 0, none⟩ (.int .i64 (x : Int))) x av mv fv v where
  io := h.io
  bB := blk_far (p := ⟨s, 0, none⟩) h.bB (show b ≠ s from by have := h.io; omega) (.int .i64 (x : Int))
  bO := blk_far (p := ⟨s, 0, none⟩) h.bO (show o ≠ s from by have := h.io; omega) (.int .i64 (x : Int))
  bM := blk_far (p := ⟨s, 0, none⟩) h.bM (show m ≠ s from by have := h.io; omega) (.int .i64 (x : Int))
  bA := blk_far (p := ⟨s, 0, none⟩) h.bA (show a ≠ s from by have := h.io; omega) (.int .i64 (x : Int))
  bK := blk_far (p := ⟨s, 0, none⟩) h.bK (show k ≠ s from by have := h.io; omega) (.int .i64 (x : Int))
  bS := blk_put h.bS 0 (.int .i64 (x : Int)) (cs' := #[.int .i64 (x : Int)]) rfl
  bF := blk_far (p := ⟨s, 0, none⟩) h.bF (show f ≠ s from by have := h.io; omega) (.int .i64 (x : Int))
  hM := by obtain ⟨q, hq, hm⟩ := h.hM; exact ⟨q, hq, hm.kept (set_grown W s 0 (.int .i64 (x : Int))) (fun e => by injection e with e; have := h.io; omega)⟩
  hA := Kd.R_far (p := ⟨s, 0, none⟩) h.hA (fun x hx e => by have e2 : x = s := e; have := h.io; omega) (.int .i64 (x : Int))
  hB := below_set (j := 0) (v := .int .i64 (x : Int)) h.hB (show w.heap.size ≤ s from by have := h.io; omega)
  hN := Nat.le_trans h.hN (set_grown W s 0 (.int .i64 (x : Int))).size
theorem Sq.setF (h : Sq w A c n b o m mb a ra ca k s f N W sv av mv fv v) (x : Nat) : Sq w A c n b o m mb a ra ca k s f N (W.setCell ⟨f, 0, none⟩ (.int .i64 (x : Int))) sv av mv x v where
  io := h.io
  bB := blk_far (p := ⟨f, 0, none⟩) h.bB (show b ≠ f from by have := h.io; omega) (.int .i64 (x : Int))
  bO := blk_far (p := ⟨f, 0, none⟩) h.bO (show o ≠ f from by have := h.io; omega) (.int .i64 (x : Int))
  bM := blk_far (p := ⟨f, 0, none⟩) h.bM (show m ≠ f from by have := h.io; omega) (.int .i64 (x : Int))
  bA := blk_far (p := ⟨f, 0, none⟩) h.bA (show a ≠ f from by have := h.io; omega) (.int .i64 (x : Int))
  bK := blk_far (p := ⟨f, 0, none⟩) h.bK (show k ≠ f from by have := h.io; omega) (.int .i64 (x : Int))
  bS := blk_far (p := ⟨f, 0, none⟩) h.bS (show s ≠ f from by have := h.io; omega) (.int .i64 (x : Int))
  bF := blk_put h.bF 0 (.int .i64 (x : Int)) (cs' := #[.int .i64 (x : Int)]) rfl
  hM := by obtain ⟨q, hq, hm⟩ := h.hM; exact ⟨q, hq, hm.kept (set_grown W f 0 (.int .i64 (x : Int))) (fun e => by injection e with e; have := h.io; omega)⟩
  hA := Kd.R_far (p := ⟨f, 0, none⟩) h.hA (fun x hx e => by have e2 : x = f := e; have := h.io; omega) (.int .i64 (x : Int))
  hB := below_set (j := 0) (v := .int .i64 (x : Int)) h.hB (show w.heap.size ≤ f from by have := h.io; omega)
  hN := Nat.le_trans h.hN (set_grown W f 0 (.int .i64 (x : Int))).size
theorem Sq.setO (h : Sq w A c n b o m mb a ra ca k s f N W sv av mv fv v) (v' : Value) : Sq w A c n b o m mb a ra ca k s f N (W.setCell ⟨o, 0, none⟩ v') sv av mv fv v' where
  io := h.io
  bB := blk_far (p := ⟨o, 0, none⟩) h.bB (show b ≠ o from by have := h.io; omega) (v')
  bO := blk_put h.bO 0 (v') (cs' := #[v']) rfl
  bM := blk_far (p := ⟨o, 0, none⟩) h.bM (show m ≠ o from by have := h.io; omega) (v')
  bA := blk_far (p := ⟨o, 0, none⟩) h.bA (show a ≠ o from by have := h.io; omega) (v')
  bK := blk_far (p := ⟨o, 0, none⟩) h.bK (show k ≠ o from by have := h.io; omega) (v')
  bS := blk_far (p := ⟨o, 0, none⟩) h.bS (show s ≠ o from by have := h.io; omega) (v')
  bF := blk_far (p := ⟨o, 0, none⟩) h.bF (show f ≠ o from by have := h.io; omega) (v')
  hM := by obtain ⟨q, hq, hm⟩ := h.hM; exact ⟨q, hq, hm.kept (set_grown W o 0 (v')) (fun e => by injection e with e; have := h.io; omega)⟩
  hA := Kd.R_far (p := ⟨o, 0, none⟩) h.hA (fun x hx e => by have e2 : x = o := e; have := h.io; omega) (v')
  hB := below_set (j := 0) (v := v') h.hB (show w.heap.size ≤ o from by have := h.io; omega)
  hN := Nat.le_trans h.hN (set_grown W o 0 (v')).size
theorem Sq.mapped (h : Sq w A c n b o m mb a ra ca k s f N W sv av mv fv v) (hg : W.grownBy W1 (some mb)) {q : Nat} (hm : MapV Try.prog 52 W1 mb q (lastF n (mv + 1))) (hq : q ≤ mv + 1) : Sq w A c n b o m mb a ra ca k s f N W1 sv av (mv + 1) fv v where
  io := h.io
  bB := blk_grown h.bB hg (fun e => by injection e with e; have := h.io; omega)
  bO := blk_grown h.bO hg (fun e => by injection e with e; have := h.io; omega)
  bM := blk_grown h.bM hg (fun e => by injection e with e; have := h.io; omega)
  bA := blk_grown h.bA hg (fun e => by injection e with e; have := h.io; omega)
  bK := blk_grown h.bK hg (fun e => by injection e with e; have := h.io; omega)
  bS := blk_grown h.bS hg (fun e => by injection e with e; have := h.io; omega)
  bF := blk_grown h.bF hg (fun e => by injection e with e; have := h.io; omega)
  hM := ⟨q, hq, hm⟩
  hA := Kd.R_grown h.hA hg (fun x hx e => by injection e with e; have := h.io; omega)
  hB := h.hB.grown hg h.hB.size (fun x e => by injection e with e; have := h.io; omega)
  hN := Nat.le_trans h.hN hg.size
theorem Sq.setA (h : Sq w A c n b o m mb a ra ca k s f N W sv av mv fv v) (i : Nat) (x : Int) (hx : (aheadL n av).set i x = aheadL n (av + 1)) : Sq w A c n b o m mb a ra ca k s f N (W.setCell ⟨ra, i, none⟩ (.int .i64 x)) sv (av + 1) mv fv v := by
  have hA := h.hA
  have hl : (Value.slice (some ⟨ra, 0, none⟩) n ca) = .slice (some ⟨ra, 0, none⟩) (aheadL n av).length ca := by rw [ahead_len]
  rw [hl] at hA
  obtain ⟨h1, hg⟩ := Kd.R_put (enc := Value.int .i64) (h1 := fun _ => rfl) hA (i : Int) x
  rw [Int.toNat_natCast, hx, ahead_len] at h1
  rw [Int.toNat_natCast] at hg
  exact {
    io := h.io
    bB := blk_grown h.bB hg (fun e => by injection e with e; have := h.io; omega)
    bO := blk_grown h.bO hg (fun e => by injection e with e; have := h.io; omega)
    bM := blk_grown h.bM hg (fun e => by injection e with e; have := h.io; omega)
    bA := blk_grown h.bA hg (fun e => by injection e with e; have := h.io; omega)
    bK := blk_grown h.bK hg (fun e => by injection e with e; have := h.io; omega)
    bS := blk_grown h.bS hg (fun e => by injection e with e; have := h.io; omega)
    bF := blk_grown h.bF hg (fun e => by injection e with e; have := h.io; omega)
    hM := by obtain ⟨q, hq, hm⟩ := h.hM; exact ⟨q, hq, hm.kept hg (fun e => by injection e with e; have := h.io; omega)⟩
    hA := h1
    hB := h.hB.grown hg h.hB.size (fun x e => by injection e with e; have := h.io; omega)
    hN := Nat.le_trans h.hN hg.size }
theorem Sq.idle (h : Sq w A c n b o m mb a ra ca k s f N W sv sv sv fv v) (hn : ¬ sv + 4 ≤ n) : Sq w A c n b o m mb a ra ca k s f N W sv (sv + 1) (sv + 1) fv v where
  io := h.io
  bB := h.bB
  bO := h.bO
  bM := h.bM
  bA := h.bA
  bK := h.bK
  bS := h.bS
  bF := h.bF
  hM := by obtain ⟨q, hq, hm⟩ := h.hM; rw [last_same hn] at hm; exact ⟨q, Nat.le_succ_of_le hq, hm⟩
  hA := by have := h.hA; rw [ahead_same hn] at this; exact this
  hB := h.hB
  hN := h.hN
theorem at_zs {W : World} {A : Option Addr} {n : Nat} (h : KB.C W A n (zs n)) (i : Nat) (hi : i < n) : ∃ ad, A = some ad ∧ W.cell? (ad.add i) = some (.int .u8 0) := by
  obtain ⟨ad, e, hc⟩ := Kd.at_int h (i : Int) (by omega) (by omega)
  rw [rd_zs (by omega) (by omega), Int.toNat_natCast] at hc
  exact ⟨ad, e, hc⟩
set_option maxHeartbeats 800000 in
set_option maxRecDepth 100000 in
theorem key_call (hC : KB.C w A n (zs n)) (h : Sq w A c n b o m mb a ra ca k s f N W sv av mv fv v) (i : Nat) (hi : i + 4 ≤ n) :
    Calls Try.prog 21 #[.int .i64 (i : Int), .pointer (some ⟨b, 0, none⟩)] W fun e w' => e = .returned (.int .u32 0) ∧ ∃ q, w' = W.drewN q := by
  have hn := h.io
  have hCW := Kd.C_below hC h.hB
  have hb : W.cell? ⟨b, 0, none⟩ = some (.slice A n c) := (blk_cell h.bB 0).trans rfl
  obtain ⟨i1, hi1⟩ : ∃ x, x = i + 1 := ⟨_, rfl⟩
  obtain ⟨i2, hi2⟩ : ∃ x, x = i + 2 := ⟨_, rfl⟩
  obtain ⟨i3, hi3⟩ : ∃ x, x = i + 3 := ⟨_, rfl⟩
  obtain ⟨ad, rfl, e0⟩ := at_zs hCW i (by omega)
  obtain ⟨_, e, e1⟩ := at_zs hCW i1 (by omega)
  cases e
  obtain ⟨_, e, e2⟩ := at_zs hCW i2 (by omega)
  cases e
  obtain ⟨_, e, e3⟩ := at_zs hCW i3 (by omega)
  cases e
  have c0 : (i : Int) < (n : Int) := by omega
  have c1 : (i1 : Int) < (n : Int) := by omega
  have c2 : (i2 : Int) < (n : Int) := by omega
  have c3 : (i3 : Int) < (n : Int) := by omega
  have q0 : i ≤ 1000000 := by omega
  have x1 : IntKind.i64.wrap ((i : Int) + 1) = (i1 : Int) := by rw [hi1]; exact (i64_w _).trans (wA q0)
  have x2 : IntKind.i64.wrap ((i : Int) + 2) = (i2 : Int) := by rw [hi2]; exact (i64_w _).trans (wA2 q0)
  have x3 : IntKind.i64.wrap ((i : Int) + 3) = (i3 : Int) := by rw [hi3]; exact (i64_w _).trans (wA3 q0)
  clear h hC hCW hi hn hi1 hi2 hi3 q0
  go_enter Try.func21, Try.ntmps21
  go_wp2
  go_quiet (fail)
  go_wp2
  go_ret
  exact ⟨rfl, nq, rfl⟩
set_option maxHeartbeats 1600000 in
set_option maxRecDepth 100000 in
theorem see_call (hC : KB.C w A n (zs n)) (out : List Int) (h : Sq w A c n b o m mb a ra ca k s f N W sv sv sv fv v) (til : Nat) (ht : sv ≤ til ∧ til ≤ n) (hO : KB.R 5 W w.heap.size (fun x => N ≤ x) v out) :
    Calls Try.prog 22 #[.int .i64 (til : Int), .pointer (some ⟨s, 0, none⟩), .pointer (some ⟨b, 0, none⟩), .pointer (some ⟨k, 0, none⟩), .pointer (some ⟨m, 0, none⟩), .pointer (some ⟨a, 0, none⟩)] W fun e w' => e = .returned (.tuple #[]) ∧ Sq w A c n b o m mb a ra ca k s f N w' til til til fv v ∧ KB.R 5 w' w.heap.size (fun x => N ≤ x) v out := by
  have H := Aside0.mk h
  have HO := Aside0.mk hO
  have HC := Aside0.mk hC
  have HT := Aside0.mk ht
  clear h hO hC ht
  go_enter Try.func22, Try.ntmps22
  go_wp2
  go_loopg [7] (til + 1) (fun kq v7 wr => ∃ (x : Nat), Aside0 (til + 1 ≤ x + kq ∧ sv ≤ x ∧ x ≤ til) ∧ Aside0 (Sq w A c n b o m mb a ra ca k s f N wr x x x fv v) ∧ Aside0 (KB.R 5 wr w.heap.size (fun x => N ≤ x) v out))
  case atStart => exact ⟨sv, ⟨by have := HT.out; omega⟩, ⟨by first | exact H.out | exact H.out.drewN _⟩, ⟨by first | exact HO.out | exact Kd.R_drewN HO.out _⟩⟩
  case round =>
    clear H HO
    obtain ⟨x, HX, H, HO⟩ := hrel
    have hs0 : wr.cell? ⟨s, 0, none⟩ = some (.int .i64 (x : Int)) := (blk_cell H.out.bS 0).trans rfl
    have hsf := blk_frozen H.out.bS 0
    have hb0 : wr.cell? ⟨b, 0, none⟩ = some (.slice A n c) := (blk_cell H.out.bB 0).trans rfl
    have hk0 : wr.cell? ⟨k, 0, none⟩ = some (.func (.func 21) #[] #[.pointer (some ⟨b, 0, none⟩)]) := (blk_cell H.out.bK 0).trans rfl
    obtain ⟨x1, hx1⟩ : ∃ y, y = x + 1 := ⟨_, rfl⟩
    obtain ⟨x4, hx4⟩ : ∃ y, y = x + 4 := ⟨_, rfl⟩
    by_cases hlt : x < til
    case neg =>
      obtain rfl : x = til := by have := HX.out; omega
      clear hx1 hx4
      go_wp2
      go_end0
      exact ⟨rfl, by first | exact H.out | exact H.out.drewN _, by first | exact HO.out | exact Kd.R_drewN HO.out _⟩
    have hlt' : (x : Int) < (til : Int) := by omega
    have HSM : Aside0 (x ≤ 1000000 ∧ til - x < gk ∧ til + 1 ≤ x1 + (til - x) ∧ sv ≤ x1 ∧ x1 ≤ til) := ⟨by have h1 := HX.out; have h2 := H.out.io; have h3 := HT.out; omega⟩
    have hw1 : wrap64 ((x : Int) + 1) = (x1 : Int) := by rw [hx1]; exact wA HSM.out.1
    have hw4 : wrap64 ((x : Int) + 4) = (x4 : Int) := by rw [hx4]; exact wA4 HSM.out.1
    have HX1 := Aside0.mk hx1
    have HX4 := Aside0.mk hx4
    clear hx1 hx4
    by_cases h4 : x + 4 ≤ n
    case neg =>
      have h4' : ¬ (x4 : Int) ≤ (n : Int) := by rw [HX4.out]; omega
      have HD := Aside0.mk ((H.out.idle h4).setS x1)
      rw [← HX1.out] at HD
      replace HO := Aside0.mk (Kd.R_far (p := ⟨s, 0, none⟩) HO.out (fun y hy (e : y = s) => by have := H.out.io; omega) (.int .i64 (x1 : Int)))
      clear H h4
      go_wp2_with (fail)
      go_roundg (til - x)
      case measure => exact HSM.out.2.1
      case rel => exact ⟨x1, ⟨HSM.out.2.2⟩, HD, HO⟩
    have h4' : (x4 : Int) ≤ (n : Int) := by rw [HX4.out]; omega
    have H4 := Aside0.mk h4
    clear h4
    go_upto_region 4 with (go_at_call 21; refine (key_call HC.out H.out x H4.out).mono ?_; rintro e w5 ⟨rfl, hq⟩; have hb : Below wr.heap.size wr w5 := (by obtain ⟨q, rfl⟩ := hq; exact pw_below_drewN (Below.refl _ _) q); replace H := Aside0.mk (H.out.below hb); replace HO := Aside0.mk (Kd.R_below HO.out hb); clear hq hb hs0 hsf hb0 hk0)
    have hs0 : w5.cell? ⟨s, 0, none⟩ = some (.int .i64 (x : Int)) := (blk_cell H.out.bS 0).trans rfl
    have hm0 : w5.cell? ⟨m, 0, none⟩ = some (.map (some mb)) := (blk_cell H.out.bM 0).trans rfl
    have ha0 : w5.cell? ⟨a, 0, none⟩ = some (.slice (some ⟨ra, 0, none⟩) n ca) := (blk_cell H.out.bA 0).trans rfl
    have hlk : (Instr.lookup 50 (.map (some mb)) (.int .u32 0) false).run Try.prog w5 = .ok (.int .i64 (x : Int)) w5 := by
      obtain ⟨q, hq, hm⟩ := H.out.hM
      exact hm.look1 (Maps.int_keyed Try.underlying52) Try.underlying50 (zeroI _) keyU (last_get (by have := H4.out; omega))
    have hra : w5.cell? ⟨ra, x, none⟩ = some (.int .i64 (rd (aheadL n x) (x : Int))) ∧ w5.frozen? ⟨ra, x, none⟩ = false := by
      have h1 := H.out.hA
      rw [show (Value.slice (some ⟨ra, 0, none⟩) n ca) = .slice (some ⟨ra, 0, none⟩) (aheadL n x).length ca by rw [ahead_len]] at h1
      have h2 := Kd.R_cell (enc := Value.int .i64) (h1 := fun _ => rfl) 0 h1 (x : Int) (by omega) (by rw [ahead_len]; have := H4.out; omega)
      rw [Int.toNat_natCast] at h2
      exact ⟨h2.1, h2.2⟩
    obtain ⟨hra0, hraf⟩ := hra
    have hxn : (x : Int) < (n : Int) := by have := H4.out; omega
    go_upto_region 5 with (fail)
    have HG := Aside0.mk (H.out.setA x (x : Int) (ahead_step H4.out))
    replace HO := Aside0.mk (Kd.R_far (p := ⟨ra, x, none⟩) HO.out (fun y hy (e : y = ra) => by have := H.out.io; omega) (.int .i64 (x : Int)))
    clear H hs0 hm0 ha0 hlk hra0 hraf hxn
    generalize w5.setCell ⟨ra, x, none⟩ (.int .i64 (x : Int)) = W6 at HG HO ⊢
    have hs0 : W6.cell? ⟨s, 0, none⟩ = some (.int .i64 (x : Int)) := (blk_cell HG.out.bS 0).trans rfl
    have hm0 : W6.cell? ⟨m, 0, none⟩ = some (.map (some mb)) := (blk_cell HG.out.bM 0).trans rfl
    obtain ⟨q, hq, hm⟩ := HG.out.hM
    have HM := Aside0.mk hm
    have HQ : Aside0 (q < maxLen ∧ q + 1 ≤ x + 1) := ⟨by have h1 := HSM.out.1; unfold maxLen; omega⟩
    have HLP := Aside0.mk (last_put H4.out)
    rw [← HX1.out] at HLP
    clear hq hm
    go_wp2_with (at_mapUpdate; refine MapV.store HM.out (Maps.int_keyed Try.underlying52) Try.underlying50 HQ.out.1 keyU rfl (.tmp 27) (.tmp 28) (.tmp 30) rfl rfl rfl (show Value.int .i64 (wrap64 ((x : Int) + 1)) = .int .i64 (x1 : Int) by rw [hw1]) (g := lastF n x1) HLP.out.1 (fun l _ h => HLP.out.2 l h) ?_; intro w9 hm9 hg9; rw [HX1.out] at hm9; have HD := Aside0.mk (HG.out.mapped hg9 hm9 HQ.out.2); replace HO := Aside0.mk (Kd.R_grown HO.out hg9 (fun y hy e => by injection e with e; have := HG.out.io; omega)); clear hm9 hg9 hs0 hm0 HM; have hs0 : w9.cell? ⟨s, 0, none⟩ = some (.int .i64 (x : Int)) := (blk_cell HD.out.bS 0).trans rfl; have hsf := blk_frozen HD.out.bS 0)
    have HE := Aside0.mk (HD.out.setS x1)
    rw [← HX1.out] at HE
    replace HO := Aside0.mk (Kd.R_far (p := ⟨s, 0, none⟩) HO.out (fun y hy (e : y = s) => by have := HD.out.io; omega) (.int .i64 (x1 : Int)))
    go_roundg (til - x)
    case measure => exact HSM.out.2.1
    case rel => exact ⟨x1, ⟨HSM.out.2.2⟩, HE, HO⟩
def plO (out : List Int) (f t : Nat) : List Int := if f < t then out ++ ((t - f - 1 : Nat) : Int) :: zs (t - f) else out
theorem zs_mid (n lo hi : Nat) (h : hi ≤ n) : ((zs n).take hi).drop lo = zs (hi - lo) := by
  unfold zs
  rw [List.take_replicate, List.drop_replicate, Nat.min_eq_left h]
set_option maxHeartbeats 1600000 in
set_option maxRecDepth 100000 in
theorem plain_call (hC : KB.C w A n (zs n)) (hnc : n ≤ c) (out : List Int) (h : Sq w A c n b o m mb a ra ca k s f N W sv av mv fv v) (til : Nat) (ht : fv ≤ til ∧ til ≤ n ∧ til - fv ≤ 100) (hl : out.length ≤ 100000) (hO : KB.R 5 W w.heap.size (fun x => N ≤ x) v out) :
    Calls Try.prog 23 #[.int .i64 (til : Int), .pointer (some ⟨f, 0, none⟩), .pointer (some ⟨o, 0, none⟩), .pointer (some ⟨b, 0, none⟩)] W fun e w' => e = .returned (.tuple #[]) ∧ ∃ v', Sq w A c n b o m mb a ra ca k s f N w' sv av mv til v' ∧ KB.R 5 w' w.heap.size (fun x => N ≤ x) v' (plO out fv til) := by
  have H := Aside0.mk h
  have HO := Aside0.mk hO
  have HC := Aside0.mk hC
  have HT := Aside0.mk ht
  have HNC := Aside0.mk hnc
  have HLL := Aside0.mk hl
  clear h hO hC ht hnc hl
  go_enter Try.func23, Try.ntmps23
  by_cases h0 : fv < til
  case neg =>
    obtain rfl : fv = til := by have := HT.out; omega
    have HP : Aside0 (plO out fv fv = out) := ⟨by unfold plO; rw [if_neg (by omega)]⟩
    have hf0 : W.cell? ⟨f, 0, none⟩ = some (.int .i64 (fv : Int)) := (blk_cell H.out.bF 0).trans rfl
    go_wp2
    go_loopg [5] 1 (fun kq v5 wr => ∃ q, wr = W.drewN q)
    case atStart => first | exact ⟨0, rfl⟩ | exact ⟨_, rfl⟩
    case round =>
      obtain ⟨q, rfl⟩ := hrel
      go_wp2
      go_end0
      rw [HP.out]
      exact ⟨rfl, v, by first | exact H.out.drewN _ | exact (H.out.drewN _).drewN _, by first | exact Kd.R_drewN HO.out _ | exact Kd.R_drewN (Kd.R_drewN HO.out _) _⟩
  obtain ⟨d, hd⟩ : ∃ d, til = fv + d := ⟨til - fv, by omega⟩
  have HTD := Aside0.mk hd
  have HD : Aside0 (1 ≤ d ∧ d ≤ 100 ∧ til ≤ n) := ⟨by have := HT.out; omega⟩
  have HP : Aside0 (plO out fv til = (out ++ [((d - 1 : Nat) : Int)]) ++ zs d) := ⟨by unfold plO; rw [if_pos h0, hd, Nat.add_sub_cancel_left]; simp⟩
  clear HT h0 hd
  go_wp2
  go_loopg [5] 2 (fun kq v5 wr => ∃ (fx : Nat) (vx : Value) (ox : List Int), Aside0 ((fx = fv ∧ ox = out ∧ kq = 2) ∨ (fx = til ∧ ox = plO out fv til ∧ kq = 1)) ∧ Aside0 (Sq w A c n b o m mb a ra ca k s f N wr sv av mv fx vx) ∧ Aside0 (KB.R 5 wr w.heap.size (fun x => N ≤ x) vx ox))
  case atStart => exact ⟨fv, v, out, ⟨.inl ⟨rfl, rfl, rfl⟩⟩, ⟨by first | exact H.out | exact H.out.drewN _⟩, ⟨by first | exact HO.out | exact Kd.R_drewN HO.out _⟩⟩
  case round =>
    clear H HO
    obtain ⟨fx, vx, ox, HX, H, HO⟩ := hrel
    have hf0 : wr.cell? ⟨f, 0, none⟩ = some (.int .i64 (fx : Int)) := (blk_cell H.out.bF 0).trans rfl
    rcases HX.out with ⟨rfl, rfl, hk⟩ | ⟨rfl, rfl, hk⟩
    case inr =>
      clear HX
      go_wp2
      go_end0
      exact ⟨rfl, vx, by first | exact H.out | exact H.out.drewN _, by first | exact HO.out | exact Kd.R_drewN HO.out _⟩
    have HK := Aside0.mk hk
    have ho0 : wr.cell? ⟨o, 0, none⟩ = some vx := (blk_cell H.out.bO 0).trans rfl
    have hof := blk_frozen H.out.bO 0
    have hlt : (fx : Int) < (til : Int) := by have h1 := HD.out; have h2 := HTD.out; omega
    obtain ⟨d1, hd2⟩ : ∃ y, y = d - 1 := ⟨_, rfl⟩
    have HP3 : Aside0 (plO ox fx til = (ox ++ [(d1 : Int)]) ++ zs d) := ⟨by rw [HP.out, hd2]⟩
    have HLX : Aside0 (ox.length + 1 + d ≤ 200000) := ⟨by have h1 := HLL.out; have h2 := HD.out; omega⟩
    have hu8 : (d1 : Int) % 256 = (d1 : Int) := Int.emod_eq_of_lt (by omega) (by have := HD.out; omega)
    have hmin : min (d : Int) 128 = (d : Int) := by have := HD.out; omega
    have HS : Aside0 (til ≤ 1000000 ∧ d ≤ 1000000 ∧ 1 ≤ d ∧ fx ≤ til ∧ fx + d ≤ 1000000 ∧ til - fx = d ∧ til = fx + d) := ⟨by have h1 := HD.out; have h2 := H.out.io; have h3 := HTD.out; omega⟩
    have hw0 : wrap64 ((til : Int) - (fx : Int)) = (d : Int) := by rw [wS HS.out.2.2.2.1 HS.out.1, HS.out.2.2.2.2.2.1]
    have hw1 : wrap64 ((d : Int) - 1) = (d1 : Int) := by rw [hd2]; exact wS (b := 1) HS.out.2.2.1 HS.out.2.1
    have hw2 : wrap64 ((fx : Int) + (d : Int)) = (til : Int) := by rw [wB HS.out.2.2.2.2.1, ← HS.out.2.2.2.2.2.2]
    clear hd2 hk
    go_upto_region 2 with (fail)
    clear hmin
    obtain ⟨ox2, hox2⟩ : ∃ y, y = ox ++ [(d1 : Int)] := ⟨_, rfl⟩
    have HO2 := Aside0.mk hox2
    clear hox2
    go_upto_region 3 with ((with_reducible refine gate_builtin (b := .append) (xs := #[.tmp 13, .tmp 17]) rfl ?_); at_builtin; refine Kd.R_append KB (w0 := w) w.heap.size rfl (.tmp 13) (.tmp 17) 22 5 (.int .u8 0) 1 rfl Try.underlying22 info5 rfl (by decide) (by omega) vx ox (d1 : Int) [.int .u8 (d1 : Int)] (fun x => N ≤ x) (fun _ => False) rfl ?aX ?aP (fun _ hk => hk.elim) ?aF ?aO ?aB ?aS ?aL ?_; (case aX => rfl); (case aP => exact rfl); (case aF => exact (fun k hk => Nat.le_trans H.out.hN hk)); (case aO => exact (by (with_reducible repeat (first | apply Kd.R_alloc | apply Kd.R_drewN | apply Kd.R_drew)); exact HO.out)); (case aB => exact (by repeat (first | (with_reducible exact H.out.hB) | apply below_alloc | apply pw_below_drewN))); (case aS => exact H.out.hB.size); (case aL => have h1 := HLX.out; omega); intro v7 w9 ho hb hg hat; rw [← HO2.out] at ho; obtain ⟨A7, c7, rfl⟩ := Kd.R_slice ho; have HG := Aside0.mk (H.out.grown hg (fun x hx => HO.out.1 x hx) hb); replace HO := Aside0.mk ho; clear ho hb hg hat ho0 hof hf0 H; have ho0 : w9.cell? ⟨o, 0, none⟩ = some vx := (blk_cell HG.out.bO 0).trans rfl; have hof := blk_frozen HG.out.bO 0)
    have H := Aside0.mk (HG.out.setO (.slice A7 ox2.length c7))
    replace HO := Aside0.mk (Kd.R_far (p := ⟨o, 0, none⟩) HO.out (fun y hy (e : y = o) => by have := HG.out.io; omega) (.slice A7 ox2.length c7))
    clear HG ho0 hof
    generalize w9.setCell ⟨o, 0, none⟩ (.slice A7 ox2.length c7) = W5 at H HO ⊢
    obtain ⟨i0, hi0, hzz⟩ := Option.map_eq_some_iff.1 info5
    simp only [Prod.mk.injEq] at hzz
    have hcut := cut_mid (P := Try.prog) 22 5 .i64 .i64 Try.underlying22 hi0 1 hzz.2.1 A n c (fx : Int) (til : Int) (by omega) (by omega) (by have := HD.out; omega) HNC.out
    have HCM : Aside0 (KB.C w (if c = fx then A else A.map (·.add (fx * 1))) d (zs d)) := ⟨by
      have h1 := Kd.C_mid (lo := fx) (hi := til) (c := c) (show KB.C w A (zs n).length (zs n) by rw [zs_len]; exact HC.out) HS.out.2.2.2.1 (by rw [zs_len]; exact HD.out.2.2) (by rw [zs_len]; exact HNC.out)
      rw [zs_mid n fx til HD.out.2.2, HS.out.2.2.2.2.2.1, zs_len] at h1
      exact h1⟩
    simp only [Int.toNat_natCast, HS.out.2.2.2.2.2.1] at hcut
    obtain ⟨A2, hA2⟩ : ∃ y, y = (if c = fx then A else A.map (·.add (fx * 1))) := ⟨_, rfl⟩
    obtain ⟨c2, hc2⟩ : ∃ y, y = c - fx := ⟨_, rfl⟩
    rw [← hA2] at HCM
    simp only [← hA2, ← hc2] at hcut
    clear hA2 hc2 hzz hi0
    refine start_ (n := 9) (S := fun w' => w'.cell? ⟨o, 0, none⟩ = some (.slice A7 ox2.length c7) ∧ w'.cell? ⟨b, 0, none⟩ = some (.slice A n c) ∧ w'.cell? ⟨f, 0, none⟩ = some (.int .i64 (fx : Int))) (ds := [8]) #[false, false, false, false, false, false, false, false, false] (by kernel_rfl) rfl rfl ⟨(blk_cell H.out.bO 0).trans rfl, (blk_cell H.out.bB 0).trans rfl, (blk_cell H.out.bF 0).trans rfl⟩ (fun hHeld => ?_)
    have hb : Below W5.heap.size W5 W5.drew := below_drew (Below.refl _ _)
    replace H := Aside0.mk (H.out.below hb)
    replace HO := Aside0.mk (Kd.R_below HO.out hb)
    clear hb
    generalize W5.drew = W6 at H HO hHeld ⊢
    refine take_ (i := 0) (N := some 19) (v := ?_) (a' := ?_) #[true, false, false, false, false, false, false, false, false] rfl rfl (by kernel_rfl) (fun _ _ _ h => h) (Or.inl ⟨by rfl, ?_⟩) hHeld ?_ ?_
    rotate_left
    · rintro w' ⟨s0, s1, s2⟩
      go_simp
      with_reducible rfl
    rotate_left
    · simp only [Act.put, sT_, s0_, sS_, i64_w, i32_w]
      rfl
    refine take_ (i := 1) (N := some 20) (v := ?_) (a' := ?_) #[true, true, false, false, false, false, false, false, false] rfl rfl (by kernel_rfl) (fun _ _ _ h => h) (Or.inl ⟨by rfl, ?_⟩) hHeld ?_ ?_
    rotate_left
    · rintro w' ⟨s0, s1, s2⟩
      go_simp
      with_reducible rfl
    rotate_left
    · simp only [Act.put, sT_, s0_, sS_, i64_w, i32_w]
      rfl
    refine take_ (i := 2) (N := some 21) (v := ?_) (a' := ?_) #[true, true, true, false, false, false, false, false, false] rfl rfl (by kernel_rfl) (fun _ _ _ h => h) (Or.inl ⟨by rfl, ?_⟩) hHeld ?_ ?_
    rotate_left
    · rintro w' ⟨s0, s1, s2⟩
      go_simp
      with_reducible rfl
    rotate_left
    · simp only [Act.put, sT_, s0_, sS_, i64_w, i32_w]
      rfl
    refine take_ (i := 3) (N := some 22) (v := ?_) (a' := ?_) #[true, true, true, true, false, false, false, false, false] rfl rfl (by kernel_rfl) (fun _ _ _ h => h) (Or.inl ⟨by rfl, ?_⟩) hHeld ?_ ?_
    rotate_left
    · rintro w' ⟨s0, s1, s2⟩
      go_simp
      with_reducible rfl
    rotate_left
    · simp only [Act.put, sT_, s0_, sS_, i64_w, i32_w]
      rfl
    refine pure_ (i := 4) (N := some 23) (v := ?_) (a' := ?_) #[true, true, true, true, true, false, false, false, false] rfl rfl (by kernel_rfl) (fun _ _ _ h => h) (Or.inl ⟨by rfl, ?_⟩) ?_ ?_
    rotate_left
    · intro w'
      go_simp
      with_reducible rfl
    rotate_left
    · simp only [Act.put, sT_, s0_, sS_, i64_w, i32_w]
      rfl
    refine pure_ (i := 5) (N := some 24) (v := ?_) (a' := ?_) #[true, true, true, true, true, true, false, false, false] rfl rfl (by kernel_rfl) (fun _ _ _ h => h) (Or.inl ⟨by rfl, ?_⟩) ?_ ?_
    rotate_left
    · intro w'
      go_simp
      (try simp only [i64_w, hw2])
      first | (with_reducible rfl) | rfl
    rotate_left
    · simp only [Act.put, sT_, s0_, sS_, i64_w, i32_w]
      rfl
    refine pure_ (i := 6) (N := some 25) (v := ?_) (a' := ?_) #[true, true, true, true, true, true, true, false, false] rfl rfl (by kernel_rfl) (fun _ _ _ h => h) (Or.inl ⟨by rfl, ?_⟩) ?_ ?_
    rotate_left
    · intro w'
      go_simp
      (try simp only [hcut])
      first | (with_reducible rfl) | rfl
    rotate_left
    · simp only [Act.put, sT_, s0_, sS_, i64_w, i32_w]
      rfl
    refine one_ (i := 7) (N := some 26) #[true, true, true, true, true, true, true, true, false] rfl rfl (by kernel_rfl) (by decide) (fun K hK => ?_)
    refine Kd.R_append_rows_step KB (w0 := w) w.heap.size (by rfl) (.tmp 19) (.tmp 25) 22 5 (.int .u8 0) 1 rfl Try.underlying22 info5 rfl (by decide) (by omega) (.slice A7 ox2.length c7) ox2 (zs d) A2 d c2 (fun x => N ≤ x) (fun _ => False) rfl rfl ?aO ?aR (fun _ _ h => h) (fun _ h => h.elim) ?aF ?aB ?aS ?aL ?_
    case aO => exact HO.out
    case aR => exact Kd.C_below HCM.out H.out.hB
    case aF => exact fun k hk => Nat.le_trans H.out.hN hk
    case aB => exact H.out.hB
    case aS => exact H.out.hB.size
    case aL => have h1 := HLX.out; have h2 := HO2.out; rw [h2, List.length_append, List.length_singleton]; omega
    intro v8 w8 ho hb hg hat
    rw [HO2.out, ← HP3.out] at ho
    have HG := Aside0.mk (H.out.grown hg (fun x hx => HO.out.1 x hx) hb)
    obtain ⟨y, hy⟩ : ∃ y, y = plO ox fx til := ⟨_, rfl⟩
    rw [← hy] at ho
    obtain ⟨A8, c8, rfl⟩ := Kd.R_slice ho
    replace HO := Aside0.mk ho
    have HY := Aside0.mk hy
    clear ho hb hg hat hy H
    refine hK.out _ _ ⟨(blk_cell HG.out.bO 0).trans rfl, (blk_cell HG.out.bB 0).trans rfl, (blk_cell HG.out.bF 0).trans rfl⟩ (fun hHeld => ?_)
    clear hK K
    refine norm_ (a' := ?_) ?_ ?_
    rotate_left
    · show Act.put _ (some 26) _ = _
      simp only [Act.put, sT_, s0_, sS_, i64_w, i32_w]
      rfl
    have hs0 : w8.cell? ⟨o, 0, none⟩ = some (.slice A7 ox2.length c7) := (blk_cell HG.out.bO 0).trans rfl
    have hs1 := blk_frozen HG.out.bO 0
    refine last_ (i := 8) (N := none) #[true, true, true, true, true, true, true, true, true] rfl rfl (by kernel_rfl) (by decide) (fun K hK => ?_)
    refine skip_ (w1 := ?_) (by rfl) rfl ?_ ?_
    rotate_left
    · go_simp
      rfl
    refine hK.out _ _ ?_
    clear hK K
    refine done_ (by kernel_rfl) ?_
    have H := Aside0.mk (HG.out.setO (.slice A8 y.length c8))
    replace HO := Aside0.mk (Kd.R_far (p := ⟨o, 0, none⟩) HO.out (fun z hz (e : z = o) => by have := HG.out.io; omega) (.slice A8 y.length c8))
    clear HG hs0 hs1 hHeld
    generalize w8.setCell ⟨o, 0, none⟩ (.slice A8 y.length c8) = W9 at H HO ⊢
    have hf0 : W9.cell? ⟨f, 0, none⟩ = some (.int .i64 (fx : Int)) := (blk_cell H.out.bF 0).trans rfl
    have hff := blk_frozen H.out.bF 0
    go_wp2_with (fail)
    have HE := Aside0.mk (H.out.setF til)
    replace HO := Aside0.mk (Kd.R_far (p := ⟨f, 0, none⟩) HO.out (fun z hz (e : z = f) => by have := H.out.io; omega) (.int .i64 (til : Int)))
    go_roundg 1
    case measure => rw [HK.out]; exact Nat.lt_succ_self 1
    case rel => exact ⟨til, _, y, ⟨.inr ⟨rfl, HY.out, rfl⟩⟩, HE, HO⟩
end Go.Proofs.Ytkfacigicohfkaa.LimK
