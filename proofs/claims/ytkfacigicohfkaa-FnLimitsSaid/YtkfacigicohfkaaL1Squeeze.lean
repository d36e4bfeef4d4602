/- Squeeze of n zeros, called. -/
import Derived.Test.YtkfacigicohfkaaL1SqPure
import Derived.BigQuiet
import Derived.Laws.EntriesVeiled
namespace Go.Proofs.Ytkfacigicohfkaa.LimK
open Go.RowKit Go.Proofs.YtkfacigicohfkaaW.PrintWords Go.Proofs.YtkfacigicohfkaaW.PrintLast Go.Proofs.YtkfacigicohfkaaW.PrintMore Go.Proofs.Ytkfacigicohfkaa.QLim Go.Proofs.Ytkfacigicohfkaa.EvKit Go.Proofs.Ytkfacigicohfkaa.MapKit
set_option linter.unusedSimpArgs false
set_option linter.unusedVariables false
theorem info3 : (Try.prog.info? 3).map (fun i => (i.zero, i.size, i.bytes)) = some (some (.int .i64 0), 1, 8) := by kernel_rfl
theorem last_none (n : Nat) (l : Lit) : lastF n 0 l = none := by
  unfold lastF
  split
  · rw [if_neg (by rintro ⟨_, h⟩; exact h (Nat.zero_min _))]
  · rfl
theorem reps3 (w : World) (base : Nat) (ok : Nat → Prop) (x y z : Int) : Reps (KB.M w base ok) KB.sz [x, y, z] [.int .u8 x, .int .u8 y, .int .u8 z] := by
  refine ⟨rfl, fun j p hj => ?_⟩
  match j, hj with
  | 0, hj => obtain rfl : x = p := by simpa using hj
             exact rfl
  | 1, hj => obtain rfl : y = p := by simpa using hj
             exact rfl
  | 2, hj => obtain rfl : z = p := by simpa using hj
             exact rfl
  | j + 3, hj => simp at hj
theorem size_alloc (w : World) (o : Obj) : (w.alloc o).heap.size = w.heap.size + 1 := Array.size_push _
theorem new_at {w : World} {o : Obj} {g : Nat} (h : g = w.heap.size) : (w.alloc o).heap[g]? = some o := by rw [h]; exact blk_new w o
set_option maxHeartbeats 6400000 in
set_option maxRecDepth 100000 in
theorem squeeze_call (A : Option Addr) (c n : Nat) (w : World) (hC : KB.C w A n (zs n)) (hnc : n ≤ c) (hn : 70 ≤ n ∧ n ≤ 4000) :
    Calls Try.prog 11 #[.slice A n c] w fun e w' => ∃ v0 : Value, e = .returned v0 ∧ KB.R 5 w' w.heap.size (fun _ => True) v0 (sqz n) ∧ Below w.heap.size w w' := by
  have HC := Aside0.mk hC
  have HNC := Aside0.mk hnc
  have HNN := Aside0.mk hn
  have hln : ¬ (60000 : Int) < (n : Int) := by omega
  clear hC hnc hn
  have hmm := @run_makeMap Try.prog
  have hmf : ∀ (fn : Fn) (first cap : Array Value) (w : World), (Instr.makeFunc fn first cap).run Try.prog w = .ok (.func fn first cap) w := fun _ _ _ _ => rfl
  go_enter Try.func11, Try.ntmps11
  go_upto_region 5 with (fail)
  clear hln hmm
  obtain ⟨b, hb⟩ : ∃ b, b = w.heap.size := ⟨_, rfl⟩
  obtain ⟨o, ho⟩ : ∃ o, o = b + 1 := ⟨_, rfl⟩
  obtain ⟨mb, hmb⟩ : ∃ mb, mb = o + 1 := ⟨_, rfl⟩
  obtain ⟨m, hm⟩ : ∃ m, m = mb + 1 := ⟨_, rfl⟩
  simp only [← hb, ← ho, ← hmb, ← hm]
  obtain ⟨W1, hW1⟩ : ∃ W, W = w.alloc (.cells #[.slice A n c] 22) := ⟨_, rfl⟩
  obtain ⟨W2, hW2⟩ : ∃ W, W = W1.alloc (.cells #[.slice none 0 0] 22) := ⟨_, rfl⟩
  obtain ⟨W3, hW3⟩ : ∃ W, W = W2.alloc (.map #[] 0) := ⟨_, rfl⟩
  obtain ⟨W4, hW4⟩ : ∃ W, W = W3.alloc (.cells #[.map (some mb)] 50) := ⟨_, rfl⟩
  have z1 : o = W1.heap.size := by rw [hW1, size_alloc, ← hb]; exact ho
  have z2 : mb = W2.heap.size := by rw [hW2, size_alloc, ← z1]; exact hmb
  have z3 : m = W3.heap.size := by rw [hW3, size_alloc, ← z2]; exact hm
  have z4 : W4.heap.size = m + 1 := by rw [hW4, size_alloc, ← z3]
  have BB : Aside0 (W4.heap[b]? = some (.cells #[.slice A n c] 22 (0, 0))) := ⟨by rw [hW4, hW3, hW2, hW1]; exact blk_alloc (blk_alloc (blk_alloc (new_at hb) _) _) _⟩
  have BO : Aside0 (W4.heap[o]? = some (.cells #[.slice none 0 0] 22 (0, 0))) := ⟨by rw [hW4, hW3, hW2]; exact blk_alloc (blk_alloc (new_at z1) _) _⟩
  have BM : Aside0 (W4.heap[m]? = some (.cells #[.map (some mb)] 50 (0, 0))) := ⟨by rw [hW4]; exact new_at z3⟩
  have HM : Aside0 (MapV Try.prog 52 W4 mb 0 (lastF n 0)) := ⟨by
    have h := ((MapV.made (P := Try.prog) (kt := 52) W2).congr (g := lastF n 0) (fun l _ => last_none n l)).alloc (.cells #[.map (some mb)] 50)
    rw [← z2] at h
    rw [hW4, hW3]
    exact h⟩
  have HB : Aside0 (Below w.heap.size w W4) := ⟨by rw [hW4, hW3, hW2, hW1]; exact bel (bel (bel (bel_alloc _ _) (bel_alloc _ _)) (bel_alloc _ _)) (bel_alloc _ _)⟩
  have HIO : Aside0 (w.heap.size ≤ b ∧ b < o ∧ o < mb ∧ mb < m ∧ m < W4.heap.size) := ⟨by omega⟩
  rw [← hW1, ← hW2, ← hW3, ← hW4]
  clear z1 z2 z3 z4 hW1 hW2 hW3 hW4 hb ho hmb hm
  have hb0 : W4.cell? ⟨b, 0, none⟩ = some (.slice A n c) := (blk_cell BB.out 0).trans rfl
  go_upto_region 6 with ((with_reducible refine gate_dst (N := 23) rfl ?_); refine Kd.R_make KI _ 3 rfl (N := 23) rfl 51 _ _ rfl (n : Int) rfl rfl Try.underlying51 (.int .i64 0) 8 info3 rfl (by decide) (by omega) (0 : Int) (ok := fun _ => True) (okp := fun _ => True) ?aZ (fun _ hk => hk) trivial (Int.natCast_nonneg n) ?aL (Below.refl _ _) (Nat.le_refl _) ?_; (case aZ => rfl); (case aL => rw [Int.toNat_natCast]; have := HNN.out; omega); intro v1 w1 hR hb1 hg1 hat1; rw [Int.toNat_natCast, ← ahead_zero] at hR; obtain ⟨ra, ca, rfl, hra1, hra2, _⟩ := Kd.R_form hR (by rw [ahead_len]; have := HNN.out; omega); rw [ahead_len] at hR; simp only [ahead_len]; have HCA := Aside0.mk (Kd.R_reads' hR).2.1; have RA := Aside0.mk hR; clear hR)
  clear hb0
  go_upto_region 12 with (fail)
  obtain ⟨a, ha⟩ : ∃ a, a = w1.heap.size := ⟨_, rfl⟩
  obtain ⟨k, hk⟩ : ∃ k, k = a + 1 := ⟨_, rfl⟩
  obtain ⟨s, hs⟩ : ∃ s, s = k + 1 := ⟨_, rfl⟩
  obtain ⟨f, hf⟩ : ∃ f, f = s + 1 := ⟨_, rfl⟩
  simp only [← ha, ← hk, ← hs, ← hf]
  obtain ⟨W5, hW5⟩ : ∃ W, W = w1.alloc (.cells #[.slice (some ⟨ra, 0, none⟩) n ca] 51) := ⟨_, rfl⟩
  obtain ⟨W6, hW6⟩ : ∃ W, W = W5.alloc (.cells #[.func (.func 21) #[] #[.pointer (some ⟨b, 0, none⟩)]] 53) := ⟨_, rfl⟩
  obtain ⟨W7, hW7⟩ : ∃ W, W = W6.alloc (.cells #[.int .i64 0] 3) := ⟨_, rfl⟩
  obtain ⟨W8, hW8⟩ : ∃ W, W = W7.alloc (.cells #[.int .i64 0] 3) := ⟨_, rfl⟩
  have z1 : k = W5.heap.size := by rw [hW5, size_alloc, ← ha]; exact hk
  have z2 : s = W6.heap.size := by rw [hW6, size_alloc, ← z1]; exact hs
  have z3 : f = W7.heap.size := by rw [hW7, size_alloc, ← z2]; exact hf
  have z4 : W8.heap.size = f + 1 := by rw [hW8, size_alloc, ← z3]
  have h8 : Below w1.heap.size w1 W8 := by rw [hW8, hW7, hW6, hW5]; exact bel (bel (bel (bel_alloc _ _) (bel_alloc _ _)) (bel_alloc _ _)) (bel_alloc _ _)
  have h48 := bel hb1 h8
  have H : Aside0 (Sq w A c n b o m mb a ra ca k s f (f + 1) W8 0 0 0 0 (.slice none 0 0)) := ⟨{
    io := by have h1 := HIO.out; have h2 := HNN.out; have h3 := HCA.out; have h4 := hb1.size; omega
    bB := blk_below BB.out h48
    bO := blk_below BO.out h48
    bM := blk_below BM.out h48
    bA := by rw [hW8, hW7, hW6, hW5]; exact blk_alloc (blk_alloc (blk_alloc (new_at ha) _) _) _
    bK := by rw [hW8, hW7, hW6]; exact blk_alloc (blk_alloc (new_at z1) _) _
    bS := by rw [hW8, hW7]; exact blk_alloc (new_at z2) _
    bF := by rw [hW8]; exact new_at z3
    hM := ⟨0, Nat.le_refl _, HM.out.below h48⟩
    hA := Kd.R_lower (Kd.R_below (Kd.R_mono (Kd.R_tight rfl RA.out) (fun x hx => by cases hx; rfl)) h8) HB.out.size
    hB := bel HB.out h48
    hN := Nat.le_of_eq z4.symm }⟩
  have HO : Aside0 (KB.R 5 W8 w.heap.size (fun x => f + 1 ≤ x) (.slice none 0 0) []) := ⟨Kd.R_nil _ _ _ _ _⟩
  rw [← hW5, ← hW6, ← hW7, ← hW8]
  obtain ⟨N, hN⟩ : ∃ N, N = f + 1 := ⟨_, rfl⟩
  rw [← hN] at H HO
  clear z1 z2 z3 z4 hW5 hW6 hW7 hW8 ha hk hs hf h8 h48 hb1 hg1 hat1 hra1 hra2 RA HM BB BO BM HIO HB HCA hN hmf
  go_wp2
  go_loopg [11] (n + 1) (fun kq v11 wr => ∃ (i fv av : Nat) (v : Value) (out : List Int), Aside0 (n + 1 ≤ i + kq ∧ i ≤ n ∧ av ≤ i) ∧ v11 = .int .i64 (i : Int) ∧ Aside0 (Inv n i fv out) ∧ Aside0 (Sq w A c n b o m mb a ra ca k s f N wr av av av fv v) ∧ Aside0 (KB.R 5 wr w.heap.size (fun x => N ≤ x) v out))
  case atStart => exact ⟨0, 0, 0, _, [], ⟨by omega⟩, rfl, ⟨.inl ⟨Nat.zero_le _, rfl, rfl⟩⟩, ⟨by first | exact H.out | exact H.out.drewN _⟩, ⟨by first | exact HO.out | exact Kd.R_drewN HO.out _⟩⟩
  case round =>
    clear H HO
    obtain ⟨i, fv, av, v, out, HI, rfl, HV, H, HO⟩ := hrel
    have hb0 : wr.cell? ⟨b, 0, none⟩ = some (.slice A n c) := (blk_cell H.out.bB 0).trans rfl
    have HOL := Aside0.mk (HV.out.len HNN.out.2)
    by_cases hlt : i < n
    case neg =>
      obtain rfl : i = n := by have := HI.out; omega
      have HF := Aside0.mk (HV.out.fin HNN.out.1)
      go_wp2_with (go_at_call 23; refine (plain_call HC.out HNC.out out H.out i ⟨HF.out.1, Nat.le_refl _, HF.out.2.1⟩ (by have := HOL.out; omega) HO.out).mono ?_; rintro e w5 ⟨rfl, v', h1, h2⟩; rw [HF.out.2.2] at h2; replace H := Aside0.mk h1; replace HO := Aside0.mk h2; clear h1 h2 hb0; have ho0 : w5.cell? ⟨o, 0, none⟩ = some v' := (blk_cell H.out.bO 0).trans rfl)
      go_ret
      exact ⟨_, rfl, Kd.R_mono HO.out (fun _ _ => trivial), H.out.hB⟩
    have hlt' : (i : Int) < (n : Int) := by omega
    obtain ⟨i4, hi4⟩ : ∃ y, y = i + 4 := ⟨_, rfl⟩
    obtain ⟨i1, hi1⟩ : ∃ y, y = i + 1 := ⟨_, rfl⟩
    have HSM : Aside0 (i ≤ 1000000 ∧ n - i < gk ∧ n + 1 ≤ i1 + (n - i) ∧ i1 ≤ n) := ⟨by have h1 := HI.out; have h2 := HNN.out; omega⟩
    have hw4 : wrap64 ((i : Int) + 4) = (i4 : Int) := by rw [hi4]; exact wA4 HSM.out.1
    have hw1 : wrap64 ((i : Int) + 1) = (i1 : Int) := by rw [hi1]; exact wA HSM.out.1
    have HI1 := Aside0.mk hi1
    have HI4 := Aside0.mk hi4
    clear hi1 hi4
    go_upto_region 14 with (go_at_call 22; refine (see_call HC.out out H.out i ⟨by have := HI.out; omega, by omega⟩ HO.out).mono ?_; rintro e w5 ⟨rfl, h1, h2⟩; replace H := Aside0.mk h1; replace HO := Aside0.mk h2; clear h1 h2 hb0)
    have hb0 : w5.cell? ⟨b, 0, none⟩ = some (.slice A n c) := (blk_cell H.out.bB 0).trans rfl
    by_cases h4 : i + 4 ≤ n
    case neg =>
      have h4' : ¬ (i4 : Int) ≤ (n : Int) := by rw [HI4.out]; omega
      have HD := Aside0.mk (HV.out.skip HNN.out.1 hlt h4)
      rw [← HI1.out] at HD
      clear h4
      go_wp2_with (fail)
      go_roundg (n - i)
      case measure => exact HSM.out.2.1
      case rel => exact ⟨i1, fv, i, v, out, ⟨⟨HSM.out.2.2.1, HSM.out.2.2.2, by rw [HI1.out]; omega⟩⟩, rfl, HD, ⟨by first | exact H.out | exact H.out.drewN _⟩, ⟨by first | exact HO.out | exact Kd.R_drewN HO.out _⟩⟩
    have h4' : (i4 : Int) ≤ (n : Int) := by rw [HI4.out]; omega
    have H4 := Aside0.mk h4
    clear h4
    go_upto_region 16 with (fail)
    clear hw4 h4'
    have hm0 : w5.cell? ⟨m, 0, none⟩ = some (.map (some mb)) := (blk_cell H.out.bM 0).trans rfl
    have hk0 : w5.cell? ⟨k, 0, none⟩ = some (.func (.func 21) #[] #[.pointer (some ⟨b, 0, none⟩)]) := (blk_cell H.out.bK 0).trans rfl
    have ha0 : w5.cell? ⟨a, 0, none⟩ = some (.slice (some ⟨ra, 0, none⟩) n ca) := (blk_cell H.out.bA 0).trans rfl
    have hlk : ∀ q, (Instr.lookup 50 (.map (some mb)) (.int .u32 0) false).run Try.prog (w5.drewN q) = .ok (.int .i64 (i : Int)) (w5.drewN q) := fun q => by
      obtain ⟨q', hq, hm⟩ := (H.out.drewN q).hM
      exact hm.look1 (Maps.int_keyed Try.underlying52) Try.underlying50 (zeroI _) keyU (last_get (by have := H4.out; omega))
    go_quiet ((go_at_call 21; exact (Calls.quiet_of (key_call HC.out (H.out.drewN _) i H4.out))))
    replace H := Aside0.mk (H.out.drewN nq)
    replace HO := Aside0.mk (Kd.R_drewN HO.out nq)
    clear hb0 hm0 hk0 ha0 hlk
    generalize w5.drewN nq = w6 at H HO ⊢
    by_cases h0 : i = 0
    case pos =>
      subst h0
      have HD := Aside0.mk (HV.out.first HNN.out.1)
      go_wp2
      go_loopg [12, 13, 14] 1 (fun kq v12 v13 v14 wq => v12 = .int .i64 0 ∧ v13 = .int .i64 0 ∧ v14 = .int .i64 0 ∧ ∃ q, wq = w6.drewN q)
      case atStart => exact ⟨rfl, rfl, rfl, by first | exact ⟨0, rfl⟩ | exact ⟨_, rfl⟩⟩
      case round =>
        obtain ⟨rfl, rfl, rfl, q, rfl⟩ := hrel
        obtain rfl : i1 = 1 := HI1.out
        go_wp2_with (fail)
        go_roundg (n - 0)
        case measure => exact HSM.out.2.1
        case rel => exact ⟨1, fv, 0, v, out, ⟨⟨HSM.out.2.2.1, HSM.out.2.2.2, by omega⟩⟩, rfl, HD, ⟨by first | exact H.out.drewN _ | exact (H.out.drewN _).drewN _⟩, ⟨by first | exact Kd.R_drewN HO.out _ | exact Kd.R_drewN (Kd.R_drewN HO.out _) _⟩⟩
    obtain ⟨nn, hnn⟩ : ∃ y, y = min 67 (n - i) := ⟨_, rfl⟩
    have HE := Aside0.mk (HV.out.eat HNN.out.1 (by omega) H4.out hnn)
    have HNI : Aside0 (1 ≤ i ∧ 4 ≤ nn ∧ nn ≤ 67 ∧ i + nn ≤ n ∧ i ≤ n) := ⟨by have := H4.out; omega⟩
    have HNX : Aside0 (nn = 67 ∨ (nn < 67 ∧ i + nn = n)) := ⟨by have := H4.out; omega⟩
    clear hnn h0 hw1 HV
    have hcl : KB.C w6 A n (zs n) := Kd.C_below HC.out H.out.hB
    have HCW := Aside0.mk hcl
    clear hcl
    have hb0 : w6.cell? ⟨b, 0, none⟩ = some (.slice A n c) := (blk_cell H.out.bB 0).trans rfl
    have ha0 : w6.cell? ⟨a, 0, none⟩ = some (.slice (some ⟨ra, 0, none⟩) n ca) := (blk_cell H.out.bA 0).trans rfl
    have hnn4 : ¬ (nn : Int) < 4 := by have := HNI.out; omega
    go_wp2
    go_loopg [12, 13, 14] (i + 2) (fun kq v12 v13 v14 wq => ∃ (p bst dst : Nat), Aside0 (p + 1 ≤ kq ∧ p ≤ i) ∧ v12 = .int .i64 (bst : Int) ∧ v13 = .int .i64 (dst : Int) ∧ v14 = .int .i64 (p : Int) ∧ Aside0 ((p = i ∧ bst = 0 ∧ dst = 0) ∨ (p < i ∧ bst = nn ∧ dst = 1 ∧ nn < 67)) ∧ ∃ q, wq = w6.drewN q)
    case atStart => exact ⟨i, 0, 0, ⟨by omega⟩, rfl, rfl, rfl, ⟨.inl ⟨rfl, rfl, rfl⟩⟩, by first | exact ⟨0, rfl⟩ | exact ⟨_, rfl⟩⟩
    case round =>
      obtain ⟨p, bst, dst, HP, rfl, rfl, rfl, HP2, q, rfl⟩ := hrel
      by_cases hp : p = 0
      case pos =>
        subst hp
        obtain ⟨rfl, rfl⟩ : nn = bst ∧ 1 = dst := by have h1 := HP2.out; have h2 := HNI.out; omega
        go_upto_region 28 with (fail)
        have HDQ := Aside0.mk (H.out.drewN q)
        have HOQ := Aside0.mk (Kd.R_drewN HO.out q)
        clear H HO
        generalize w6.drewN q = w7 at HDQ HOQ ⊢
        go_upto_region 29 with (go_at_call 23; refine (plain_call HC.out HNC.out out HDQ.out i ⟨HE.out.1, HNI.out.2.2.2.2, HE.out.2.1⟩ (by have := HOL.out; omega) HOQ.out).mono ?_; rintro e w8 ⟨rfl, v', h1, h2⟩; have H := Aside0.mk h1; have HO := Aside0.mk h2; clear h1 h2 HDQ HOQ)
        obtain ⟨o1, ho1⟩ : ∃ y, y = plO out fv i := ⟨_, rfl⟩
        have HO1 : Aside0 (o1.length ≤ 100000) := ⟨by rw [ho1]; have h1 := plO_len out fv i; have h2 := HOL.out; have h3 := HE.out.2.1; omega⟩
        have HE3 := Aside0.mk HE.out.2.2
        rw [← ho1] at HO HE3
        clear ho1
        obtain ⟨v', hv'⟩ : ∃ y, y = v' := ⟨_, rfl⟩
        subst hv'
        have ho0 : w8.cell? ⟨o, 0, none⟩ = some v' := (blk_cell H.out.bO 0).trans rfl
        obtain ⟨t1, ht1⟩ : ∃ y, y = 124 + nn := ⟨_, rfl⟩
        have HT1 : Aside0 (t1 ≤ 191) := ⟨by have := HNI.out; omega⟩
        have hw5 : wrap64 (124 + (nn : Int)) = (t1 : Int) := by rw [ht1]; exact wB (a := 124) (by have := HNI.out; omega)
        have hu5 : (t1 : Int) % 256 = (t1 : Int) := Int.emod_eq_of_lt (by omega) (by have := HT1.out; omega)
        rw [← ht1] at HE3
        clear ht1
        go_upto_region 30 with (first
          | ((with_reducible refine gate_dst (N := 114) rfl ?_); refine Kd.R_lit KB _ 5 ?hg (N := 114) ?hd (xs := [(t1 : Int), 0, 0]) (inner := [.int .u8 (t1 : Int), .int .u8 0, .int .u8 0]) (ok := fun _ => True) (okp := fun _ => True) ?hr ?hp (fun _ hk => hk) trivial (Below.refl _ _) (Nat.le_refl _) (by simp) ?_; (case hd => rfl); (case hg => rfl); (case hr => first | (go_simp; done) | (go_simp; rfl)); (case hp => exact reps3 _ _ _ _ _ _); intro vL wL hoL hb hg_ hnew_; clear hg_ hnew_; replace H := Aside0.mk (H.out.below hb); replace HO := Aside0.mk (Kd.R_below HO.out hb); obtain ⟨AL, cL, rfl, hcl, hCL⟩ := Kd.R_reads hoL; have HCL := Aside0.mk hCL; clear hoL hb hcl hCL ho0)
          | ((with_reducible refine gate_builtin (b := .append) (xs := #[.tmp 103, .tmp 114]) rfl ?_); at_builtin; refine Kd.R_append_rows KB (w0 := w) w.heap.size rfl (.tmp 103) (.tmp 114) 22 5 (.int .u8 0) 1 rfl Try.underlying22 info5 rfl (by decide) (by omega) v' o1 [(t1 : Int), 0, 0] AL 3 cL (fun x => N ≤ x) (fun _ => False) rfl rfl ?aO ?aR (fun _ _ h => h) (fun _ h => h.elim) ?aF ?aB ?aS ?aL ?_; (case aO => exact HO.out); (case aR => exact HCL.out); (case aF => exact fun k hk => Nat.le_trans H.out.hN hk); (case aB => exact H.out.hB); (case aS => exact H.out.hB.size); (case aL => have h1 := HO1.out; omega); intro v9 w9 ho hb hg hat; obtain ⟨o2, ho2⟩ : ∃ y, y = o1 ++ [(t1 : Int), 0, 0] := ⟨_, rfl⟩; rw [← ho2] at ho; have HO2 := Aside0.mk ho2; obtain ⟨A9, c9, rfl⟩ := Kd.R_slice ho; have HG := Aside0.mk (H.out.grown hg (fun x hx => HO.out.1 x hx) hb); replace HO := Aside0.mk ho; clear ho hb hg hat ho2 H HCL; have ho0 : w9.cell? ⟨o, 0, none⟩ = some v' := (blk_cell HG.out.bO 0).trans rfl; have hof := blk_frozen HG.out.bO 0))
        have H := Aside0.mk (HG.out.setO (.slice A9 o2.length c9))
        replace HO := Aside0.mk (Kd.R_far (p := ⟨o, 0, none⟩) HO.out (fun z hz (e : z = o) => by have := HG.out.io; omega) (.slice A9 o2.length c9))
        rw [← HO2.out] at HE3
        clear HG ho0 hof hw5 hu5
        generalize w9.setCell ⟨o, 0, none⟩ (.slice A9 o2.length c9) = W9 at H HO ⊢
        obtain ⟨inn, hinn⟩ : ∃ y, y = i + nn := ⟨_, rfl⟩
        rw [← hinn] at HE3
        have hw6 : wrap64 ((i : Int) + (nn : Int)) = (inn : Int) := by rw [hinn]; exact wB (by have := HNI.out; have := HNN.out; omega)
        have HIN : Aside0 (n + 1 ≤ inn + (n - i) ∧ inn ≤ n ∧ i ≤ inn) := ⟨by have h1 := HSM.out; have h2 := HNI.out; omega⟩
        clear hinn
        have hf0 : W9.cell? ⟨f, 0, none⟩ = some (.int .i64 (i : Int)) := (blk_cell H.out.bF 0).trans rfl
        have hff := blk_frozen H.out.bF 0
        go_wp2_with (fail)
        have HF := Aside0.mk (H.out.setF inn)
        replace HO := Aside0.mk (Kd.R_far (p := ⟨f, 0, none⟩) HO.out (fun z hz (e : z = f) => by have := H.out.io; omega) (.int .i64 (inn : Int)))
        go_roundg (n - i)
        case measure => exact HSM.out.2.1
        case rel => exact ⟨inn, inn, i, _, o2, HIN, by first | rfl | rw [hw6], HE3, HF, HO⟩
      obtain ⟨p1, hp1⟩ : ∃ y, y = p - 1 := ⟨_, rfl⟩
      obtain ⟨ip, hip⟩ : ∃ y, y = i - p1 := ⟨_, rfl⟩
      have HPP : Aside0 (p ≤ 1000000 ∧ 1 ≤ p ∧ p1 ≤ i ∧ i ≤ 1000000 ∧ p1 < i ∧ p1 + 4 ≤ n ∧ p1 + 1 = p ∧ p1 + nn ≤ n ∧ p < gk ∧ p ≤ i) := ⟨by have h1 := HP.out; have h2 := HNI.out; have h3 := H4.out; have h4 := HNN.out; omega⟩
      have hp0 : (0 : Int) < (p : Int) := by omega
      have hip4 : (ip : Int) ≤ 4096 := by have := HPP.out; have := HNN.out; omega
      have HIP : Aside0 (p = i → ip = 1) := ⟨by intro h; have := HPP.out; omega⟩
      have hq1 : wrap64 ((p : Int) - 1) = (p1 : Int) := by rw [hp1]; exact wS (b := 1) HPP.out.2.1 HPP.out.1
      have hq2 : wrap64 ((i : Int) - (p1 : Int)) = (ip : Int) := by rw [hip]; exact wS HPP.out.2.2.1 HPP.out.2.2.2.1
      clear hp1 hip hp
      go_wp2
      go_loopg [16] 69 (fun kq v16 wz => ∃ (x : Nat), Aside0 (nn + 1 ≤ x + kq ∧ x ≤ nn) ∧ v16 = .int .i64 (x : Int) ∧ ∃ q, wz = w6.drewN q)
      case atStart => exact ⟨0, ⟨by have := HNI.out; omega⟩, rfl, by first | exact ⟨0, rfl⟩ | exact ⟨_, rfl⟩⟩
      case round =>
        obtain ⟨x, HX, rfl, q, rfl⟩ := hrel
        by_cases hxn : x < nn
        case pos =>
          obtain ⟨ix, hix⟩ : ∃ y, y = i + x := ⟨_, rfl⟩
          obtain ⟨jx, hjx⟩ : ∃ y, y = p1 + x := ⟨_, rfl⟩
          obtain ⟨x1, hx1⟩ : ∃ y, y = x + 1 := ⟨_, rfl⟩
          have HXX : Aside0 (ix < n ∧ jx < n ∧ x < 67 ∧ i + x ≤ 1000000 ∧ p1 + x ≤ 1000000 ∧ x ≤ 1000000 ∧ nn - x < gk ∧ nn + 1 ≤ x1 + (nn - x) ∧ x1 ≤ nn) := ⟨by have h1 := HX.out; have h2 := HNI.out; have h3 := HPP.out; have h4 := HNN.out; omega⟩
          have hx67 : (x : Int) < 67 := by have := HXX.out; omega
          have c1 : (ix : Int) < (n : Int) := by have := HXX.out; omega
          have c2 : (jx : Int) < (n : Int) := by have := HXX.out; omega
          obtain ⟨ad, rfl, e0⟩ := at_zs HCW.out ix HXX.out.1
          obtain ⟨_, e, e1⟩ := at_zs HCW.out jx HXX.out.2.1
          cases e
          have hq3 : wrap64 ((i : Int) + (x : Int)) = (ix : Int) := by rw [hix]; exact wB HXX.out.2.2.2.1
          have hq4 : wrap64 ((p1 : Int) + (x : Int)) = (jx : Int) := by rw [hjx]; exact wB HXX.out.2.2.2.2.1
          have hq5 : wrap64 ((x : Int) + 1) = (x1 : Int) := by rw [hx1]; exact wA HXX.out.2.2.2.2.2.1
          have hq6 : IntKind.i64.wrap ((i : Int) + (x : Int)) = (ix : Int) := (i64_w _).trans hq3
          have hq7 : IntKind.i64.wrap ((p1 : Int) + (x : Int)) = (jx : Int) := (i64_w _).trans hq4
          have HX1a := Aside0.mk hx1
          clear hix hjx hx1 hxn
          go_upto_region 21 with (fail)
          go_quiet (fail)
          go_wp2
          go_roundg (nn - x)
          case measure => exact HXX.out.2.2.2.2.2.2.1
          case rel => exact ⟨x1, ⟨HXX.out.2.2.2.2.2.2.2⟩, by first | rfl | (rw [HX1a.out]; go_num), by first | exact ⟨_, rfl⟩ | exact ⟨_, World.drewN_drewN _ _ _⟩⟩
        obtain rfl : x = nn := by have := HX.out; omega
        rcases HNX.out with h67 | ⟨h67, hin⟩
        case inl =>
          have hx67 : ¬ (x : Int) < 67 := by omega
          have hb67 : ((x : Int) == 67) = true := by rw [h67]; rfl
          have hgt : (0 : Int) < (x : Int) := by omega
          obtain ⟨hpi, rfl, rfl⟩ : p = i ∧ 0 = bst ∧ 0 = dst := by have h1 := HP2.out; omega
          obtain rfl : 1 = ip := (HIP.out hpi).symm
          go_upto_region 21 with (fail)
          go_quiet (fail)
          clear hpi h67
          go_upto_region 28 with (fail)
          simp only [hq2]
          clear hb67 hx67 hgt hq1 hq2 hp0 hip4
          have HDQ := Aside0.mk (H.out.drewN (q + nq))
          have HOQ := Aside0.mk (Kd.R_drewN HO.out (q + nq))
          clear H HO
          generalize w6.drewN (q + nq) = w7 at HDQ HOQ ⊢
          go_upto_region 29 with (go_at_call 23; refine (plain_call HC.out HNC.out out HDQ.out i ⟨HE.out.1, HNI.out.2.2.2.2, HE.out.2.1⟩ (by have := HOL.out; omega) HOQ.out).mono ?_; rintro e w8 ⟨rfl, v', h1, h2⟩; have H := Aside0.mk h1; have HO := Aside0.mk h2; clear h1 h2 HDQ HOQ)
          obtain ⟨o1, ho1⟩ : ∃ y, y = plO out fv i := ⟨_, rfl⟩
          have HO1 : Aside0 (o1.length ≤ 100000) := ⟨by rw [ho1]; have h1 := plO_len out fv i; have h2 := HOL.out; have h3 := HE.out.2.1; omega⟩
          have HE3 := Aside0.mk HE.out.2.2
          rw [← ho1] at HO HE3
          clear ho1
          obtain ⟨v', hv'⟩ : ∃ y, y = v' := ⟨_, rfl⟩
          subst hv'
          have ho0 : w8.cell? ⟨o, 0, none⟩ = some v' := (blk_cell H.out.bO 0).trans rfl
          obtain ⟨t1, ht1⟩ : ∃ y, y = 124 + x := ⟨_, rfl⟩
          have HT1 : Aside0 (t1 ≤ 191) := ⟨by have := HNI.out; omega⟩
          have hw5 : wrap64 (124 + (x : Int)) = (t1 : Int) := by rw [ht1]; exact wB (a := 124) (by have := HNI.out; omega)
          have hu5 : (t1 : Int) % 256 = (t1 : Int) := Int.emod_eq_of_lt (by omega) (by have := HT1.out; omega)
          rw [← ht1] at HE3
          clear ht1
          go_upto_region 30 with (first
            | ((with_reducible refine gate_dst (N := 114) rfl ?_); refine Kd.R_lit KB _ 5 ?hg (N := 114) ?hd (xs := [(t1 : Int), 0, 0]) (inner := [.int .u8 (t1 : Int), .int .u8 0, .int .u8 0]) (ok := fun _ => True) (okp := fun _ => True) ?hr ?hp (fun _ hk => hk) trivial (Below.refl _ _) (Nat.le_refl _) (by simp) ?_; (case hd => rfl); (case hg => rfl); (case hr => first | (go_simp; done) | (go_simp; rfl)); (case hp => exact reps3 _ _ _ _ _ _); intro vL wL hoL hb hg_ hnew_; clear hg_ hnew_; replace H := Aside0.mk (H.out.below hb); replace HO := Aside0.mk (Kd.R_below HO.out hb); obtain ⟨AL, cL, rfl, hcl, hCL⟩ := Kd.R_reads hoL; have HCL := Aside0.mk hCL; clear hoL hb hcl hCL ho0)
            | ((with_reducible refine gate_builtin (b := .append) (xs := #[.tmp 103, .tmp 114]) rfl ?_); at_builtin; refine Kd.R_append_rows KB (w0 := w) w.heap.size rfl (.tmp 103) (.tmp 114) 22 5 (.int .u8 0) 1 rfl Try.underlying22 info5 rfl (by decide) (by omega) v' o1 [(t1 : Int), 0, 0] AL 3 cL (fun x => N ≤ x) (fun _ => False) rfl rfl ?aO ?aR (fun _ _ h => h) (fun _ h => h.elim) ?aF ?aB ?aS ?aL ?_; (case aO => exact HO.out); (case aR => exact HCL.out); (case aF => exact fun k hk => Nat.le_trans H.out.hN hk); (case aB => exact H.out.hB); (case aS => exact H.out.hB.size); (case aL => have h1 := HO1.out; omega); intro v9 w9 ho hb hg hat; obtain ⟨o2, ho2⟩ : ∃ y, y = o1 ++ [(t1 : Int), 0, 0] := ⟨_, rfl⟩; rw [← ho2] at ho; have HO2 := Aside0.mk ho2; obtain ⟨A9, c9, rfl⟩ := Kd.R_slice ho; have HG := Aside0.mk (H.out.grown hg (fun x hx => HO.out.1 x hx) hb); replace HO := Aside0.mk ho; clear ho hb hg hat ho2 H HCL; have ho0 : w9.cell? ⟨o, 0, none⟩ = some v' := (blk_cell HG.out.bO 0).trans rfl; have hof := blk_frozen HG.out.bO 0))
          have H := Aside0.mk (HG.out.setO (.slice A9 o2.length c9))
          replace HO := Aside0.mk (Kd.R_far (p := ⟨o, 0, none⟩) HO.out (fun z hz (e : z = o) => by have := HG.out.io; omega) (.slice A9 o2.length c9))
          rw [← HO2.out] at HE3
          clear HG ho0 hof hw5 hu5
          generalize w9.setCell ⟨o, 0, none⟩ (.slice A9 o2.length c9) = W9 at H HO ⊢
          obtain ⟨inn, hinn⟩ : ∃ y, y = i + x := ⟨_, rfl⟩
          rw [← hinn] at HE3
          have hw6 : wrap64 ((i : Int) + (x : Int)) = (inn : Int) := by rw [hinn]; exact wB (by have := HNI.out; have := HNN.out; omega)
          have HIN : Aside0 (n + 1 ≤ inn + (n - i) ∧ inn ≤ n ∧ i ≤ inn) := ⟨by have h1 := HSM.out; have h2 := HNI.out; omega⟩
          clear hinn
          have hf0 : W9.cell? ⟨f, 0, none⟩ = some (.int .i64 (i : Int)) := (blk_cell H.out.bF 0).trans rfl
          have hff := blk_frozen H.out.bF 0
          go_wp2_with (fail)
          have HF := Aside0.mk (H.out.setF inn)
          replace HO := Aside0.mk (Kd.R_far (p := ⟨f, 0, none⟩) HO.out (fun z hz (e : z = f) => by have := H.out.io; omega) (.int .i64 (inn : Int)))
          go_roundg (n - i)
          case measure => exact HSM.out.2.1
          case rel => exact ⟨inn, inn, i, _, o2, HIN, by first | rfl | rw [hw6], HE3, HF, HO⟩
        have hx67 : (x : Int) < 67 := by omega
        have hq3 : wrap64 ((i : Int) + (x : Int)) = (n : Int) := by rw [← hin]; exact wB (by have := HNN.out; omega)
        have hq6 : IntKind.i64.wrap ((i : Int) + (x : Int)) = (n : Int) := (i64_w _).trans hq3
        have hb67 : ((x : Int) == 67) = false := beq_eq_false_iff_ne.2 (by omega)
        have he67 : ¬ (x : Int) = 67 := by omega
        have hra : w6.cell? ⟨ra, p1, none⟩ = some (.int .i64 (p1 : Int)) := by
          have h1 := H.out.hA
          rw [show (Value.slice (some ⟨ra, 0, none⟩) n ca) = .slice (some ⟨ra, 0, none⟩) (aheadL n i).length ca by rw [ahead_len]] at h1
          have h2 := Kd.R_cell (enc := Value.int .i64) (h1 := fun _ => rfl) 0 h1 (p1 : Int) (by omega) (by rw [ahead_len]; have := HPP.out; omega)
          rw [Int.toNat_natCast, show rdOf 0 (aheadL n i) (p1 : Int) = (p1 : Int) from ahead_at HPP.out.2.2.2.2.1 HPP.out.2.2.2.2.2.1] at h2
          exact h2.1
        have hp1n : (p1 : Int) < (n : Int) := by have := HPP.out; omega
        have HPG : Aside0 (p1 + 1 ≤ p ∧ p1 ≤ i ∧ p1 < i) := ⟨by have := HPP.out; omega⟩
        have H67 := Aside0.mk h67
        go_upto_region 21 with (fail)
        go_quiet (fail)
        rcases HP2.out with ⟨hpi, rfl, rfl⟩ | ⟨hpi, rfl, rfl, _⟩
        case inl =>
          obtain rfl : 1 = ip := (HIP.out hpi).symm
          have hgt : (0 : Int) < (x : Int) := by have := HNI.out; omega
          clear hpi
          go_wp2_with (fail)
          go_roundg (p1 + 1)
          case measure => have h1 := HPP.out; omega
          case rel => exact ⟨p1, x, 1, ⟨⟨Nat.le_refl _, HPG.out.2.1⟩⟩, by first | rfl | go_num, by first | rfl | go_num, by first | rfl | go_num, ⟨.inr ⟨HPG.out.2.2, rfl, rfl, H67.out⟩⟩, by first | exact ⟨_, rfl⟩ | exact ⟨_, World.drewN_drewN _ _ _⟩⟩
        have hgt : ¬ (bst : Int) < (bst : Int) := Int.lt_irrefl _
        go_wp2_with (fail)
        go_roundg (p1 + 1)
        case measure => have h1 := HPP.out; omega
        case rel => exact ⟨p1, bst, 1, ⟨⟨Nat.le_refl _, HPG.out.2.1⟩⟩, by first | rfl | go_num, by first | rfl | go_num, by first | rfl | go_num, ⟨.inr ⟨HPG.out.2.2, rfl, rfl, H67.out⟩⟩, by first | exact ⟨_, rfl⟩ | exact ⟨_, World.drewN_drewN _ _ _⟩⟩
end Go.Proofs.Ytkfacigicohfkaa.LimK
