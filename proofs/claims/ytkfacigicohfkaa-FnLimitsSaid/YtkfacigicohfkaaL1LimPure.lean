/- What Squeeze makes of n zero bytes, and what Expand makes of that, in plain Lean. -/
import Derived.Test.YtkfacigicohfkaaL1Ev
import Derived.Test.YtkfacigicohfkaaL1QLimx5
namespace Go.Proofs.Ytkfacigicohfkaa.LimK
open Go.RowKit Go.Proofs.YtkfacigicohfkaaW.PrintWords Go.Proofs.YtkfacigicohfkaaW.PrintLast Go.Proofs.YtkfacigicohfkaaW.PrintMore Go.Proofs.Ytkfacigicohfkaa.QLim Go.Proofs.Ytkfacigicohfkaa.EvKit
set_option linter.unusedSimpArgs false
set_option linter.unusedVariables false
def zs (n : Nat) : List Int := List.replicate n 0
def blk3 (k : Nat) : List Int := (List.replicate k [191, 0, 0]).flatten
def outK (k : Nat) : List Int := [0, 0] ++ blk3 k
def tailT (t : Nat) : List Int := if t = 0 then [] else if t ≤ 3 then ((t - 1 : Nat) : Int) :: zs t else [((124 + t : Nat) : Int), 0, 0]
def sqz (n : Nat) : List Int := outK ((n - 1) / 67) ++ tailT ((n - 1) % 67)
theorem zs_len (n : Nat) : (zs n).length = n := List.length_replicate
theorem zs_snoc (n : Nat) : zs n ++ [0] = zs (n + 1) := by unfold zs; rw [List.replicate_succ']
theorem zs_add (a b : Nat) : zs a ++ zs b = zs (a + b) := by unfold zs; rw [List.replicate_append_replicate]
theorem blk3_succ (k : Nat) : blk3 (k + 1) = 191 :: 0 :: 0 :: blk3 k := by unfold blk3; rw [List.replicate_succ, List.flatten_cons]; rfl
theorem blk3_snoc (k : Nat) : blk3 (k + 1) = blk3 k ++ [191, 0, 0] := by unfold blk3; rw [List.replicate_succ', List.flatten_append]; rfl
theorem blk3_len (k : Nat) : (blk3 k).length = 3 * k := by
  induction k with
  | zero => rfl
  | succ k ih => rw [blk3_succ]; simp only [List.length_cons]; omega
theorem rd_drop {x : List Int} {i : Nat} {a : Int} {l : List Int} (h : x.drop i = a :: l) : rd x (i : Int) = a ∧ i < x.length ∧ x.drop (i + 1) = l := by
  have hlt : i < x.length := by
    rcases Nat.lt_or_ge i x.length with h1 | h1
    · exact h1
    · rw [List.drop_eq_nil_of_le h1] at h; cases h
  rw [List.drop_eq_getElem_cons hlt] at h
  injection h with h1 h2
  exact ⟨by simp [rd, hlt, h1], hlt, h2⟩
theorem rd_zs {m : Nat} {i : Int} (h0 : 0 ≤ i) (h : i < m) : rd (zs m) i = 0 := by
  have hlt : i.toNat < m := by omega
  simp [rd, zs, hlt]
theorem wA {i : Nat} (h : i ≤ 1000000) : wrap64 ((i : Int) + 1) = ((i + 1 : Nat) : Int) := by rw [w64 (by omega) (by omega)]; omega
theorem wA2 {i : Nat} (h : i ≤ 1000000) : wrap64 ((i : Int) + 2) = ((i + 2 : Nat) : Int) := by rw [w64 (by omega) (by omega)]; omega
theorem wA3 {i : Nat} (h : i ≤ 1000000) : wrap64 ((i : Int) + 3) = ((i + 3 : Nat) : Int) := by rw [w64 (by omega) (by omega)]; omega
theorem wA4 {i : Nat} (h : i ≤ 1000000) : wrap64 ((i : Int) + 4) = ((i + 4 : Nat) : Int) := by rw [w64 (by omega) (by omega)]; omega
theorem wB {a b : Nat} (h : a + b ≤ 1000000) : wrap64 ((a : Int) + (b : Int)) = ((a + b : Nat) : Int) := by rw [w64 (by omega) (by omega)]; omega
theorem wC {a : Nat} (h : a ≤ 1000000) : wrap64 (a : Int) = (a : Int) := w64 (by omega) (by omega)
theorem wS {a b : Nat} (h : b ≤ a) (h2 : a ≤ 1000000) : wrap64 ((a : Int) - (b : Int)) = ((a - b : Nat) : Int) := by rw [w64 (by omega) (by omega)]; omega
theorem exp_end {x : List Int} {most : Int} {out : List Int} {i : Nat} (h : x.length = i) : Ev (fun k => impl_Expand.l0 k x most out (i : Int)) (out, true) := by
  refine Ev.step (f := fun _ => some (out, true)) (fun k => ?_) (Ev.now _)
  rw [impl_Expand.l0, if_neg (by omega)]
theorem exp_lit {x : List Int} {most : Int} {out : List Int} {i c : Nat} {rest : List Int} {r : List Int × Bool} (hx : x.length ≤ 100000) (ho : out.length ≤ 100000) (hc : c < 128) (h : x.drop i = (c : Int) :: (zs (c + 1) ++ rest))
    (hs : ((out.length + c + 1 : Nat) : Int) ≤ most → Ev (fun k => impl_Expand.l0 k x most (out ++ zs (c + 1)) ((i + c + 2 : Nat) : Int)) r) (hf : most < ((out.length + c + 1 : Nat) : Int) → r = ([], false)) : Ev (fun k => impl_Expand.l0 k x most out (i : Int)) r := by
  obtain ⟨h1, h2, h3⟩ := rd_drop h
  have hlen : i + 1 + (c + 1) ≤ x.length := by
    have e : (x.drop (i + 1)).length = x.length - (i + 1) := List.length_drop
    rw [h3, List.length_append, zs_len] at e
    omega
  have c1 : (i : Int) < (x.length : Int) := by omega
  have c2 : (0 : Int) ≤ (i : Int) := by omega
  have c3 : (c : Int) < 128 := by omega
  have c4 : ¬ ((i + 1 + c + 1 : Nat) : Int) > (x.length : Int) := by omega
  have c5 : (0 : Int) ≤ ((i + 1 : Nat) : Int) := by omega
  have c6 : ((i + 1 : Nat) : Int) ≤ ((i + 1 + c + 1 : Nat) : Int) := by omega
  have c7 : ((i + 1 + c + 1 : Nat) : Int) ≤ (x.length : Int) := by omega
  have c8 : out.length + (zs (c + 1)).length < 140737488355328 := by rw [zs_len]; omega
  have hsl : ((x.take (i + 1 + c + 1)).drop (i + 1)) = zs (c + 1) := by
    rw [List.drop_take, h3, show i + 1 + c + 1 - (i + 1) = c + 1 by omega]
    rw [List.take_append_of_le_length (by rw [zs_len]; omega), List.take_of_length_le (by rw [zs_len]; omega)]
  have q1 : i ≤ 1000000 := by omega
  have q2 : c ≤ 1000000 := by omega
  have q3 : i + 1 + c ≤ 1000000 := by omega
  have q4 : out.length + c ≤ 1000000 := by omega
  have q5 : i + 1 + (c + 1) ≤ 1000000 := by omega
  have q6 : ((i + 1 + (c + 1) : Nat) : Int) = ((i + c + 2 : Nat) : Int) := by omega
  have w1 : wrap64 ((i : Int) + 1) = ((i + 1 : Nat) : Int) := wA q1
  have w2 : wrap64 (c : Int) = (c : Int) := wC q2
  have w3 : wrap64 (((i + 1 : Nat) : Int) + (c : Int)) = ((i + 1 + c : Nat) : Int) := wB q3
  have w4 : wrap64 (((i + 1 + c : Nat) : Int) + 1) = ((i + 1 + c + 1 : Nat) : Int) := wA q3
  have w5 : wrap64 ((out.length : Int) + (c : Int)) = ((out.length + c : Nat) : Int) := wB q4
  have w6 : wrap64 (((out.length + c : Nat) : Int) + 1) = ((out.length + c + 1 : Nat) : Int) := wA q4
  have w7 : wrap64 ((c : Int) + 1) = ((c + 1 : Nat) : Int) := wA q2
  have w8 : wrap64 (((i + 1 : Nat) : Int) + ((c + 1 : Nat) : Int)) = ((i + c + 2 : Nat) : Int) := (wB q5).trans q6
  by_cases hm : most < ((out.length + c + 1 : Nat) : Int)
  · rw [hf hm]
    refine Ev.step (f := fun _ => some (([] : List Int), false)) (fun k => ?_) (Ev.now _)
    rw [impl_Expand.l0, if_pos c1, if_pos c2, h1]
    simp only [w1, w2, w3, w4, w5, w6]
    rw [if_pos c3, if_neg c4, if_pos hm]
  · refine Ev.step (fun k => ?_) (hs (Int.not_lt.1 hm))
    rw [impl_Expand.l0, if_pos c1, if_pos c2, h1]
    simp only [w1, w2, w3, w4, w5, w6, w7, w8, Int.toNat_natCast, hsl]
    rw [if_pos c3, if_neg c4, if_neg hm, if_pos c5, if_pos c6, if_pos c7, if_pos c8]
theorem exp_l1 {x : List Int} {most : Int} {i t : Nat} {r : List Int × Bool} (ht : t ≤ 67) (m : Nat) (hm0 : 1 ≤ m) (hm : m + t ≤ 100000)
    (hs : Ev (fun k => impl_Expand.l0 k x most (zs (m + t)) (i : Int)) r) : ∀ (d j : Nat), j + d = t → Ev (fun k => impl_Expand.l1 k x most (zs (m + j)) (i : Int) 1 (t : Int) (j : Int)) r := by
  intro d
  induction d with
  | zero =>
    intro j hj
    obtain rfl : j = t := by omega
    refine Ev.step (fun k => ?_) hs
    rw [impl_Expand.l1, if_neg (by omega)]
  | succ d ih =>
    intro j hj
    have ih' := ih (j + 1) (by omega)
    have c1 : (j : Int) < (t : Int) := by omega
    have c2 : (0 : Int) ≤ ((m + j - 1 : Nat) : Int) := by omega
    have c3 : ((m + j - 1 : Nat) : Int) < ((m + j : Nat) : Int) := by omega
    have c4 : m + j < 140737488355328 := by omega
    have q1 : m + j ≤ 1000000 := by omega
    have q2 : j ≤ 1000000 := by omega
    have q3 : 1 ≤ m + j := by omega
    have w1 : wrap64 (((m + j : Nat) : Int) - 1) = ((m + j - 1 : Nat) : Int) := wS (b := 1) q3 q1
    have w2 : wrap64 ((j : Int) + 1) = ((j + 1 : Nat) : Int) := wA q2
    refine Ev.step (f := fun k => impl_Expand.l1 k x most (zs (m + (j + 1))) (i : Int) 1 (t : Int) ((j + 1 : Nat) : Int)) (fun k => ?_) ih'
    rw [impl_Expand.l1]
    simp only [zs_len, w1, w2]
    rw [if_pos c1, if_pos c2, if_pos c3, if_pos c4, rd_zs c2 c3, zs_snoc, Nat.add_assoc]
theorem exp_back {x : List Int} {most : Int} {i t m : Nat} {rest : List Int} {r : List Int × Bool} (hx : x.length ≤ 100000) (hm0 : 1 ≤ m) (hm : m + t ≤ 100000) (h4 : 4 ≤ t) (h67 : t ≤ 67) (h : x.drop i = ((124 + t : Nat) : Int) :: 0 :: 0 :: rest)
    (hs : ((m + t : Nat) : Int) ≤ most → Ev (fun k => impl_Expand.l0 k x most (zs (m + t)) ((i + 3 : Nat) : Int)) r) (hf : most < ((m + t : Nat) : Int) → r = ([], false)) : Ev (fun k => impl_Expand.l0 k x most (zs m) (i : Int)) r := by
  obtain ⟨h1, h2, h3⟩ := rd_drop h
  obtain ⟨g1, g2, g3⟩ := rd_drop h3
  obtain ⟨f1, f2, f3⟩ := rd_drop g3
  have n0 : ¬ ((124 + t : Nat) : Int) < 128 := by omega
  have n1 : ¬ ((124 + t : Nat) : Int) > 191 := by omega
  have n2 : decide (((i + 3 : Nat) : Int) > (x.length : Int)) = false := decide_eq_false (by omega)
  have c1 : (i : Int) < (x.length : Int) := by omega
  have c2 : (0 : Int) ≤ (i : Int) := by omega
  have c3 : (0 : Int) ≤ ((i + 1 : Nat) : Int) := by omega
  have c4 : ((i + 1 : Nat) : Int) < (x.length : Int) := by omega
  have c5 : (0 : Int) ≤ ((i + 1 + 1 : Nat) : Int) := by omega
  have c6 : ((i + 1 + 1 : Nat) : Int) < (x.length : Int) := by omega
  have c7 : ¬ (1 : Int) > (m : Int) := by omega
  have q1 : i ≤ 1000000 := by omega
  have q2 : i + 1 ≤ 1000000 := by omega
  have q3 : 124 + t ≤ 1000000 := by omega
  have q4 : m + t ≤ 1000000 := by omega
  have w0 : wrap64 ((124 + t : Nat) : Int) = ((124 + t : Nat) : Int) := wC q3
  have w1 : wrap64 ((i : Int) + 1) = ((i + 1 : Nat) : Int) := wA q1
  have w2 : wrap64 (((i + 1 : Nat) : Int) + 2) = ((i + 3 : Nat) : Int) := wA2 q2
  have w3 : wrap64 (((i + 1 : Nat) : Int) + 1) = ((i + 1 + 1 : Nat) : Int) := wA q2
  have w4 : wrap64 (((124 + t : Nat) : Int) - 124) = (t : Int) := by have h := wS (a := 124 + t) (b := 124) (Nat.le_add_right _ _) q3; rw [Nat.add_sub_cancel_left] at h; exact h
  have w5 : wrap64 ((m : Int) + (t : Int)) = ((m + t : Nat) : Int) := wB q4
  have wd : wrap64 ((Go.bits .or .i64 (wrap64 ((wrap64 0) * 256)) (wrap64 0)) + 1) = 1 := by decide +kernel
  refine Ev.step (f := fun k => impl_Expand.j2 k x most (zs m) ((i + 1 : Nat) : Int) ((124 + t : Nat) : Int) false) (fun k => ?_) ?_
  · rw [impl_Expand.l0, if_pos c1, if_pos c2, h1]
    simp only [w0, w1, w2]
    rw [if_neg n0, if_neg n1, n2]
  refine Ev.step (f := fun k => impl_Expand.j3 k x most (zs m) ((i + 3 : Nat) : Int) (t : Int) 1 (decide (((m + t : Nat) : Int) > most))) (fun k => ?_) ?_
  · rw [impl_Expand.j2, if_neg (by simp), if_pos c3, if_pos c4]
    simp only [w2, w3, w4, g1, f1, wd, zs_len, w5]
    rw [if_pos c5, if_pos c6, if_neg c7]
  by_cases hb : most < ((m + t : Nat) : Int)
  · rw [hf hb]
    refine Ev.step (f := fun _ => some (([] : List Int), false)) (fun k => ?_) (Ev.now _)
    rw [impl_Expand.j3, if_pos (decide_eq_true hb)]
  · refine Ev.step (f := fun k => impl_Expand.l1 k x most (zs m) ((i + 3 : Nat) : Int) 1 (t : Int) 0) (fun k => ?_) ?_
    · rw [impl_Expand.j3, if_neg (by rw [decide_eq_false hb]; simp)]
    · exact exp_l1 h67 m hm0 hm (hs (Int.not_lt.1 hb)) t 0 (Nat.zero_add t)
theorem exp_ev (n most : Nat) (hn : 1 ≤ n ∧ n ≤ 60000) (hm : 1 ≤ most ∧ most ≤ 60000) : Ev (fun k => impl_Expand.f k (sqz n) (most : Int)) (if n ≤ most then (zs n, true) else ([], false)) := by
  obtain ⟨K, hK⟩ : ∃ K, (n - 1) / 67 = K := ⟨_, rfl⟩
  obtain ⟨T, hT⟩ : ∃ T, (n - 1) % 67 = T := ⟨_, rfl⟩
  have hnn : n = 1 + 67 * K + T := by omega
  have hT67 : T < 67 := by omega
  obtain ⟨x, hx⟩ : ∃ x, sqz n = x := ⟨_, rfl⟩
  have hxe : x = [0, 0] ++ (blk3 K ++ tailT T) := by rw [← hx, sqz, outK, hK, hT, List.append_assoc]
  have htl : (tailT T).length ≤ 10 := by
    unfold tailT
    by_cases h0 : T = 0
    · rw [if_pos h0]; simp
    · rw [if_neg h0]
      by_cases h3 : T ≤ 3
      · rw [if_pos h3]; simp [zs_len]; omega
      · rw [if_neg h3]; simp
  have hxl : x.length = 2 + 3 * K + (tailT T).length := by rw [hxe]; simp [blk3_len]; omega
  rw [hx]
  have key : ∀ (d j : Nat), j + d = K → 1 + 67 * j ≤ most → x.drop (2 + 3 * j) = blk3 d ++ tailT T → Ev (fun k => impl_Expand.l0 k x (most : Int) (zs (1 + 67 * j)) ((2 + 3 * j : Nat) : Int)) (if n ≤ most then (zs n, true) else ([], false)) := by
    intro d
    induction d with
    | zero =>
      intro j hj hmj hd
      obtain rfl : j = K := by omega
      rw [show blk3 0 = [] from rfl, List.nil_append] at hd
      unfold tailT at hd
      by_cases h0 : T = 0
      · rw [if_pos h0] at hd
        rw [if_pos (by omega), show n = 1 + 67 * j by omega]
        refine exp_end ?_
        have := congrArg List.length hd
        rw [List.length_drop] at this
        simp only [List.length_nil] at this
        omega
      · rw [if_neg h0] at hd
        by_cases h3 : T ≤ 3
        · rw [if_pos h3] at hd
          obtain ⟨c, rfl⟩ : ∃ c, T = c + 1 := ⟨T - 1, by omega⟩
          refine exp_lit (c := c) (rest := []) (by omega) (by rw [zs_len]; omega) (by omega) (by rw [hd, List.append_nil]; rfl) (fun h => ?_) (fun h => ?_)
          · rw [zs_len] at h
            rw [if_pos (by omega), zs_add, show 1 + 67 * j + (c + 1) = n by omega]
            refine exp_end ?_
            have := congrArg List.length hd
            rw [List.length_drop] at this
            simp only [List.length_cons, zs_len] at this
            omega
          · rw [zs_len] at h
            rw [if_neg (by omega)]
        · rw [if_neg h3] at hd
          refine exp_back (t := T) (rest := []) (by omega) (by omega) (by omega) (by omega) (by omega) hd (fun h => ?_) (fun h => ?_)
          · rw [if_pos (by omega), show 1 + 67 * j + T = n by omega]
            refine exp_end ?_
            have := congrArg List.length hd
            rw [List.length_drop] at this
            simp only [List.length_cons, List.length_nil] at this
            omega
          · rw [if_neg (by omega)]
    | succ d ih =>
      intro j hj hmj hd
      rw [blk3_succ] at hd
      refine exp_back (t := 67) (rest := blk3 d ++ tailT T) (by omega) (by omega) (by omega) (by omega) (by omega) hd (fun h => ?_) (fun h => ?_)
      · have h2 := ih (j + 1) (by omega) (by omega) (by
          have := congrArg (List.drop 3) hd
          rw [List.drop_drop] at this
          rw [show 2 + 3 * (j + 1) = 2 + 3 * j + 3 by omega, this]
          rfl)
        rw [show 1 + 67 * j + 67 = 1 + 67 * (j + 1) by omega, show 2 + 3 * j + 3 = 2 + 3 * (j + 1) by omega]
        exact h2
      · rw [if_neg (by omega)]
  unfold impl_Expand.f
  rw [show (fun k => if (most : Int) < 0 then impl_Expand.j0 k x (most : Int) true else impl_Expand.j0 k x (most : Int) (decide ((most : Int) > 60000))) = fun k => impl_Expand.j0 k x (most : Int) false from by
    funext k; rw [if_neg (by omega), decide_eq_false (by omega)]]
  refine Ev.step (f := fun k => impl_Expand.l0 k x (most : Int) ([] : List Int) 0) (fun k => by rw [impl_Expand.j0, if_neg (by simp)]) ?_
  refine exp_lit (i := 0) (c := 0) (rest := blk3 K ++ tailT T) (by omega) (by simp) (by omega) (by rw [List.drop_zero, hxe]; rfl) (fun h => ?_) (fun h => ?_)
  · exact key K 0 (by omega) (by omega) (by rw [hxe]; rfl)
  · simp only [List.length_nil] at h; omega
end Go.Proofs.Ytkfacigicohfkaa.LimK
