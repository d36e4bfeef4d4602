/- The states of Squeeze over n zeros, in plain Lean. -/
import Derived.Test.YtkfacigicohfkaaL1SqKit
namespace Go.Proofs.Ytkfacigicohfkaa.LimK
open Go.RowKit Go.Proofs.YtkfacigicohfkaaW.PrintWords Go.Proofs.YtkfacigicohfkaaW.PrintLast Go.Proofs.YtkfacigicohfkaaW.PrintMore Go.Proofs.Ytkfacigicohfkaa.QLim Go.Proofs.Ytkfacigicohfkaa.EvKit
set_option linter.unusedSimpArgs false
set_option linter.unusedVariables false
def Inv (n i f : Nat) (out : List Int) : Prop :=
  (i ≤ 1 ∧ f = 0 ∧ out = []) ∨ (∃ K, 1 ≤ K ∧ f = 1 + 67 * K ∧ f ≤ n ∧ out = outK K ∧ (i = f ∨ (n < f + 4 ∧ f ≤ i))) ∨ (∃ K t, 4 ≤ t ∧ t < 67 ∧ n = 1 + 67 * K + t ∧ f = n ∧ i = n ∧ out = outK K ++ [((124 + t : Nat) : Int), 0, 0])
theorem outK_len (K : Nat) : (outK K).length = 2 + 3 * K := by unfold outK; rw [List.length_append, blk3_len]; rfl
theorem outK_snoc (K : Nat) : outK K ++ [191, 0, 0] = outK (K + 1) := by unfold outK; rw [blk3_snoc, List.append_assoc]
theorem Inv.len {n i f : Nat} {out : List Int} (h : Inv n i f out) (hn : n ≤ 4000) : out.length ≤ 90000 := by
  rcases h with ⟨_, _, rfl⟩ | ⟨K, _, _, _, rfl, _⟩ | ⟨K, t, _, _, _, _, _, rfl⟩
  · simp
  · rw [outK_len]; omega
  · rw [List.length_append, outK_len]; simp; omega
theorem sqz_of {n K t : Nat} (h : n = 1 + 67 * K + t) (ht : t < 67) : sqz n = outK K ++ tailT t := by
  unfold sqz
  rw [show (n - 1) / 67 = K by omega, show (n - 1) % 67 = t by omega]
theorem Inv.fin {n f : Nat} {out : List Int} (h : Inv n n f out) (hn : 70 ≤ n) : f ≤ n ∧ n - f ≤ 100 ∧ plO out f n = sqz n := by
  rcases h with ⟨h, _, _⟩ | ⟨K, h1, rfl, h3, rfl, h4⟩ | ⟨K, t, h1, h2, h3, rfl, _, rfl⟩
  · omega
  · refine ⟨h3, by omega, ?_⟩
    obtain ⟨t, ht⟩ : ∃ t, n = 1 + 67 * K + t := ⟨n - (1 + 67 * K), by omega⟩
    rw [sqz_of ht (by omega)]
    unfold plO tailT
    by_cases h0 : t = 0
    · rw [if_neg (by omega), if_pos h0, List.append_nil]
    · rw [if_pos (by omega), if_neg h0, if_pos (by omega), show n - (1 + 67 * K) = t by omega]
  · refine ⟨Nat.le_refl _, by omega, ?_⟩
    rw [sqz_of h3 h2]
    unfold plO tailT
    rw [if_neg (by omega), if_neg (by omega), if_neg (by omega)]
theorem Inv.skip {n i f : Nat} {out : List Int} (h : Inv n i f out) (hn : 70 ≤ n) (hi : i < n) (h4 : ¬ i + 4 ≤ n) : Inv n (i + 1) f out := by
  rcases h with ⟨h, _, _⟩ | ⟨K, h1, h2, h3, h5, h6⟩ | ⟨K, t, h1, h2, h3, h5, h6, _⟩
  · omega
  · exact .inr (.inl ⟨K, h1, h2, h3, h5, .inr (by omega)⟩)
  · omega
theorem Inv.first {n f : Nat} {out : List Int} (h : Inv n 0 f out) (hn : 70 ≤ n) : Inv n 1 f out := by
  rcases h with ⟨_, h1, h2⟩ | ⟨K, h1, h2, h3, h5, h6⟩ | ⟨K, t, h1, h2, h3, h5, h6, _⟩
  · exact .inl ⟨Nat.le_refl _, h1, h2⟩
  · omega
  · omega
theorem Inv.eat {n i f nn : Nat} {out : List Int} (h : Inv n i f out) (hn : 70 ≤ n) (h1 : 1 ≤ i) (h4 : i + 4 ≤ n) (hnn : nn = min 67 (n - i)) : f ≤ i ∧ i - f ≤ 100 ∧ Inv n (i + nn) (i + nn) (plO out f i ++ [((124 + nn : Nat) : Int), 0, 0]) := by
  rcases h with ⟨hi, rfl, rfl⟩ | ⟨K, k1, rfl, k3, rfl, k6⟩ | ⟨K, t, k1, k2, k3, k5, k6, _⟩
  · obtain rfl : i = 1 := by omega
    obtain rfl : nn = 67 := by omega
    refine ⟨by omega, by omega, .inr (.inl ⟨1, Nat.le_refl _, by omega, by omega, ?_, .inl rfl⟩)⟩
    unfold plO
    rw [if_pos (by omega)]
    rfl
  · obtain rfl : i = 1 + 67 * K := by omega
    have e : plO (outK K) (1 + 67 * K) (1 + 67 * K) = outK K := by unfold plO; rw [if_neg (by omega)]
    rw [e]
    refine ⟨Nat.le_refl _, by omega, ?_⟩
    by_cases h67 : nn = 67
    · subst h67
      exact .inr (.inl ⟨K + 1, by omega, by omega, by omega, outK_snoc K, .inl rfl⟩)
    · exact .inr (.inr ⟨K, nn, by omega, by omega, by omega, by omega, by omega, rfl⟩)
  · omega
theorem plO_len (out : List Int) (f t : Nat) : (plO out f t).length ≤ out.length + 1 + (t - f) := by
  unfold plO
  by_cases h : f < t
  · rw [if_pos h, List.length_append, List.length_cons, zs_len]; omega
  · rw [if_neg h]; omega
end Go.Proofs.Ytkfacigicohfkaa.LimK
