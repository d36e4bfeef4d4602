/- What the reference's draws give, in plain Lean: numbers in their bounds, elements of the lists they pick from. -/
import Derived.Test.YthffllegmkolgaaT9RemPure
import Derived.Test.YthffllegmkolgaaT9QTreex17
import Derived.Test.YthffllegmkolgaaT9QTreex18
import Derived.Laws.BitsLemmas
namespace Go.Proofs.Ythffllegmkolgaa.TreeK
open Go.RowKit Go.Proofs.YthffllegmkolgaaW.PrintWords Go.Proofs.YthffllegmkolgaaW.PrintLast Go.Proofs.YthffllegmkolgaaW.PrintMore Go.Proofs.Ythffllegmkolgaa.QTree Go.Proofs.Ythffllegmkolgaa.EvKit Go.Proofs.Ythffllegmkolgaa.GTree
set_option linter.unusedSimpArgs false
set_option linter.unusedVariables false
theorem and255 (x : Int) : 0 ≤ Go.bits .and .i64 x 255 ∧ Go.bits .and .i64 x 255 ≤ 255 := by
  have h : ∀ a : BitVec 64, (a &&& BitVec.ofInt 64 255).toNat ≤ 255 := fun a => by
    rw [BitVec.toNat_and]
    exact Nat.le_trans Nat.and_le_right (by decide)
  have h1 := h (BitVec.ofInt 64 x)
  have e : Go.bits .and .i64 x 255 = wrap64 (((BitVec.ofInt 64 x &&& BitVec.ofInt 64 255).toNat : Nat) : Int) := i64_w _
  rw [e, w64 (by omega) (by omega)]
  omega
section
variable (bs : List Int) (i h : Int)
theorem byte_ex (hi : 0 ≤ i) (hb : bs.length ≤ 1048576) : ∃ r i' h', spec_l1Byte.f bs i h = some (r, i', h') ∧ 0 ≤ r ∧ r ≤ 255 ∧ 0 ≤ i' := by
  unfold spec_l1Byte.f
  by_cases hl : i < (bs.length : Int)
  · rw [if_pos hl, if_pos hi]
    exact ⟨_, _, _, rfl, (and255 _).1, (and255 _).2, by rw [w64 (by omega) (by omega)]; omega⟩
  · rw [if_neg hl]
    exact ⟨_, _, _, rfl, (and255 _).1, (and255 _).2, hi⟩
theorem below_ex (n : Int) (hn : 0 < n ∧ n ≤ 256) (hi : 0 ≤ i) (hb : bs.length ≤ 1048576) : ∃ r i' h', spec_l1Below.f bs i h n = some (r, i', h') ∧ 0 ≤ r ∧ r < n ∧ 0 ≤ i' := by
  obtain ⟨r, i', h', e, h0, h1, h2⟩ := byte_ex bs i h hi hb
  unfold spec_l1Below.f
  rw [if_neg (by omega), if_pos hn.2, e]
  simp only [Option.bind_some]
  rw [if_neg (by omega)]
  exact ⟨_, _, _, rfl, Int.tmod_nonneg _ h0, Int.tmod_lt_of_pos _ hn.1, h2⟩
theorem once_ex (n : Int) (hn : 0 < n ∧ n ≤ 256) (hi : 0 ≤ i) (hb : bs.length ≤ 1048576) : ∃ r i' h', spec_l1Once.f bs i h n = some (r, i', h') ∧ 0 ≤ i' := by
  obtain ⟨r, i', h', e, h0, h1, h2⟩ := below_ex bs i h n hn hi hb
  unfold spec_l1Once.f
  rw [e]
  exact ⟨_, _, _, rfl, h2⟩
theorem pick_ex (l : List ByteArray) (hl : 0 < l.length ∧ l.length ≤ 256) (hi : 0 ≤ i) (hb : bs.length ≤ 1048576) : ∃ r i' h', spec_l1Pick.f bs i h l = some (r, i', h') ∧ r ∈ l ∧ 0 ≤ i' := by
  obtain ⟨r, i', h', e, h0, h1, h2⟩ := below_ex bs i h (l.length : Int) (by omega) hi hb
  unfold spec_l1Pick.f
  rw [e]
  simp only [Option.bind_some]
  rw [if_pos h0, if_pos h1]
  refine ⟨_, _, _, rfl, ?_, h2⟩
  have hlt : r.toNat < l.length := by omega
  have hr : rdOf ByteArray.empty l r = l[r.toNat] := by simp [rdOf, hlt]
  rw [hr]
  exact List.getElem_mem _
theorem pickInt_ex (l : List Int) (hl : 0 < l.length ∧ l.length ≤ 256) (hi : 0 ≤ i) (hb : bs.length ≤ 1048576) : ∃ r i' h', spec_l1PickInt.f bs i h l = some (r, i', h') ∧ r ∈ l ∧ 0 ≤ i' := by
  obtain ⟨r, i', h', e, h0, h1, h2⟩ := below_ex bs i h (l.length : Int) (by omega) hi hb
  unfold spec_l1PickInt.f
  rw [e]
  simp only [Option.bind_some]
  rw [if_pos h0, if_pos h1]
  refine ⟨_, _, _, rfl, ?_, h2⟩
  have hlt : r.toNat < l.length := by omega
  have hr : rd l r = l[r.toNat] := by simp [rd, hlt]
  rw [hr]
  exact List.getElem_mem _
theorem size_ex (n : Int) (hn : 2 ≤ n ∧ n ≤ 1000) (hb : bs.length ≤ 1048576) : ∃ r, spec_l1Size.f bs n = some r ∧ 2 ≤ r ∧ r ≤ n := by
  unfold spec_l1Size.f
  have h1 : wrap64 ((bs.length : Int) / 20) = (bs.length : Int) / 20 := w64 (by omega) (by omega)
  have h2 : wrap64 (2 + (bs.length : Int) / 20) = 2 + (bs.length : Int) / 20 := w64 (by omega) (by omega)
  rw [h1, h2]
  by_cases h : 2 + (bs.length : Int) / 20 > n
  · rw [if_pos h]; exact ⟨_, rfl, by omega, by omega⟩
  · rw [if_neg h]; exact ⟨_, rfl, by omega, by omega⟩
end
def keysD : List ByteArray := [⟨#[97]⟩, ⟨#[98]⟩, ⟨#[99]⟩, ⟨#[107, 49]⟩, ⟨#[]⟩, ⟨#[122, 122]⟩]
def valsD : List ByteArray := [⟨#[49]⟩, ⟨#[50]⟩, ⟨#[]⟩, ⟨#[116, 104, 114, 101, 101]⟩]
def mostD : List Int := [1, 2, 3, 8, 50]
theorem keys_small : ∀ k ∈ keysD, k.size ≤ 2 := by
  intro k hk
  simp [keysD] at hk
  rcases hk with rfl | rfl | rfl | rfl | rfl | rfl <;> decide
theorem vals_small : ∀ k ∈ valsD, k.size ≤ 5 := by
  intro k hk
  simp [valsD] at hk
  rcases hk with rfl | rfl | rfl | rfl <;> decide
theorem most_in : ∀ k ∈ mostD, 1 ≤ k ∧ k ≤ 50 := by
  intro k hk
  simp [mostD] at hk
  omega
def drawnC (c : Cel) : Prop := c.f0.size ≤ 2 ∧ c.f1.size ≤ 5 ∧ c.f2 = 0 ∧ (c.f3 = true → c.f1 = ⟨#[]⟩)
theorem drawn_ok {c : Cel} (h : drawnC c) : okC c := ⟨by have := h.1; omega, by have := h.2.1; omega, h.2.2.2⟩
section
theorem last_ev (l : List Cel) (key : ByteArray) (hl : l.length ≤ 1000000) : ∀ n : Nat, n ≤ 1000000 → Ev (fun k => laws_last.l0 k l key ((n : Int) - 1)) (lastN l key n) := by
  intro n
  induction n with
  | zero =>
    intro _
    refine Ev.step (f := fun _ => some (lastN l key 0)) (fun k => ?_) (Ev.now _)
    rw [laws_last.l0, if_neg (by omega)]; rfl
  | succ n ih =>
    intro hn
    have hI := ih (by omega)
    have e : ((n + 1 : Nat) : Int) - 1 = (n : Int) := by omega
    rw [e]
    have hw : wrap64 ((n : Int) - 1) = (n : Int) - 1 := w64 (by omega) (by omega)
    by_cases hlt : n < l.length
    · have hr : rd_T48 l (n : Int) = l[n] := at_rd_T48 l n hlt
      have hg : l.getD n zCel = l[n] := by rw [List.getD_eq_getElem?_getD, List.getElem?_eq_getElem hlt]; rfl
      by_cases hk : l[n].f0.toList = key.toList
      · refine Ev.step (f := fun _ => some (lastN l key (n + 1))) (fun k => ?_) (Ev.now _)
        rw [laws_last.l0, if_pos (by omega), if_pos (by omega), if_pos (by omega), hr, if_pos hk, lastN, if_pos ⟨hlt, by rw [hg]; exact hk⟩, hg]
      · refine Ev.step (f := fun k => laws_last.l0 k l key ((n : Int) - 1)) (fun k => ?_) (by rw [lastN, if_neg (fun h => hk (by rw [hg] at h; exact h.2))]; exact hI)
        rw [laws_last.l0, if_pos (by omega), if_pos (by omega), if_pos (by omega), hr, if_neg hk, hw]
    · refine Ev.step (f := fun k => laws_last.l0 k l key ((n : Int) - 1)) (fun k => ?_) (by rw [lastN, if_neg (fun h => hlt h.1)]; exact hI)
      rw [laws_last.l0, if_pos (by omega), if_neg (by omega), hw]
end
theorem call_last (A : Option Addr) (c : Nat) (l : List Cel) (key : ByteArray) (n : Nat) (w : World) (hC : KC.C w A l.length l) (hc : l.length ≤ c) (hl : l.length ≤ 1000000) (hn : n ≤ 1000000) :
    Calls Try.prog 27 #[.slice A l.length c, .string key, .int .i64 (n : Int)] w fun e w' => e = .returned (.tuple #[.string (lastN l key n).1, .bool (lastN l key n).2]) ∧ Below w.heap.size w w' := by
  obtain ⟨k, hk⟩ := Ev.rounds (last_ev l key hl n hn)
  refine (laws_last.calls k A c l key (n : Int) _ _ w hC hc (by unfold laws_last.f; rw [w64 (by omega) (by omega)]; exact hk)).mono ?_
  rintro e w' ⟨rfl, nd, rfl⟩
  exact ⟨rfl, pw_below_drewN (Below.refl _ _) _⟩
end Go.Proofs.Ythffllegmkolgaa.TreeK
