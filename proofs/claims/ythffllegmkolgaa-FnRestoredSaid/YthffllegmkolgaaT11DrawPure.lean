/- Joined: RemPure, DrawPure. -/
import Derived.Test.YthffllegmkolgaaT11ResPure
import Derived.Test.YthffllegmkolgaaT11LookPure
import Derived.Test.YthffllegmkolgaaT11QTreex17
import Derived.Test.YthffllegmkolgaaT11QTreex18
import Derived.Laws.BitsLemmas
namespace Go.Proofs.Ythffllegmkolgaa.TreeK
open Go.RowKit Go.Proofs.YthffllegmkolgaaW.PrintWords Go.Proofs.YthffllegmkolgaaW.PrintLast Go.Proofs.YthffllegmkolgaaW.PrintMore Go.Proofs.Ythffllegmkolgaa.QTree Go.Proofs.Ythffllegmkolgaa.EvKit Go.Proofs.Ythffllegmkolgaa.GTree
set_option linter.unusedSimpArgs false
set_option linter.unusedVariables false
def celT (x : Tre) : List Cel := x.f0 ++ x.f1.flatten
theorem srt_mem_iff {l : List Cel} {y : Cel} : y ∈ srt l ↔ y ∈ l := (srt_perm l).mem_iff
theorem join_mem (ls : List (List Cel)) (y : Cel) : y ∈ (joinL ls).flatten ↔ y ∈ ls.flatten := by
  unfold joinL
  by_cases h6 : ls.length > 6
  case neg => rw [if_neg h6]
  rw [if_pos h6]
  obtain ⟨a, ha⟩ : ∃ a, a = ls.getD (ls.length - 2) [] := ⟨_, rfl⟩
  obtain ⟨b, hb⟩ : ∃ b, b = ls.getD (ls.length - 1) [] := ⟨_, rfl⟩
  have e : ls = ls.take (ls.length - 2) ++ [a, b] := by
    have e1 : ls.drop (ls.length - 2) = [a, b] := by
      rw [List.drop_eq_getElem_cons (by omega), show ls.length - 2 + 1 = ls.length - 1 by omega, List.drop_eq_getElem_cons (by omega), show ls.length - 1 + 1 = ls.length by omega, List.drop_length, ha, hb, List.getD_eq_getElem?_getD, List.getD_eq_getElem?_getD, List.getElem?_eq_getElem (by omega), List.getElem?_eq_getElem (by omega)]; rfl
    rw [← e1, List.take_append_drop]
  rw [← ha, ← hb]
  generalize ls.take (ls.length - 2) = p at e
  subst e
  rw [List.flatten_append, List.flatten_append, List.mem_append, List.mem_append]
  simp only [List.flatten_cons, List.flatten_nil, List.append_nil, srt_mem_iff]
theorem flR_mem (m : List Cel) (rs : List (List Cel)) (y : Cel) : y ∈ (flR m rs).flatten ↔ y ∈ m ∨ y ∈ rs.flatten := by
  unfold flR
  by_cases h : m = []
  · rw [if_pos h, h]; simp
  · rw [if_neg h, join_mem, List.flatten_cons, List.mem_append]
theorem ch_mem (m : List Cel) (rs : List (List Cel)) (s q : Int) (c y : Cel) : (y ∈ chM m s q c ∨ y ∈ (chR m rs q).flatten) ↔ (y ∈ m ∨ y ∈ rs.flatten) ∨ y = chC s c := by
  unfold chM chR chA
  rw [srt_mem_iff]
  by_cases h : (m.length : Int) = q
  · rw [if_pos h, if_pos h, flR_mem]; simp only [List.nil_append, List.mem_singleton]
    constructor
    · rintro (h | h | h) <;> simp [h]
    · rintro ((h | h) | h) <;> simp [h]
  · rw [if_neg h, if_neg h]; simp only [List.mem_append, List.mem_singleton]
    constructor
    · rintro ((h | h) | h) <;> simp [h]
    · rintro ((h | h) | h) <;> simp [h]
def okC (c : Cel) : Prop := c.f0.size ≤ 100 ∧ c.f1.size ≤ 100 ∧ (c.f3 = true → c.f1 = ⟨#[]⟩)
def bld (most : Int) (l : List Cel) : Nat → Tre
  | 0 => ⟨[], [], 0, most⟩
  | j + 1 => (chT (bld most l j) (l.getD j zCel)).1
theorem bld_facts {most : Int} {l : List Cel} (hm : 1 ≤ most ∧ most ≤ 50) (hl : l.length ≤ 400) (hc : ∀ c ∈ l, okC c) : ∀ j, j ≤ l.length →
    trB (bld most l j) = true ∧ (bld most l j).f2 = (j : Int) ∧ (∀ y, y ∈ celT (bld most l j) ↔ ∃ i, i < j ∧ y = chC (i : Int) (l.getD i zCel)) ∧ (j < l.length → (chT (bld most l j) (l.getD j zCel)) = (bld most l (j + 1), true)) := by
  intro j
  induction j with
  | zero =>
    intro _
    refine ⟨res_none hm, rfl, fun y => by simp [celT, bld], fun h => ?_⟩
    have hcc := hc _ (List.getElem_mem h)
    have hg : l.getD 0 zCel = l[0] := by rw [List.getD_eq_getElem?_getD, List.getElem?_eq_getElem h]; rfl
    have hb : chB (bld most l 0).f2 (l.getD 0 zCel) = true := by
      rw [hg]; unfold chB
      simp only [Bool.and_eq_true, decide_eq_true_eq, Bool.not_eq_true', beq_eq_false_iff_ne]
      exact ⟨⟨by show (0 : Int) ≠ 400; omega, by have := hcc.1; omega⟩, by have := hcc.2.1; omega⟩
    show _ = ((chT (bld most l 0) (l.getD 0 zCel)).1, true)
    rw [chT, if_pos ⟨res_none hm, hb⟩]
  | succ j ih =>
    intro hj
    obtain ⟨i1, i2, i3, i4⟩ := ih (by omega)
    have i4 := i4 (by omega)
    have step : ∀ n (hn : n < l.length), trB (bld most l n) = true → (bld most l n).f2 = (n : Int) → chT (bld most l n) (l.getD n zCel) = (⟨chM (bld most l n).f0 (bld most l n).f2 (bld most l n).f3 (l.getD n zCel), chR (bld most l n).f0 (bld most l n).f1 (bld most l n).f3, (bld most l n).f2 + 1, (bld most l n).f3⟩, true) ∧ chB (bld most l n).f2 (l.getD n zCel) = true ∧ (!(l.getD n zCel).f3 || (l.getD n zCel).f1.toList == ([] : List UInt8)) = true := by
      intro n hn h1 h2
      have hg : l.getD n zCel = l[n] := by rw [List.getD_eq_getElem?_getD, List.getElem?_eq_getElem hn]; rfl
      have hcc := hc _ (List.getElem_mem hn)
      have hb : chB (bld most l n).f2 (l.getD n zCel) = true := by
        rw [hg, h2]; unfold chB
        simp only [Bool.and_eq_true, decide_eq_true_eq, Bool.not_eq_true', beq_eq_false_iff_ne]
        exact ⟨⟨by omega, by have := hcc.1; omega⟩, by have := hcc.2.1; omega⟩
      refine ⟨by rw [chT, if_pos ⟨h1, hb⟩], hb, ?_⟩
      rw [hg]
      cases hf : (l[n]).f3 with
      | false => rfl
      | true => rw [hcc.2.2 hf, show (⟨#[]⟩ : ByteArray).toList = [] from by rw [ByteArray.toList_eq]]; rfl
    obtain ⟨s1, s2, s3⟩ := step j (by omega) i1 i2
    have e : bld most l (j + 1) = ⟨chM (bld most l j).f0 (bld most l j).f2 (bld most l j).f3 (l.getD j zCel), chR (bld most l j).f0 (bld most l j).f1 (bld most l j).f3, (bld most l j).f2 + 1, (bld most l j).f3⟩ := by
      show (chT (bld most l j) (l.getD j zCel)).1 = _
      rw [s1]
    have r1 : trB (bld most l (j + 1)) = true := by rw [e]; exact ch_right i1 s2 s3
    have r2 : (bld most l (j + 1)).f2 = ((j + 1 : Nat) : Int) := by rw [e]; show (bld most l j).f2 + 1 = _; rw [i2]; omega
    refine ⟨r1, r2, fun y => ?_, fun h => ?_⟩
    · rw [e]
      show y ∈ chM _ _ _ _ ++ (chR _ _ _).flatten ↔ _
      rw [List.mem_append, ch_mem, ← List.mem_append]
      rw [show (y ∈ (bld most l j).f0 ++ (bld most l j).f1.flatten) ↔ _ from i3 y, i2]
      constructor
      · rintro (⟨i, h1, h2⟩ | h)
        · exact ⟨i, by omega, h2⟩
        · exact ⟨j, by omega, h⟩
      · rintro ⟨i, h1, h2⟩
        by_cases hij : i = j
        · subst hij; exact .inr h2
        · exact .inl ⟨i, by omega, h2⟩
    · rw [(step (j + 1) h r1 r2).1]
      show _ = ((chT (bld most l (j + 1)) (l.getD (j + 1) zCel)).1, true)
      rw [(step (j + 1) h r1 r2).1]
theorem seen_max (seq : Int) (key : List UInt8) : ∀ (xs : List Cel), (seenC seq xs key = none → ∀ c ∈ xs, c.f0.toList = key → ¬ c.f2 ≤ seq) ∧ (∀ c, seenC seq xs key = some c → c ∈ xs ∧ c.f0.toList = key ∧ c.f2 ≤ seq ∧ ∀ d ∈ xs, d.f0.toList = key → d.f2 ≤ seq → d.f2 ≤ c.f2) := by
  intro xs
  obtain ⟨n, hn⟩ : ∃ n, n = xs.length := ⟨_, rfl⟩
  induction n generalizing xs with
  | zero =>
    obtain rfl := List.eq_nil_of_length_eq_zero hn.symm
    exact ⟨fun _ c hc => (by cases hc), fun c h => (by simp [seenC] at h)⟩
  | succ n ih =>
    obtain ⟨ys, z, rfl⟩ : ∃ ys z, xs = ys ++ [z] := ⟨xs.dropLast, xs.getLast (by rintro rfl; simp at hn), (List.dropLast_concat_getLast _).symm⟩
    obtain ⟨h1, h2⟩ := ih ys (by simp at hn; exact hn)
    rw [seenC_snoc]
    by_cases hz : z.f0.toList = key ∧ hitB seq z (seenC seq ys key) = true
    · rw [if_pos hz]
      obtain ⟨hk, hh⟩ := hz
      unfold hitB at hh
      rw [Bool.and_eq_true, decide_eq_true_eq] at hh
      refine ⟨fun h => (by cases h), fun c hc => ?_⟩
      injection hc with hc
      subst hc
      refine ⟨by simp, hk, hh.1, fun d hd hdk hds => ?_⟩
      rcases List.mem_append.1 hd with hd | hd
      · cases ho : seenC seq ys key with
        | none => exact absurd hds (h1 ho d hd hdk)
        | some o =>
          rw [ho] at hh
          have h3 := (h2 o ho).2.2.2 d hd hdk hds
          have h4 : o.f2 < z.f2 := by simpa using hh.2
          omega
      · rw [List.mem_singleton.1 hd]; exact Int.le_refl _
    · rw [if_neg hz]
      refine ⟨fun h c hc hk hs => ?_, fun c hc => ?_⟩
      · rcases List.mem_append.1 hc with hc | hc
        · exact h1 h c hc hk hs
        · rw [List.mem_singleton.1 hc] at hk hs
          exact hz ⟨hk, by unfold hitB; rw [h]; simp [hs]⟩
      · obtain ⟨g1, g2, g3, g4⟩ := h2 c hc
        refine ⟨List.mem_append_left _ g1, g2, g3, fun d hd hdk hds => ?_⟩
        rcases List.mem_append.1 hd with hd | hd
        · exact g4 d hd hdk hds
        · rw [List.mem_singleton.1 hd] at hdk hds ⊢
          rcases Int.lt_or_le c.f2 z.f2 with hlt | hle
          · exact absurd ⟨hdk, by unfold hitB; rw [hc]; simp [hds, hlt]⟩ hz
          · exact hle
def lastN (l : List Cel) (key : ByteArray) : Nat → ByteArray × Bool
  | 0 => (⟨#[]⟩, false)
  | n + 1 => if n < l.length ∧ (l.getD n zCel).f0.toList = key.toList then ((l.getD n zCel).f1, !(l.getD n zCel).f3) else lastN l key n
theorem lastN_none (l : List Cel) (key : ByteArray) : ∀ n, (∀ i, i < n → i < l.length → (l.getD i zCel).f0.toList ≠ key.toList) → lastN l key n = (⟨#[]⟩, false) := by
  intro n
  induction n with
  | zero => intro _; rfl
  | succ n ih =>
    intro h
    rw [lastN, if_neg (fun h2 => h n (by omega) h2.1 h2.2)]
    exact ih (fun i hi => h i (by omega))
theorem lastN_some (l : List Cel) (key : ByteArray) : ∀ n i, i < n → i < l.length → (l.getD i zCel).f0.toList = key.toList → (∀ k, i < k → k < n → k < l.length → (l.getD k zCel).f0.toList ≠ key.toList) → lastN l key n = ((l.getD i zCel).f1, !(l.getD i zCel).f3) := by
  intro n
  induction n with
  | zero => intro i hi; omega
  | succ n ih =>
    intro i hi hl hk hm
    by_cases he : i = n
    · subst he; rw [lastN, if_pos ⟨hl, hk⟩]
    · rw [lastN, if_neg (fun h2 => hm n (by omega) (by omega) h2.1 h2.2)]
      exact ih i (by omega) hl hk (fun k h1 h2 => hm k h1 (by omega))
theorem look_last {xs : List Cel} {l : List Cel} (h : ∀ y, y ∈ xs ↔ ∃ i, i < l.length ∧ y = chC (i : Int) (l.getD i zCel)) (key : ByteArray) (s : Nat) (hs : s ≤ l.length) : lookR xs key (s : Int) = lastN l key s := by
  obtain ⟨h1, h2⟩ := seen_max (s : Int) key.toList xs
  unfold lookR
  cases ho : seenC (s : Int) xs key.toList with
  | none =>
    refine (lastN_none l key s (fun i hi hl hk => ?_)).symm
    have hm := (h (chC (i : Int) (l.getD i zCel))).2 ⟨i, hl, rfl⟩
    have hn := h1 ho _ hm hk
    have he : (chC (i : Int) (l.getD i zCel)).f2 = (i : Int) + 1 := rfl
    omega
  | some c =>
    obtain ⟨g1, g2, g3, g4⟩ := h2 c ho
    obtain ⟨i, hi, rfl⟩ := (h c).1 g1
    have he : (chC (i : Int) (l.getD i zCel)).f2 = (i : Int) + 1 := rfl
    refine (lastN_some l key s i (by omega) hi g2 (fun k hik hks hkl hkk => ?_)).symm
    have hm := (h (chC (k : Int) (l.getD k zCel))).2 ⟨k, hkl, rfl⟩
    have hn := g4 _ hm hkk (by show (k : Int) + 1 ≤ s; omega)
    have he2 : (chC (k : Int) (l.getD k zCel)).f2 = (k : Int) + 1 := rfl
    omega
end Go.Proofs.Ythffllegmkolgaa.TreeK

namespace Go.Proofs.Ythffllegmkolgaa.TreeK
open Go.RowKit Go.Proofs.YthffllegmkolgaaW.PrintWords Go.Proofs.YthffllegmkolgaaW.PrintLast Go.Proofs.YthffllegmkolgaaW.PrintMore Go.Proofs.Ythffllegmkolgaa.QTree Go.Proofs.Ythffllegmkolgaa.EvKit Go.Proofs.Ythffllegmkolgaa.GTree
set_option linter.unusedSimpArgs false
set_option linter.unusedVariables false
theorem and255 (x : Int) : 0 ≤ Go.bits .and .i64 x 255 ∧ Go.bits .and .i64 x 255 ≤ 255 := by
  have h : ∀ a : BitVec 64, (a &&& BitVec.ofInt 64 255).toNat ≤ 255 := fun a => by
    rw [BitVec.toNat_and]
    exact Nat.le_trans Nat.and_le_right (by decide)
  have h1 := h (BitVec.ofInt 64 x)
  have e : Go.bits .and .i64 x 255 = wrap64 (((BitVec.ofInt 64 x &&& BitVec.ofInt 64 255).toNat : Nat) : Int) := i64_w _
  rw [e, w64 (by omega) (by omega)]
  omega
section
variable (bs : List Int) (i h : Int)
theorem byte_ex (hi : 0 ≤ i) (hb : bs.length ≤ 1048576) : ∃ r i' h', spec_l1Byte.f bs i h = some (r, i', h') ∧ 0 ≤ r ∧ r ≤ 255 ∧ 0 ≤ i' := by
  unfold spec_l1Byte.f
  by_cases hl : i < (bs.length : Int)
  · rw [if_pos hl, if_pos hi]
    exact ⟨_, _, _, rfl, (and255 _).1, (and255 _).2, by rw [w64 (by omega) (by omega)]; omega⟩
  · rw [if_neg hl]
    exact ⟨_, _, _, rfl, (and255 _).1, (and255 _).2, hi⟩
theorem below_ex (n : Int) (hn : 0 < n ∧ n ≤ 256) (hi : 0 ≤ i) (hb : bs.length ≤ 1048576) : ∃ r i' h', spec_l1Below.f bs i h n = some (r, i', h') ∧ 0 ≤ r ∧ r < n ∧ 0 ≤ i' := by
  obtain ⟨r, i', h', e, h0, h1, h2⟩ := byte_ex bs i h hi hb
  unfold spec_l1Below.f
  rw [if_neg (by omega), if_pos hn.2, e]
  simp only [Option.bind_some]
  rw [if_neg (by omega)]
  exact ⟨_, _, _, rfl, Int.tmod_nonneg _ h0, Int.tmod_lt_of_pos _ hn.1, h2⟩
theorem once_ex (n : Int) (hn : 0 < n ∧ n ≤ 256) (hi : 0 ≤ i) (hb : bs.length ≤ 1048576) : ∃ r i' h', spec_l1Once.f bs i h n = some (r, i', h') ∧ 0 ≤ i' := by
  obtain ⟨r, i', h', e, h0, h1, h2⟩ := below_ex bs i h n hn hi hb
  unfold spec_l1Once.f
  rw [e]
  exact ⟨_, _, _, rfl, h2⟩
theorem pick_ex (l : List ByteArray) (hl : 0 < l.length ∧ l.length ≤ 256) (hi : 0 ≤ i) (hb : bs.length ≤ 1048576) : ∃ r i' h', spec_l1Pick.f bs i h l = some (r, i', h') ∧ r ∈ l ∧ 0 ≤ i' := by
  obtain ⟨r, i', h', e, h0, h1, h2⟩ := below_ex bs i h (l.length : Int) (by omega) hi hb
  unfold spec_l1Pick.f
  rw [e]
  simp only [Option.bind_some]
  rw [if_pos h0, if_pos h1]
  refine ⟨_, _, _, rfl, ?_, h2⟩
  have hlt : r.toNat < l.length := by omega
  have hr : rdOf ByteArray.empty l r = l[r.toNat] := by simp [rdOf, hlt]
  rw [hr]
  exact List.getElem_mem _
theorem pickInt_ex (l : List Int) (hl : 0 < l.length ∧ l.length ≤ 256) (hi : 0 ≤ i) (hb : bs.length ≤ 1048576) : ∃ r i' h', spec_l1PickInt.f bs i h l = some (r, i', h') ∧ r ∈ l ∧ 0 ≤ i' := by
  obtain ⟨r, i', h', e, h0, h1, h2⟩ := below_ex bs i h (l.length : Int) (by omega) hi hb
  unfold spec_l1PickInt.f
  rw [e]
  simp only [Option.bind_some]
  rw [if_pos h0, if_pos h1]
  refine ⟨_, _, _, rfl, ?_, h2⟩
  have hlt : r.toNat < l.length := by omega
  have hr : rd l r = l[r.toNat] := by simp [rd, hlt]
  rw [hr]
  exact List.getElem_mem _
theorem size_ex (n : Int) (hn : 2 ≤ n ∧ n ≤ 1000) (hb : bs.length ≤ 1048576) : ∃ r, spec_l1Size.f bs n = some r ∧ 2 ≤ r ∧ r ≤ n := by
  unfold spec_l1Size.f
  have h1 : wrap64 ((bs.length : Int) / 20) = (bs.length : Int) / 20 := w64 (by omega) (by omega)
  have h2 : wrap64 (2 + (bs.length : Int) / 20) = 2 + (bs.length : Int) / 20 := w64 (by omega) (by omega)
  rw [h1, h2]
  by_cases h : 2 + (bs.length : Int) / 20 > n
  · rw [if_pos h]; exact ⟨_, rfl, by omega, by omega⟩
  · rw [if_neg h]; exact ⟨_, rfl, by omega, by omega⟩
end
def keysD : List ByteArray := [⟨#[97]⟩, ⟨#[98]⟩, ⟨#[99]⟩, ⟨#[107, 49]⟩, ⟨#[]⟩, ⟨#[122, 122]⟩]
def valsD : List ByteArray := [⟨#[49]⟩, ⟨#[50]⟩, ⟨#[]⟩, ⟨#[116, 104, 114, 101, 101]⟩]
def mostD : List Int := [1, 2, 3, 8, 50]
theorem keys_small : ∀ k ∈ keysD, k.size ≤ 2 := by
  intro k hk
  simp [keysD] at hk
  rcases hk with rfl | rfl | rfl | rfl | rfl | rfl <;> decide
theorem vals_small : ∀ k ∈ valsD, k.size ≤ 5 := by
  intro k hk
  simp [valsD] at hk
  rcases hk with rfl | rfl | rfl | rfl <;> decide
theorem most_in : ∀ k ∈ mostD, 1 ≤ k ∧ k ≤ 50 := by
  intro k hk
  simp [mostD] at hk
  omega
def drawnC (c : Cel) : Prop := c.f0.size ≤ 2 ∧ c.f1.size ≤ 5 ∧ c.f2 = 0 ∧ (c.f3 = true → c.f1 = ⟨#[]⟩)
theorem drawn_ok {c : Cel} (h : drawnC c) : okC c := ⟨by have := h.1; omega, by have := h.2.1; omega, h.2.2.2⟩
end Go.Proofs.Ythffllegmkolgaa.TreeK
