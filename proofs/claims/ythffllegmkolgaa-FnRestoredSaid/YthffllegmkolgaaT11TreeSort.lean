/- The order of cells, and the one sorted row of cells no two of which tie. Plain Lean. -/
import Derived.Test.YthffllegmkolgaaT11LookPure
import Derived.Sort.Walk0
import Derived.Sort.Statements
import Derived.Shelf.SlSortCmp.Insertion
namespace Go.Proofs.Ythffllegmkolgaa.TreeK
open Go.RowKit Go.Proofs.YthffllegmkolgaaW.PrintWords Go.Proofs.YthffllegmkolgaaW.PrintLast Go.Proofs.YthffllegmkolgaaW.PrintMore Go.Proofs.Ythffllegmkolgaa.QTree
set_option linter.unusedSimpArgs false
set_option linter.unusedVariables false
theorem bl_eq (x y : List UInt8) : Op.bytesLess x y = decide (x < y) := Go.Proofs.bytesLess_eq x y
theorem bl_irrefl (x : List UInt8) : Op.bytesLess x x = false := by rw [bl_eq]; simp
theorem bl_trans {x y z : List UInt8} (h1 : Op.bytesLess x y = true) (h2 : Op.bytesLess y z = true) : Op.bytesLess x z = true := by
  rw [bl_eq, decide_eq_true_eq] at *
  exact List.lt_trans h1 h2
theorem bl_tri (x y : List UInt8) : Op.bytesLess x y = true ∨ x = y ∨ Op.bytesLess y x = true := by
  rw [bl_eq, bl_eq, decide_eq_true_eq, decide_eq_true_eq]
  by_cases h : x < y
  · exact .inl h
  · by_cases h2 : y < x
    · exact .inr (.inr h2)
    · exact .inr (.inl (List.le_antisymm (List.not_lt.1 h2) (List.not_lt.1 h)))
theorem aheadB_iff (a b : Cel) : aheadB a b = true ↔ Op.bytesLess a.f0.toList b.f0.toList = true ∨ (a.f0.toList = b.f0.toList ∧ b.f2 < a.f2) := by
  unfold aheadB
  simp
theorem ahead_irrefl (a : Cel) : aheadB a a = false := by
  rw [Bool.eq_false_iff]
  intro h
  rcases (aheadB_iff a a).1 h with h | ⟨_, h⟩
  · rw [bl_irrefl] at h; cases h
  · omega
theorem ahead_trans {a b c : Cel} (h1 : aheadB a b = true) (h2 : aheadB b c = true) : aheadB a c = true := by
  rw [aheadB_iff] at *
  rcases h1 with h1 | ⟨e1, h1⟩ <;> rcases h2 with h2 | ⟨e2, h2⟩
  · exact .inl (bl_trans h1 h2)
  · exact .inl (e2 ▸ h1)
  · exact .inl (e1 ▸ h2)
  · exact .inr ⟨e1.trans e2, by omega⟩
theorem ahead_tri (a b : Cel) : aheadB a b = true ∨ (a.f0.toList = b.f0.toList ∧ a.f2 = b.f2) ∨ aheadB b a = true := by
  rw [aheadB_iff, aheadB_iff]
  rcases bl_tri a.f0.toList b.f0.toList with h | h | h
  · exact .inl (.inl h)
  · rcases Int.lt_trichotomy a.f2 b.f2 with h2 | h2 | h2
    · exact .inr (.inr (.inr ⟨h.symm, h2⟩))
    · exact .inr (.inl ⟨h, h2⟩)
    · exact .inl (.inr ⟨h, h2⟩)
  · exact .inr (.inr (.inl h))
theorem ahead_asymm {a b : Cel} (h1 : aheadB a b = true) (h2 : aheadB b a = true) : False := by
  have := ahead_trans h1 h2
  rw [ahead_irrefl] at this
  cases this
theorem ahead_swo : Go.Sort.SWO aheadB where
  irrefl := ahead_irrefl
  trans _ _ _ h1 h2 := ahead_trans h1 h2
  ntrans x y z h1 h2 := by
    rw [Bool.eq_false_iff] at *
    intro h3
    rcases ahead_tri x y with h | ⟨e1, e2⟩ | h
    · exact h1 h
    · have : aheadB y z = true := by
        rw [aheadB_iff] at h3 ⊢
        rw [← e1, ← e2]; exact h3
      exact h2 this
    · exact h2 (ahead_trans h h3)
theorem ltOf_ord (a b : Cel) : Go.Proofs.ltOf ordI a b = aheadB a b := by
  have h := ord_ahead a b
  unfold Go.Proofs.ltOf
  rw [Bool.eq_iff_iff]
  cases hb : aheadB a b with
  | true => rw [hb] at h; simp at h; simp; omega
  | false => rw [hb] at h; simp at h; simp; omega
theorem sorted_one {l1 l2 : List Cel} : l1.Pairwise (fun a b => aheadB a b = true) → l2.Pairwise (fun a b => aheadB a b = true) → l1.Perm l2 → l1 = l2 := by
  induction l1 generalizing l2 with
  | nil => intro _ _ hp; exact (List.nil_perm.1 hp).symm
  | cons a t ih =>
    intro h1 h2 hp
    cases l2 with
    | nil => exact absurd hp.symm (by simp)
    | cons b u =>
      obtain ⟨h1a, h1t⟩ := List.pairwise_cons.1 h1
      obtain ⟨h2b, h2u⟩ := List.pairwise_cons.1 h2
      have hab : a = b := by
        have ha : a ∈ b :: u := hp.mem_iff.1 List.mem_cons_self
        have hb : b ∈ a :: t := hp.mem_iff.2 List.mem_cons_self
        rcases List.mem_cons.1 ha with h | ha
        · exact h
        · rcases List.mem_cons.1 hb with h | hb
          · exact h.symm
          · exact (ahead_asymm (h1a b hb) (h2b a ha)).elim
      subst hab
      rw [ih h1t h2u ((List.perm_cons a).1 hp)]
def insC (c : Cel) : List Cel → List Cel
  | [] => [c]
  | x :: xs => if aheadB x c = true then x :: insC c xs else c :: x :: xs
def srtOn (a l : List Cel) : List Cel := l.foldl (fun a c => insC c a) a
def srt (l : List Cel) : List Cel := srtOn [] l
theorem insC_perm (c : Cel) : ∀ l, (insC c l).Perm (c :: l)
  | [] => List.Perm.refl _
  | x :: xs => by
    rw [insC]
    by_cases h : aheadB x c = true
    · rw [if_pos h]
      exact ((insC_perm c xs).cons x).trans (List.Perm.swap c x xs)
    · rw [if_neg h]
theorem srtOn_perm : ∀ (l a : List Cel), (srtOn a l).Perm (a ++ l)
  | [], a => by simp [srtOn]
  | c :: l, a => by
    show (srtOn (insC c a) l).Perm _
    exact (srtOn_perm l _).trans (((insC_perm c a).append_right l).trans (List.perm_middle.symm))
theorem srt_perm (l : List Cel) : (srt l).Perm l := by have h := srtOn_perm l []; rwa [List.nil_append] at h
def apart (a b : Cel) : Bool := aheadB a b || aheadB b a
theorem apart_iff (a b : Cel) : apart a b = true ↔ ¬ (a.f0.toList = b.f0.toList ∧ a.f2 = b.f2) := by
  unfold apart
  rw [Bool.or_eq_true]
  constructor
  · rintro (h | h) ⟨e1, e2⟩
    · rcases (aheadB_iff a b).1 h with h | ⟨_, h⟩
      · rw [e1, bl_irrefl] at h; cases h
      · omega
    · rcases (aheadB_iff b a).1 h with h | ⟨_, h⟩
      · rw [e1, bl_irrefl] at h; cases h
      · omega
  · intro h
    rcases ahead_tri a b with h1 | h1 | h1
    · exact .inl h1
    · exact absurd h1 h
    · exact .inr h1
theorem insC_sorted (c : Cel) : ∀ l, l.Pairwise (fun a b => aheadB a b = true) → (∀ x ∈ l, apart x c = true) → (insC c l).Pairwise (fun a b => aheadB a b = true)
  | [], _, _ => by simp [insC]
  | x :: xs, h, hd => by
    obtain ⟨h1, h2⟩ := List.pairwise_cons.1 h
    rw [insC]
    by_cases hx : aheadB x c = true
    · rw [if_pos hx]
      refine List.pairwise_cons.2 ⟨fun y hy => ?_, insC_sorted c xs h2 (fun y hy => hd y (List.mem_cons_of_mem _ hy))⟩
      rcases List.mem_cons.1 ((insC_perm c xs).mem_iff.1 hy) with rfl | hy
      · exact hx
      · exact h1 y hy
    · rw [if_neg hx]
      have hcx : aheadB c x = true := by
        have := hd x List.mem_cons_self
        unfold apart at this
        rw [Bool.or_eq_true] at this
        exact this.resolve_left hx
      refine List.pairwise_cons.2 ⟨fun y hy => ?_, h⟩
      rcases List.mem_cons.1 hy with rfl | hy
      · exact hcx
      · exact ahead_trans hcx (h1 y hy)
def noTie (l : List Cel) : Bool := decide (l.Pairwise (fun a b => apart a b = true))
theorem noTie_iff (l : List Cel) : noTie l = true ↔ l.Pairwise (fun a b => apart a b = true) := by unfold noTie; simp
theorem apart_comm (a b : Cel) : apart a b = apart b a := Bool.or_comm _ _
theorem noTie_perm {l l' : List Cel} (hp : l.Perm l') (h : noTie l = true) : noTie l' = true := by
  rw [noTie_iff] at *
  exact (hp.pairwise_iff (fun {a b} h => by rw [apart_comm]; exact h)).1 h
theorem srtOn_sorted : ∀ (l a : List Cel), a.Pairwise (fun a b => aheadB a b = true) → noTie (a ++ l) = true → (srtOn a l).Pairwise (fun a b => aheadB a b = true)
  | [], a, h, _ => h
  | c :: l, a, h, hn => by
    show (srtOn (insC c a) l).Pairwise _
    have hn2 := (noTie_iff _).1 hn
    refine srtOn_sorted l _ (insC_sorted c a h (fun x hx => ?_)) ?_
    · exact (List.pairwise_append.1 hn2).2.2 x hx c List.mem_cons_self
    · exact noTie_perm ((List.perm_middle).trans ((insC_perm c a).symm.append_right l)) hn
theorem srt_sorted {l : List Cel} (h : noTie l = true) : (srt l).Pairwise (fun a b => aheadB a b = true) := srtOn_sorted l [] List.Pairwise.nil (by simpa using h)
theorem srt_one {l l' : List Cel} (h : noTie l = true) (hs : l'.Pairwise (fun a b => aheadB a b = true)) (hp : l'.Perm l) : l' = srt l := sorted_one hs (srt_sorted h) (hp.trans (srt_perm l).symm)
theorem srt_of_weak {l l' : List Cel} (h : noTie l = true) (hs : l'.Pairwise (fun a b => aheadB b a = false)) (hp : l'.Perm l) : l' = srt l := by
  refine srt_one h ?_ hp
  have h2 := (noTie_iff _).1 (noTie_perm hp.symm h)
  refine (hs.and h2).imp ?_
  rintro a b ⟨h1, h3⟩
  unfold apart at h3
  rw [h1, Bool.or_false] at h3
  exact h3
end Go.Proofs.Ythffllegmkolgaa.TreeK
