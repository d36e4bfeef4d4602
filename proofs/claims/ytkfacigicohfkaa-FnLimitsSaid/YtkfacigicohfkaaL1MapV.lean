/- A map of the call's own, whatever its element type: what it holds at each key. -/
import Derived.Maps.Own
import Derived.Maps.OwnSet
import Derived.Maps.Views
import Derived.Test.YtkfacigicohfkaaL1WWords
namespace Go.Proofs.Ytkfacigicohfkaa.MapKit
open Go.RowKit Go.Proofs.YtkfacigicohfkaaW.PrintWords
open Go.Maps (Keyed IsMap)
def MapV (P : Program) (kt : TypeId) (w : World) (b n : Nat) (f : Lit → Option Value) : Prop :=
  ∃ D : DataW Value, w.ownsMap P kt (fun v => some (.held v, [])) b n D ∧ ∀ l, WideAt.IsKeyLit l → Maps.has D l = (f l).isSome ∧ ∀ v, f l = some v → ∀ z, D.atKey l z = .held v
variable {P : Program} {kt : TypeId} {w w' : World} {b n : Nat} {f : Lit → Option Value}
theorem MapV.made (w : World) : MapV P kt (w.alloc (.map #[] 0)) w.heap.size 0 (fun _ => none) :=
  ⟨_, World.ownsMap_made w _ _ _, fun _ _ => ⟨rfl, fun v h => by cases h⟩⟩
theorem MapV.kept {row : Option Nat} (h : MapV P kt w b n f) (hg : w.grownBy w' row) (hne : some b ≠ row) : MapV P kt w' b n f := by obtain ⟨D, h, h2⟩ := h; exact ⟨D, h.kept hg hne, h2⟩
theorem MapV.below (h : MapV P kt w b n f) (hb : Below w.heap.size w w') : MapV P kt w' b n f := h.kept (row := none) ⟨hb.os, hb.tape, hb.output, hb.size, fun i hi _ => hb.block i hi⟩ (by simp)
theorem MapV.drewN (h : MapV P kt w b n f) (m : Nat) : MapV P kt (w.drewN m) b n f := h
theorem MapV.drew (h : MapV P kt w b n f) : MapV P kt w.drew b n f := h
theorem MapV.alloc (h : MapV P kt w b n f) (o : Obj) : MapV P kt (w.alloc o) b n f := h.below (below_alloc (Below.refl _ _) o)
theorem MapV.congr {g : Lit → Option Value} (h : MapV P kt w b n f) (hg : ∀ l, WideAt.IsKeyLit l → g l = f l) : MapV P kt w b n g := by
  obtain ⟨D, h, h2⟩ := h
  exact ⟨D, h, fun l hl => by rw [hg l hl]; exact h2 l hl⟩
theorem MapV.look1 {t e : TypeId} (h : MapV P kt w b n f) (K : Keyed P kt) (ht : P.underlying t = some (.map kt e)) {z : Value} (hz : (zeroValue e).run P w = .ok z w) {key : Value} {kl : Lit} (hkey : keyOf P kt key = some kl) {v : Value}
    (hv : (f kl).getD z = v) : (Instr.lookup t (.map (some b)) key false).run P w = .ok v w := by
  obtain ⟨D, h, h2⟩ := h
  obtain ⟨h3, h4⟩ := h2 kl (K.key hkey)
  obtain ⟨v', ps, hrun, hR⟩ := h.lookup K ht hz (zd := .held z) (zp := []) rfl hkey
  rw [hrun]
  simp only [Option.some.injEq, Prod.mk.injEq] at hR
  cases hf : f kl with
  | none =>
    rw [hf] at h3 hv
    rw [Maps.atKey_of_not_has h3] at hR
    injection hR.1 with e1
    rw [← hv, e1]; rfl
  | some x =>
    rw [hf] at hv
    rw [h4 x hf] at hR
    injection hR.1 with e1
    rw [← hv, e1]; rfl
theorem MapV.store {t e : TypeId} (h : MapV P kt w b n f) (K : Keyed P kt) (ht : P.underlying t = some (.map kt e)) (hn : n < maxLen) {key val : Value} {kl : Lit} (hkey : keyOf P kt key = some kl) {ops : Array Oper} {rest : List Oper} {o : Oper} {a : Act} {Q : Exit → Act → World → Prop}
    (hg : o.guard = none) (m x v : Operand) (hop : o.op = Op.mapUpdate t m x v) (hm : a.eval m = .map (some b)) (hx : a.eval x = key) (hv : a.eval v = val)
    {g : Lit → Option Value} (hg1 : g kl = some val) (hg2 : ∀ l, WideAt.IsKeyLit l → l ≠ kl → g l = f l)
    (hK : ∀ w', MapV P kt w' b (n + 1) g → w.grownBy w' (some b) → wpList P ops Q rest (a.put o.dst undef) w') : wpList P ops Q (o :: rest) a w := by
  obtain ⟨D, h, h2⟩ := h
  refine wpList_mapUpdate_own w hg m x v t hop kt e K ht _ b n D hm h hn _ _ kl hx hv hkey (.held val) [] rfl (fun w' h' hgr => hK w' ⟨_, h', fun l hl => ?_⟩ hgr)
  have hkl := K.key hkey
  by_cases e1 : l = kl
  · subst e1
    rw [hg1]
    exact ⟨by rw [Maps.has_put_same h.isMap hkl]; rfl, fun v hv z => by injection hv with hv; subst hv; exact Maps.atKey_put_same h.isMap hkl _ _⟩
  · rw [hg2 l hl e1]
    refine ⟨by rw [Maps.has_put_other e1]; exact (h2 l hl).1, fun v hv z => by rw [Maps.atKey_put_other e1]; exact (h2 l hl).2 v hv z⟩
end Go.Proofs.Ytkfacigicohfkaa.MapKit
