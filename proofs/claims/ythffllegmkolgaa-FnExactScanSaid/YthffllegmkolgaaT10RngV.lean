/- Joined: MapV, RngV. -/
import Derived.Maps.Own
import Derived.Maps.OwnSet
import Derived.Maps.Views
import Derived.Test.YthffllegmkolgaaT10WWords
import Derived.Maps.RangeWalk
import Derived.Sort.KeysCollected
namespace Go.Proofs.Ythffllegmkolgaa.MapKit
open Go.RowKit Go.Proofs.YthffllegmkolgaaW.PrintWords
open Go.Maps (Keyed IsMap)
def MapV (P : Program) (kt : TypeId) (w : World) (b n : Nat) (f : Lit → Option Value) : Prop :=
  ∃ D : DataW Value, w.ownsMap P kt (fun v => some (.held v, [])) b n D ∧ ∀ l, WideAt.IsKeyLit l → Maps.has D l = (f l).isSome ∧ ∀ v, f l = some v → ∀ z, D.atKey l z = .held v
variable {P : Program} {kt : TypeId} {w w' : World} {b n : Nat} {f : Lit → Option Value}
theorem MapV.made (w : World) : MapV P kt (w.alloc (.map #[] 0)) w.heap.size 0 (fun _ => none) :=
  ⟨_, World.ownsMap_made w _ _ _, fun _ _ => ⟨rfl, fun v h => by cases h⟩⟩
theorem MapV.lt (h : MapV P kt w b n f) : b < w.heap.size := by obtain ⟨D, h, _⟩ := h; exact h.lt
theorem MapV.kept {row : Option Nat} (h : MapV P kt w b n f) (hg : w.grownBy w' row) (hne : some b ≠ row) : MapV P kt w' b n f := by obtain ⟨D, h, h2⟩ := h; exact ⟨D, h.kept hg hne, h2⟩
theorem MapV.below (h : MapV P kt w b n f) (hb : Below w.heap.size w w') : MapV P kt w' b n f := h.kept (row := none) ⟨hb.os, hb.tape, hb.output, hb.size, fun i hi _ => hb.block i hi⟩ (by simp)
theorem MapV.drewN (h : MapV P kt w b n f) (m : Nat) : MapV P kt (w.drewN m) b n f := h
theorem MapV.drew (h : MapV P kt w b n f) : MapV P kt w.drew b n f := h
theorem MapV.alloc (h : MapV P kt w b n f) (o : Obj) : MapV P kt (w.alloc o) b n f := h.below (below_alloc (Below.refl _ _) o)
theorem MapV.congr {g : Lit → Option Value} (h : MapV P kt w b n f) (hg : ∀ l, WideAt.IsKeyLit l → g l = f l) : MapV P kt w b n g := by
  obtain ⟨D, h, h2⟩ := h
  exact ⟨D, h, fun l hl => by rw [hg l hl]; exact h2 l hl⟩
theorem MapV.look2 {t e : TypeId} (h : MapV P kt w b n f) (K : Keyed P kt) (ht : P.underlying t = some (.map kt e)) {z : Value} (hz : (zeroValue e).run P w = .ok z w) {key : Value} {kl : Lit} (hkey : keyOf P kt key = some kl) {v : Value} {ok : Bool}
    (hv : (f kl).getD z = v) (hok : (f kl).isSome = ok) : (Instr.lookup t (.map (some b)) key true).run P w = .ok (.tuple #[v, .bool ok]) w := by
  obtain ⟨D, h, h2⟩ := h
  obtain ⟨h3, h4⟩ := h2 kl (K.key hkey)
  obtain ⟨v', ps, hrun, hR⟩ := h.look_ok K ht hz (zd := .held z) (zp := []) rfl hkey
  rw [hrun, h3, hok]
  simp only [Option.some.injEq, Prod.mk.injEq] at hR
  cases hf : f kl with
  | none =>
    rw [hf] at h3 hv
    rw [Maps.atKey_of_not_has h3] at hR
    injection hR.1 with e1
    rw [← hv, e1]; rfl
  | some x =>
    rw [hf] at hv
    rw [h4 x hf] at hR
    injection hR.1 with e1
    rw [← hv, e1]; rfl
theorem MapV.store {t e : TypeId} (h : MapV P kt w b n f) (K : Keyed P kt) (ht : P.underlying t = some (.map kt e)) (hn : n < maxLen) {key val : Value} {kl : Lit} (hkey : keyOf P kt key = some kl) {ops : Array Oper} {rest : List Oper} {o : Oper} {a : Act} {Q : Exit → Act → World → Prop}
    (hg : o.guard = none) (m x v : Operand) (hop : o.op = Op.mapUpdate t m x v) (hm : a.eval m = .map (some b)) (hx : a.eval x = key) (hv : a.eval v = val)
    {g : Lit → Option Value} (hg1 : g kl = some val) (hg2 : ∀ l, WideAt.IsKeyLit l → l ≠ kl → g l = f l)
    (hK : ∀ w', MapV P kt w' b (n + 1) g → w.grownBy w' (some b) → wpList P ops Q rest (a.put o.dst undef) w') : wpList P ops Q (o :: rest) a w := by
  obtain ⟨D, h, h2⟩ := h
  refine wpList_mapUpdate_own w hg m x v t hop kt e K ht _ b n D hm h hn _ _ kl hx hv hkey (.held val) [] rfl (fun w' h' hgr => hK w' ⟨_, h', fun l hl => ?_⟩ hgr)
  have hkl := K.key hkey
  by_cases e1 : l = kl
  · subst e1
    rw [hg1]
    exact ⟨by rw [Maps.has_put_same h.isMap hkl]; rfl, fun v hv z => by injection hv with hv; subst hv; exact Maps.atKey_put_same h.isMap hkl _ _⟩
  · rw [hg2 l hl e1]
    refine ⟨by rw [Maps.has_put_other e1]; exact (h2 l hl).1, fun v hv z => by rw [Maps.atKey_put_other e1]; exact (h2 l hl).2 v hv z⟩
end Go.Proofs.Ythffllegmkolgaa.MapKit

namespace Go.Proofs.Ythffllegmkolgaa.MapKit
open Go.RowKit Go.Proofs.YthffllegmkolgaaW.PrintWords
open Go.Maps (Keyed IsMap)
def RngV (P : Program) (kt : TypeId) (w : World) (b r n : Nat) (f : Lit → Option Value) (left : Lit → Bool) (cnt : Nat) : Prop :=
  ∃ D : DataW Value, w.ranges P kt (fun v => some (.held v, [])) b r n D left cnt ∧ (∀ l, WideAt.IsKeyLit l → Maps.has D l = (f l).isSome ∧ ∀ v, f l = some v → ∀ z, D.atKey l z = .held v) ∧ ∀ k, left (.string k) = true → (f (.string k)).isSome = true
variable {P : Program} {kt : TypeId} {w w' : World} {b r n : Nat} {f : Lit → Option Value} {left : Lit → Bool} {cnt : Nat}
theorem RngV.kept {row : Option Nat} (h : RngV P kt w b r n f left cnt) (hg : w.grownBy w' row) (hb : some b ≠ row) (hr : some r ≠ row) : RngV P kt w' b r n f left cnt := by
  obtain ⟨D, h, h2⟩ := h
  exact ⟨D, h.kept hg hb hr, h2⟩
theorem RngV.below (h : RngV P kt w b r n f left cnt) (hb : Below w.heap.size w w') : RngV P kt w' b r n f left cnt := h.kept (row := none) ⟨hb.os, hb.tape, hb.output, hb.size, fun i hi _ => hb.block i hi⟩ (by simp) (by simp)
theorem RngV.drewN (h : RngV P kt w b r n f left cnt) (m : Nat) : RngV P kt (w.drewN m) b r n f left cnt := h
section
variable {ops : Array Oper} {rest : List Oper} {o : Oper} {a : Act} {Q : Exit → Act → World → Prop}
theorem MapV.range {t e : TypeId} (h : MapV P kt w b n f) (K : Keyed P kt) (ht : P.underlying t = some (.map kt e)) (hg : o.guard = none) (m : Operand) (hop : o.op = Op.range t m) (hm : a.eval m = .map (some b))
    (hK : ∀ w' left cnt, RngV P kt w' b w.heap.size n f left cnt → (∀ k, left (.string k) = (f (.string k)).isSome) → cnt ≤ n → Below w.heap.size w w' → w'.heap.size = w.heap.size + 1 → wpList P ops Q rest (a.put o.dst (.pointer (some ⟨w.heap.size, 0, none⟩))) w') :
    wpList P ops Q (o :: rest) a w := by
  obtain ⟨D, h, h2⟩ := h
  refine wpList_range_own w hg m t hop kt e K ht _ b n D hm h (fun w' hr hgr hsz => ?_)
  exact hK w' _ _ ⟨D, hr, h2, fun k hk => by rw [← (h2 (.string k) trivial).1]; exact hk⟩ (fun k => (h2 (.string k) trivial).1) h.size_le ((Below.refl _ _).grown hgr (Nat.le_refl _) (fun k hk => by cases hk)) hsz
theorem RngV.next (h : RngV P kt w b r n f left cnt) (K : Keyed P kt) (hks : P.underlying kt = some .string) (hg : o.guard = none) (it : Operand) (hop : o.op = Op.next it false) (hit : a.eval it = .pointer (some ⟨r, 0, none⟩))
    (hDone : (∀ l, left l = false) → wpList P ops Q rest (a.put o.dst (.tuple #[.bool false])) w)
    (hMore : ∀ (s : ByteArray) (v : Value) (w' : World) (cnt' : Nat), s.size ≤ maxLen → left (.string s.toList) = true → f (.string s.toList) = some v → RngV P kt w' b r n f (fun z => left z && !z.sameKey (.string s.toList)) cnt' → cnt' < cnt → w.grownBy w' (some r) →
      w'.heap.size = w.heap.size → (Instr.entry (.pointer (some ⟨r, 0, none⟩))).run P w' = .ok (.tuple #[.string s, v]) w' → wpList P ops Q rest (a.put o.dst (.tuple #[.bool true, .string s, v])) w') :
    wpList P ops Q (o :: rest) a w := by
  obtain ⟨D, h, h2, h3⟩ := h
  refine wpList_plain hg fun K' hK' => ?_
  unfold Oper.wp
  rcases h.next K o.type with ⟨h0, hl, hrun⟩ | ⟨key, v, kl, y, w', cnt', hkey, hlk, hv, hat, hrun, hrg, hlt, hgr, hsz, hen⟩
  · simp [execOp, hop, hit, hrun, Result.andThen]
    exact hK' _ _ (hDone hl)
  · obtain ⟨x, rfl, rfl, hx⟩ := Maps.keyOf_str hks hkey
    obtain ⟨s, hs⟩ : ∃ s : ByteArray, s = ⟨x.toArray⟩ := ⟨_, rfl⟩
    have e1 : Go.Proofs.encStr x = .string s := by rw [hs]; first | done | rfl
    have e2 : s.toList = x := by rw [hs, ByteArray.toList_eq]
    rw [e1] at hrun hen
    subst e2
    simp only [Option.some.injEq] at hv
    subst hv
    have hsz' : s.size ≤ maxLen := by
      have e : s.toList.length = s.size := by rw [ByteArray.toList_eq]; rfl
      rw [← e]; exact hx
    have hf := h3 _ hlk
    obtain ⟨v2, hv2⟩ := Option.isSome_iff_exists.1 hf
    have e3 := (hat (.held undef)).symm.trans ((h2 (.string s.toList) trivial).2 v2 hv2 (.held undef))
    injection e3 with e3
    subst e3
    simp [execOp, hop, hit, hrun, Result.andThen]
    refine hK' _ _ (hMore s v w' cnt' hsz' hlk hv2 ⟨D, hrg, h2, fun k hk => ?_⟩ hlt hgr hsz hen)
    rw [Bool.and_eq_true] at hk
    exact h3 k hk.1
end
end Go.Proofs.Ythffllegmkolgaa.MapKit
