/- Joined: LookCalls, RemWalk. -/
import Derived.Test.YthffllegmkolgaaT9Seen
import Derived.Test.YthffllegmkolgaaT9TreeLawKit
import Derived.Test.YthffllegmkolgaaT9Draw
import Derived.Test.YthffllegmkolgaaT9Chgd
import Derived.Test.YthffllegmkolgaaT9FlOwn
import Derived.Test.YthffllegmkolgaaT9QTreex18
namespace Go.Proofs.Ythffllegmkolgaa.TreeK
open Go.RowKit Go.Proofs.YthffllegmkolgaaW.PrintWords Go.Proofs.YthffllegmkolgaaW.PrintLast Go.Proofs.YthffllegmkolgaaW.PrintMore Go.Proofs.Ythffllegmkolgaa.QTree Go.Proofs.Ythffllegmkolgaa.EvKit Go.Proofs.Ythffllegmkolgaa.GTree Go.Proofs.Ythffllegmkolgaa.MapKit
def lookX (x : Tre) (key : ByteArray) (seq : Int) : ByteArray × Bool := if trB x = true then lookR (x.f0 ++ x.f1.flatten) key seq else (⟨#[]⟩, false)
theorem tree_len8 {x : Tre} (s : sm_Tree x) (h : trB x = true) : (x.f0 ++ x.f1.flatten).length ≤ 8388608 := by
  have h1 := flat_len x.f1 (fun y hy => (s.2.1.2 y hy).1)
  have h2 := tree_lens h
  have h3 := s.1.1
  rw [List.length_append]
  omega
set_option maxHeartbeats 1600000 in
set_option maxRecDepth 100000 in
theorem call_look_impl (A B : Option Addr) (c d : Nat) (x : Tre) (key : ByteArray) (seq : Int) (W : World) (h : TreeC W x A c B d) (s : sm_Tree x) (hkey : key.size ≤ maxLen) :
    Calls Try.prog 21 #[.agg #[.slice A x.f0.length c, .slice B x.f1.length d, .int .i64 x.f2, .int .i64 x.f3], .string key, .int .i64 seq] W fun e w' => e = .returned (.tuple #[.string (lookX x key seq).1, .bool (lookX x key seq).2]) ∧ Below W.heap.size W w' := by
  have T1 : ∀ V : World, Below W.heap.size W V → _ := fun V hb => call_tree_impl A B c d x V (h.below hb) s
  have S1 : trB x = true → ∀ V : World, Below W.heap.size W V → _ := fun ht V hb => call_seen A B c d x.f0 x.f1 x.f2 x.f3 seq V (h.below hb).1.2 h.1.1 (h.below hb).2.2 h.2.1 (tree_len8 s ht) (tree_cells ht)
  replace T1 := zA T1
  replace S1 := zA S1
  obtain ⟨t, ht⟩ : ∃ t, trB x = t := ⟨_, rfl⟩
  have HR : Aside0 (lookX x key seq = if t = true then lookR (x.f0 ++ x.f1.flatten) key seq else (⟨#[]⟩, false)) := ⟨by unfold lookX; rw [ht]⟩
  rw [ht] at T1 S1
  generalize lookX x key seq = R at *
  generalize hX : x.f0 ++ x.f1.flatten = X at *
  clear h s hX ht
  go_enter Try.func21, Try.ntmps21
  go_upto_region 1 with (fail)
  have BK := zA (blk_new W (.cells #[.slice A x.f0.length c, .slice B x.f1.length d, .int .i64 x.f2, .int .i64 x.f3] 31))
  have HB := zA (bel_alloc W (.cells #[.slice A x.f0.length c, .slice B x.f1.length d, .int .i64 x.f2, .int .i64 x.f3] 31))
  generalize W.alloc (.cells #[.slice A x.f0.length c, .slice B x.f1.length d, .int .i64 x.f2, .int .i64 x.f3] 31) = W1 at *
  have hx0 := (keep4 BK.out).1
  have hx1 := (keep4 BK.out).2.1
  have hx2 := (keep4 BK.out).2.2.1
  have hx3 := (keep4 BK.out).2.2.2
  cases t
  case false =>
    obtain rfl := HR.out
    go_wp2_with (go_at_call 18; refine (T1.out _ (by repeat (first | (with_reducible exact HB.out) | apply pw_below_drewN))).mono ?_; rintro e w' ⟨rfl, hb⟩; replace HB := zA (bel (by repeat (first | (with_reducible exact HB.out) | apply pw_below_drewN)) hb); clear hb)
    go_ret2
    exact ⟨rfl, by repeat (first | (with_reducible exact HB.out) | apply pw_below_drewN)⟩
  case true =>
    replace HR : Aside0 (R = lookR X key seq) := ⟨by simpa using HR.out⟩
    replace S1 := zA (S1.out rfl)
    go_upto_region 3 with (go_at_call 18; refine (T1.out _ (by repeat (first | (with_reducible exact HB.out) | apply pw_below_drewN))).mono ?_; rintro e w' ⟨rfl, hb⟩; replace BK := zA (blk_below BK.out hb); replace HB := zA (bel (by repeat (first | (with_reducible exact HB.out) | apply pw_below_drewN)) hb); clear hb hx0 hx1 hx2 hx3)
    have hx0 := (keep4 BK.out).1
    have hx1 := (keep4 BK.out).2.1
    have hx2 := (keep4 BK.out).2.2.1
    have hx3 := (keep4 BK.out).2.2.2
    obtain ⟨o, ho⟩ : ∃ o, seenC seq X key.toList = o := ⟨_, rfl⟩
    obtain ⟨⟨d0, d1, d2, d3⟩, hd⟩ : ∃ d : Cel, o.getD zCel = d := ⟨_, rfl⟩
    obtain ⟨had, hh⟩ : ∃ b, o.isSome = b := ⟨_, rfl⟩
    have HF : Aside0 (R = (d1, had && !d3)) := ⟨by
      rw [HR.out]
      unfold lookR
      rw [ho, ← hh]
      cases o with
      | none => simp only [Option.getD_none, zCel] at hd; injection hd with _ h1 _ _; rw [← h1]; rfl
      | some y => simp only [Option.getD_some] at hd; subst hd; simp⟩
    obtain rfl := HF.out
    clear HF HR
    have LK : Aside0 (∀ w b n, MapV Try.prog 9 w b n (seenF seq X) → (Instr.lookup 81 (.map (some b)) (.string key) true).run Try.prog w = .ok (.tuple #[celV ⟨d0, d1, d2, d3⟩, .bool had]) w) := ⟨fun w b n h => seen_look h hkey (by rw [ho, hd]) (by rw [ho, hh])⟩
    unfold celV at LK
    clear ho hd hh
    go_upto_region 4 with (go_at_call 62; refine (S1.out _ (by repeat (first | (with_reducible exact HB.out) | apply pw_below_drewN))).mono ?_; rintro e w5 ⟨b5, n5, rfl, hm, hb, _⟩; have hlk := LK.out _ _ _ hm; replace HB := zA (bel (by repeat (first | (with_reducible exact HB.out) | apply pw_below_drewN)) hb); clear hm hb hx0 hx1 hx2 hx3 BK)
    have B4 := zA (blk_new w5 (.cells #[.string d0, .string d1, .int .i64 d2, .bool d3] 48))
    replace HB := zA (bel HB.out (bel_alloc w5 (.cells #[.string d0, .string d1, .int .i64 d2, .bool d3] 48)))
    clear hlk
    generalize w5.alloc (.cells #[.string d0, .string d1, .int .i64 d2, .bool d3] 48) = W6 at *
    generalize w5.heap.size = g6 at *
    have hy0 := (keep4 B4.out).1
    have hy1 := (keep4 B4.out).2.1
    have hy2 := (keep4 B4.out).2.2.1
    have hy3 := (keep4 B4.out).2.2.2
    cases had
    case false =>
      go_quiet (fail)
      go_wp2
      go_ret2
      exact ⟨rfl, by repeat (first | (with_reducible exact HB.out) | apply pw_below_drewN)⟩
    case true =>
      go_quiet (fail)
      go_wp2
      go_ret2
      exact ⟨rfl, by repeat (first | (with_reducible exact HB.out) | apply pw_below_drewN)⟩
end Go.Proofs.Ythffllegmkolgaa.TreeK

namespace Go.Proofs.Ythffllegmkolgaa.TreeK
open Go.RowKit Go.Proofs.YthffllegmkolgaaW.PrintWords Go.Proofs.YthffllegmkolgaaW.PrintLast Go.Proofs.YthffllegmkolgaaW.PrintMore Go.Proofs.Ythffllegmkolgaa.QTree Go.Proofs.Ythffllegmkolgaa.EvKit Go.Proofs.Ythffllegmkolgaa.GTree Go.Proofs.Ythffllegmkolgaa.Open
set_option linter.unusedSimpArgs false
set_option linter.unusedVariables false
set_option linter.unnecessarySimpa false
theorem small_max {k : ByteArray} (h : k.size ≤ 2) : k.size ≤ maxLen := Nat.le_trans h (by unfold maxLen; decide)
abbrev BY := Kd.int .u8
def okB (x : List Int) : Prop := x.length ≤ 9223372036854775807 ∧ ∀ a ∈ x, 0 ≤ a ∧ a ≤ 255
theorem opens_bytes : Opens Try.prog 38 (Kd.slice 5 BY) okB := Opens.imp (opens_slice Try.underlying38 (by kernel_rfl) (opensU8 Try.underlying5)) (fun _ h => ⟨h.1, h.2⟩)
theorem call_big (A : Option Addr) (c : Nat) (bs : List Int) (r : Bool) (w : World) (hC : BY.C w A bs.length bs) (hc : bs.length ≤ c) (hr : decide ((bs.length : Int) > 1048576) = r) :
    Calls Try.prog 22 #[.slice A bs.length c] w fun e w' => e = .returned (.bool r) ∧ Below w.heap.size w w' := by
  refine (laws_big.calls A c bs r w hC hc (by unfold laws_big.f; rw [hr])).mono ?_
  rintro e w' ⟨rfl, nd, rfl⟩
  exact ⟨rfl, pw_below_drewN (Below.refl _ _) _⟩
theorem at_ex (bs : List Int) (i : Int) (hi : 0 ≤ i ∧ i ≤ 1000) (hb : bs.length ≤ 1048576) (ok : ∀ a ∈ bs, 0 ≤ a ∧ a ≤ 255) : ∃ r, laws_at.f bs i = some r ∧ 0 ≤ r := by
  unfold laws_at.f
  by_cases hl : i < (bs.length : Int)
  · rw [if_pos hl, if_pos hi.1]
    refine ⟨_, rfl, ?_⟩
    have hlt : i.toNat < bs.length := by omega
    have hr : rd bs i = bs[i.toNat] := by simp [rd, hlt]
    have h1 := ok _ (List.getElem_mem hlt)
    rw [hr, w64 (by omega) (by omega)]
    exact h1.1
  · rw [if_neg hl]
    refine ⟨_, rfl, ?_⟩
    have h7 : wrap64 (i * 7) = i * 7 := w64 (by omega) (by omega)
    rw [h7, w64 (by omega) (by omega)]
    exact Int.tmod_nonneg _ (by omega)
theorem call_at (A : Option Addr) (c : Nat) (bs : List Int) (i r : Int) (w : World) (hC : BY.C w A bs.length bs) (hc : bs.length ≤ c) (hr : laws_at.f bs i = some r) :
    Calls Try.prog 26 #[.slice A bs.length c, .int .i64 i] w fun e w' => e = .returned (.int .i64 r) ∧ Below w.heap.size w w' := by
  refine (laws_at.calls A c bs i r w hC hc hr).mono ?_
  rintro e w' ⟨rfl, nd, rfl⟩
  exact ⟨rfl, pw_below_drewN (Below.refl _ _) _⟩
theorem bld_look {most : Int} {l : List Cel} (hm : 1 ≤ most ∧ most ≤ 50) (hl : l.length ≤ 400) (hc : ∀ c ∈ l, okC c) (key : ByteArray) (s : Nat) (hs : s ≤ l.length) : lookX (bld most l l.length) key (s : Int) = lastN l key s ∧ lookX (flT (bld most l l.length)) key (s : Int) = lastN l key s := by
  have hf := bld_facts hm hl hc l.length (Nat.le_refl _)
  refine ⟨?_, ?_⟩
  · rw [lookX, if_pos hf.1]
    exact look_last hf.2.2.1 key s hs
  · rw [lookX, if_pos (fl_right hf.1)]
    exact look_last (fun y => (fl_mem hf.1 y).trans (hf.2.2.1 y)) key s hs
end Go.Proofs.Ythffllegmkolgaa.TreeK
