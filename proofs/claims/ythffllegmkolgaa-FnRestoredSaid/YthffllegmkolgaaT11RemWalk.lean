/- The law FnRemembered, called with whatever can be read: it returns true and nothing that was there has changed. -/
import Derived.Test.YthffllegmkolgaaT11Draw
import Derived.Test.YthffllegmkolgaaT11Chgd
import Derived.Test.YthffllegmkolgaaT11FlOwn
import Derived.Test.YthffllegmkolgaaT11LookCalls
import Derived.Test.YthffllegmkolgaaT11QTreex18
namespace Go.Proofs.Ythffllegmkolgaa.TreeK
open Go.RowKit Go.Proofs.YthffllegmkolgaaW.PrintWords Go.Proofs.YthffllegmkolgaaW.PrintLast Go.Proofs.YthffllegmkolgaaW.PrintMore Go.Proofs.Ythffllegmkolgaa.QTree Go.Proofs.Ythffllegmkolgaa.EvKit Go.Proofs.Ythffllegmkolgaa.GTree Go.Proofs.Ythffllegmkolgaa.Open
set_option linter.unusedSimpArgs false
set_option linter.unusedVariables false
set_option linter.unnecessarySimpa false
abbrev BY := Kd.int .u8
def okB (x : List Int) : Prop := x.length ≤ 9223372036854775807 ∧ ∀ a ∈ x, 0 ≤ a ∧ a ≤ 255
theorem opens_bytes : Opens Try.prog 38 (Kd.slice 5 BY) okB := Opens.imp (opens_slice Try.underlying38 (by kernel_rfl) (opensU8 Try.underlying5)) (fun _ h => ⟨h.1, h.2⟩)
theorem call_big (A : Option Addr) (c : Nat) (bs : List Int) (r : Bool) (w : World) (hC : BY.C w A bs.length bs) (hc : bs.length ≤ c) (hr : decide ((bs.length : Int) > 1048576) = r) :
    Calls Try.prog 22 #[.slice A bs.length c] w fun e w' => e = .returned (.bool r) ∧ Below w.heap.size w w' := by
  refine (laws_big.calls A c bs r w hC hc (by unfold laws_big.f; rw [hr])).mono ?_
  rintro e w' ⟨rfl, nd, rfl⟩
  exact ⟨rfl, pw_below_drewN (Below.refl _ _) _⟩
theorem at_ex (bs : List Int) (i : Int) (hi : 0 ≤ i ∧ i ≤ 1000) (hb : bs.length ≤ 1048576) (ok : ∀ a ∈ bs, 0 ≤ a ∧ a ≤ 255) : ∃ r, laws_at.f bs i = some r ∧ 0 ≤ r := by
  unfold laws_at.f
  by_cases hl : i < (bs.length : Int)
  · rw [if_pos hl, if_pos hi.1]
    refine ⟨_, rfl, ?_⟩
    have hlt : i.toNat < bs.length := by omega
    have hr : rd bs i = bs[i.toNat] := by simp [rd, hlt]
    have h1 := ok _ (List.getElem_mem hlt)
    rw [hr, w64 (by omega) (by omega)]
    exact h1.1
  · rw [if_neg hl]
    refine ⟨_, rfl, ?_⟩
    have h7 : wrap64 (i * 7) = i * 7 := w64 (by omega) (by omega)
    rw [h7, w64 (by omega) (by omega)]
    exact Int.tmod_nonneg _ (by omega)
theorem call_at (A : Option Addr) (c : Nat) (bs : List Int) (i r : Int) (w : World) (hC : BY.C w A bs.length bs) (hc : bs.length ≤ c) (hr : laws_at.f bs i = some r) :
    Calls Try.prog 26 #[.slice A bs.length c, .int .i64 i] w fun e w' => e = .returned (.int .i64 r) ∧ Below w.heap.size w w' := by
  refine (laws_at.calls A c bs i r w hC hc hr).mono ?_
  rintro e w' ⟨rfl, nd, rfl⟩
  exact ⟨rfl, pw_below_drewN (Below.refl _ _) _⟩
end Go.Proofs.Ythffllegmkolgaa.TreeK
