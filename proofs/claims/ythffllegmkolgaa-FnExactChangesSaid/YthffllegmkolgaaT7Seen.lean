/- The program's Look, called: what it tells is 'lookR'. -/
import Derived.Test.YthffllegmkolgaaT7TreeSpec2
import Derived.Test.YthffllegmkolgaaT7QTreex8
import Derived.Test.YthffllegmkolgaaT7TreeWalk
import Derived.Test.YthffllegmkolgaaT7MapV
import Derived.BigQuiet
import Derived.Deep.RegionHeld3
import Derived.Carry
namespace Go.Proofs.Ythffllegmkolgaa.TreeK
open Go.RowKit Go.Proofs.YthffllegmkolgaaW.PrintWords Go.Proofs.YthffllegmkolgaaW.PrintLast Go.Proofs.YthffllegmkolgaaW.PrintMore Go.Proofs.Ythffllegmkolgaa.QTree Go.Proofs.Ythffllegmkolgaa.MapKit
set_option linter.unusedSimpArgs false
set_option linter.unusedVariables false
theorem cells_f (m : List Cel) (rs : List (List Cel)) (s q : Int) (h : (m ++ rs.flatten).length ≤ 8388608) : impl_cells.f m rs s q = some (m ++ rs.flatten) := by
  rw [List.length_append] at h
  unfold impl_cells.f impl_Cell_100.f impl_Cell_72.f
  rw [if_pos (by omega), if_pos (by omega)]
  simp only [Option.bind_some]
  rw [if_pos (by omega)]
theorem call_cells (A0 A1 : Option Addr) (c0 c1 : Nat) (m : List Cel) (rs : List (List Cel)) (seq most : Int) (w : World) (hC : k48.C w A0 m.length m) (hc0 : m.length ≤ c0) (hD : (Kd.slice 48 k48).C w A1 rs.length rs) (hc1 : rs.length ≤ c1) (h : (m ++ rs.flatten).length ≤ 8388608) :
    Calls Try.prog 75 #[.agg #[.slice A0 m.length c0, .slice A1 rs.length c1, .int .i64 seq, .int .i64 most]] w fun e w' => ∃ A c, e = .returned (.slice A (m ++ rs.flatten).length c) ∧ Kd.R k48 48 w' w.heap.size (fun _ => True) (.slice A (m ++ rs.flatten).length c) (m ++ rs.flatten) ∧ Below w.heap.size w w' := by
  refine (impl_cells.calls A0 c0 m A1 c1 rs seq most _ w hC hc0 hD hc1 (cells_f m rs seq most h)).mono ?_
  rintro e w' ⟨v, rfl, hR, hb⟩
  obtain ⟨A, c, rfl, hl, hC⟩ := Kd.R_reads hR
  exact ⟨A, c, rfl, hR, hb⟩
end Go.Proofs.Ythffllegmkolgaa.TreeK
