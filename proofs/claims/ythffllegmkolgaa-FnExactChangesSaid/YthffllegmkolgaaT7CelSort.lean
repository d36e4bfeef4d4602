/- slices.SortFunc over cells by cellOrder, called: the row holds its cells sorted. -/
import Derived.Test.YthffllegmkolgaaT7TreeSort
import Derived.Test.YthffllegmkolgaaT7TreeCalls
import Derived.Test.YthffllegmkolgaaT7SortKit
import Derived.Test.YthffllegmkolgaaT7LaySort
import Derived.Shelf.SlSortCmp.NoneTotal
namespace Go.Proofs.Ythffllegmkolgaa.TreeK
open Go.RowKit Go.Proofs.YthffllegmkolgaaW.PrintWords Go.Proofs.YthffllegmkolgaaW.PrintLast Go.Proofs.YthffllegmkolgaaW.PrintMore Go.Proofs.Ythffllegmkolgaa.QTree Go.Sort
set_option linter.unusedSimpArgs false
set_option linter.unusedVariables false
theorem R_iso {α β : Type} {d : Kd α} {f : β → α} {e : Nat} {w : World} {base : Nat} {ok : Nat → Prop} {v : Value} {ys : List β} : (Kd.iso d f).R e w base ok v ys ↔ d.R e w base ok v (ys.map f) := by
  constructor
  · rintro ⟨hok, inner, hown, hl, hr⟩
    refine ⟨hok, inner, by rw [List.length_map]; exact hown, by rw [List.length_map]; exact hl, fun j p hj => ?_⟩
    rw [List.getElem?_map] at hj
    obtain ⟨q, hq, rfl⟩ := Option.map_eq_some_iff.1 hj
    exact hr j q hq
  · rintro ⟨hok, inner, hown, hl, hr⟩
    rw [List.length_map] at hown hl
    exact ⟨hok, inner, hown, hl, fun j p hj => hr j (f p) (by rw [List.getElem?_map, hj]; rfl)⟩
abbrev CelR := {c : Cel // 1 ≤ c.f2 ∧ c.f2 ≤ 400}
instance : Inhabited CelR := ⟨⟨⟨⟨#[]⟩, ⟨#[]⟩, 1, false⟩, by decide⟩⟩
def encC (c : Cel) : List Value := [.string c.f0, .string c.f1, .int .i64 c.f2, .bool c.f3]
end Go.Proofs.Ythffllegmkolgaa.TreeK
