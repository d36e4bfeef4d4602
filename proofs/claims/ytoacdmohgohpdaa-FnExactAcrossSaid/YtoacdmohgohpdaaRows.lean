/-
  No cell of these rows narrows 'for every input' (looked for: loops, veiled, ifaces, maps, wideKeys, modest, calm, conditions, laid).
  DERIVED. THE GIVEN ROWS OF THIS SEAT. 7 by the template 'for every input the law returns true; each argument reads behind the call as it read before'; 0 by the template 'total and deterministic' (their statements: YtoacdmohgohpdaaTotals.lean).
  GIVEN WITH THE SEED: the statements are not yours to turn. If you find one false, say at which input.
  Laid BY PROGRAM, IN A SANDBOX (cutbox-rows.mjs): the forced cells as the released guide's own fill.sh prints them over the translation 31c1693f8b7c9456… (all of the seat's roots in one cut). By AI agents, Wed Nov 11 2026. No macro, syntax, notation, axiom, sorry.
-/
import Derived.Test.YtoacdmohgohpdaaChecked
import GoSem.Claim
import GoSem.ClaimJoined
import GoSem.ClaimMapViews
import Derived.JoinedTies
import Derived.KernelRfl
namespace Go.Proofs.Ytoacdmohgohpdaa
/- THE CELL 'sum', in the pinned program and in every row, IS THE sha256 OF THE DUMP (.gsa) THAT YtoacdmohgohpdaaProg.lean LOADS. Nothing in Lean hashes anything: it is a label: what it is worth is what the hold of that sum in a sandbox is worth. -/
noncomputable def Try.pinned : Pinned := { name := "ytoacdmohgohpdaa", sum := "31c1693f8b7c9456c8874196957633ae58a992b2cb1e709f6c9234ebf0b4087a", checked := Try.checked }
namespace Rows
def none {H : Type} : Left H := { results := [], args := [] }

/-- 'laws.FnExactInputsOk': WHATEVER THE INPUT: true; the input reads as it did. -/
def fnExactInputsOkSpec : ChangeSpec := { name := "fnExactInputsOk", fn := fun _ => fun
  | [d1, d2] => { results := [.lit (.bool true)], args := [d1, d2] }
  | _ => none }
def fnExactInputsOkRow : OpenClaim := { program := "ytoacdmohgohpdaa", sum := "31c1693f8b7c9456c8874196957633ae58a992b2cb1e709f6c9234ebf0b4087a", func := "loop.example/g00035/laws.FnExactInputsOk", spec := "fnExactInputsOk", apart := false }
def FnExactInputsOkSaid : Prop := fnExactInputsOkRow.holds Try.pinned (OpenSpec.ofChange fnExactInputsOkSpec)

/-- ITS FALSE NEIGHBOUR: 'it returns false'. Refute it at one input. -/
def fnExactInputsOkWrong : ChangeSpec := { name := "fnExactInputsOk", fn := fun _ => fun
  | [d1, d2] => { results := [.lit (.bool false)], args := [d1, d2] }
  | _ => none }
def FnExactInputsOkWrongFalsely : Prop := fnExactInputsOkRow.holds Try.pinned (OpenSpec.ofChange fnExactInputsOkWrong)

/-- 'laws.FnExactNewMirror': WHATEVER THE INPUT: true; the input reads as it did. -/
def fnExactNewMirrorSpec : ChangeSpec := { name := "fnExactNewMirror", fn := fun _ => fun
  | [d1, d2, d3] => { results := [.lit (.bool true)], args := [d1, d2, d3] }
  | _ => none }
def fnExactNewMirrorRow : OpenClaim := { program := "ytoacdmohgohpdaa", sum := "31c1693f8b7c9456c8874196957633ae58a992b2cb1e709f6c9234ebf0b4087a", func := "loop.example/g00035/laws.FnExactNewMirror", spec := "fnExactNewMirror", apart := false }
def FnExactNewMirrorSaid : Prop := fnExactNewMirrorRow.holds Try.pinned (OpenSpec.ofChange fnExactNewMirrorSpec)

/-- ITS FALSE NEIGHBOUR: 'it returns false'. Refute it at one input. -/
def fnExactNewMirrorWrong : ChangeSpec := { name := "fnExactNewMirror", fn := fun _ => fun
  | [d1, d2, d3] => { results := [.lit (.bool false)], args := [d1, d2, d3] }
  | _ => none }
def FnExactNewMirrorWrongFalsely : Prop := fnExactNewMirrorRow.holds Try.pinned (OpenSpec.ofChange fnExactNewMirrorWrong)

/-- 'laws.FnExactMirrorOk': WHATEVER THE INPUT: true; the input reads as it did. -/
def fnExactMirrorOkSpec : ChangeSpec := { name := "fnExactMirrorOk", fn := fun _ => fun
  | [d] => { results := [.lit (.bool true)], args := [d] }
  | _ => none }
def fnExactMirrorOkRow : OpenClaim := { program := "ytoacdmohgohpdaa", sum := "31c1693f8b7c9456c8874196957633ae58a992b2cb1e709f6c9234ebf0b4087a", func := "loop.example/g00035/laws.FnExactMirrorOk", spec := "fnExactMirrorOk", apart := false }
def FnExactMirrorOkSaid : Prop := fnExactMirrorOkRow.holds Try.pinned (OpenSpec.ofChange fnExactMirrorOkSpec)

/-- ITS FALSE NEIGHBOUR: 'it returns false'. Refute it at one input. -/
def fnExactMirrorOkWrong : ChangeSpec := { name := "fnExactMirrorOk", fn := fun _ => fun
  | [d] => { results := [.lit (.bool false)], args := [d] }
  | _ => none }
def FnExactMirrorOkWrongFalsely : Prop := fnExactMirrorOkRow.holds Try.pinned (OpenSpec.ofChange fnExactMirrorOkWrong)

/-- 'laws.FnExactBehind': WHATEVER THE INPUT: true; the input reads as it did. -/
def fnExactBehindSpec : ChangeSpec := { name := "fnExactBehind", fn := fun _ => fun
  | [d1, d2] => { results := [.lit (.bool true)], args := [d1, d2] }
  | _ => none }
def fnExactBehindRow : OpenClaim := { program := "ytoacdmohgohpdaa", sum := "31c1693f8b7c9456c8874196957633ae58a992b2cb1e709f6c9234ebf0b4087a", func := "loop.example/g00035/laws.FnExactBehind", spec := "fnExactBehind", apart := false }
def FnExactBehindSaid : Prop := fnExactBehindRow.holds Try.pinned (OpenSpec.ofChange fnExactBehindSpec)

/-- ITS FALSE NEIGHBOUR: 'it returns false'. Refute it at one input. -/
def fnExactBehindWrong : ChangeSpec := { name := "fnExactBehind", fn := fun _ => fun
  | [d1, d2] => { results := [.lit (.bool false)], args := [d1, d2] }
  | _ => none }
def FnExactBehindWrongFalsely : Prop := fnExactBehindRow.holds Try.pinned (OpenSpec.ofChange fnExactBehindWrong)

/-- 'laws.FnExactAcross': WHATEVER THE INPUT: true; the input reads as it did. -/
def fnExactAcrossSpec : ChangeSpec := { name := "fnExactAcross", fn := fun _ => fun
  | [d1, d2] => { results := [.lit (.bool true)], args := [d1, d2] }
  | _ => none }
def fnExactAcrossRow : OpenClaim := { program := "ytoacdmohgohpdaa", sum := "31c1693f8b7c9456c8874196957633ae58a992b2cb1e709f6c9234ebf0b4087a", func := "loop.example/g00035/laws.FnExactAcross", spec := "fnExactAcross", apart := false }
def FnExactAcrossSaid : Prop := fnExactAcrossRow.holds Try.pinned (OpenSpec.ofChange fnExactAcrossSpec)

/-- ITS FALSE NEIGHBOUR: 'it returns false'. Refute it at one input. -/
def fnExactAcrossWrong : ChangeSpec := { name := "fnExactAcross", fn := fun _ => fun
  | [d1, d2] => { results := [.lit (.bool false)], args := [d1, d2] }
  | _ => none }
def FnExactAcrossWrongFalsely : Prop := fnExactAcrossRow.holds Try.pinned (OpenSpec.ofChange fnExactAcrossWrong)

/-- 'laws.FnExactEnds': WHATEVER THE INPUT: true; the input reads as it did. -/
def fnExactEndsSpec : ChangeSpec := { name := "fnExactEnds", fn := fun _ => fun
  | [d1, d2, d3] => { results := [.lit (.bool true)], args := [d1, d2, d3] }
  | _ => none }
def fnExactEndsRow : OpenClaim := { program := "ytoacdmohgohpdaa", sum := "31c1693f8b7c9456c8874196957633ae58a992b2cb1e709f6c9234ebf0b4087a", func := "loop.example/g00035/laws.FnExactEnds", spec := "fnExactEnds", unfollowed := true, recurses := true, apart := false }
def FnExactEndsSaid : Prop := fnExactEndsRow.holds Try.pinned (OpenSpec.ofChange fnExactEndsSpec)

/-- ITS FALSE NEIGHBOUR: 'it returns false'. Refute it at one input. -/
def fnExactEndsWrong : ChangeSpec := { name := "fnExactEnds", fn := fun _ => fun
  | [d1, d2, d3] => { results := [.lit (.bool false)], args := [d1, d2, d3] }
  | _ => none }
def FnExactEndsWrongFalsely : Prop := fnExactEndsRow.holds Try.pinned (OpenSpec.ofChange fnExactEndsWrong)

/-- 'laws.FnEndOf': WHATEVER THE INPUT: true; the input reads as it did. -/
def fnEndOfSpec : ChangeSpec := { name := "fnEndOf", fn := fun _ => fun
  | [d] => { results := [.lit (.bool true)], args := [d] }
  | _ => none }
def fnEndOfRow : OpenClaim := { program := "ytoacdmohgohpdaa", sum := "31c1693f8b7c9456c8874196957633ae58a992b2cb1e709f6c9234ebf0b4087a", func := "loop.example/g00035/laws.FnEndOf", spec := "fnEndOf", apart := false }
def FnEndOfSaid : Prop := fnEndOfRow.holds Try.pinned (OpenSpec.ofChange fnEndOfSpec)

/-- ITS FALSE NEIGHBOUR: 'it returns false'. Refute it at one input. -/
def fnEndOfWrong : ChangeSpec := { name := "fnEndOf", fn := fun _ => fun
  | [d] => { results := [.lit (.bool false)], args := [d] }
  | _ => none }
def FnEndOfWrongFalsely : Prop := fnEndOfRow.holds Try.pinned (OpenSpec.ofChange fnEndOfWrong)

/- THE SECOND FORM. 'bulk': how many values and letters a reading holds, each counted each time it is reached (what is shared counts as often as it is met; a slice's spare places count too). A statement '..UptoSaid' is the law's where the arguments, and the package variables that the reading takes, are together of bulk at most 1048576: NARROWER than '..Said'. Prove '..Said' where nothing that the law and all that it calls make is longer than what came in: it says more and counts as full. Else prove '..UptoSaid'. A law counts once. -/
mutual
def uptoBulk {H : Type} : DataW H → Nat
  | .lit (.string bytes) => bytes.length + 1
  | .lit _ => 1
  | .nil => 1
  | .ptr d => uptoBulk d + 1
  | .slice elems spare => uptoBulkAll elems + uptoBulkAll spare + 1
  | .agg parts => uptoBulkAll parts + 1
  | .iface _ d => uptoBulk d + 1
  | .map entries => uptoBulkEntries entries + 1
  | .held _ => 1
def uptoBulkAll {H : Type} : List (DataW H) → Nat
  | [] => 0
  | d :: r => uptoBulk d + uptoBulkAll r
def uptoBulkEntries {H : Type} : List (Lit × DataW H) → Nat
  | [] => 0
  | x :: r => uptoBulkEntry x + uptoBulkEntries r
def uptoBulkEntry {H : Type} : Lit × DataW H → Nat
  | (.string bytes, d) => bytes.length + uptoBulk d + 1
  | (_, d) => uptoBulk d + 1
 end
def uptoSmall : (H : Type) → List (DataW H) → Bool := fun _ ds => decide (uptoBulkAll ds ≤ 1048576)
def OpenSpec.upto (s : _root_.Go.ChangeSpec) : _root_.Go.OpenSpec := { _root_.Go.OpenSpec.ofChange s with cond := some uptoSmall }

/-- 'laws.FnExactInputsOk', WHERE WHAT IT READS IS OF BULK AT MOST 1048576: true; the input reads as it did. -/
def fnExactInputsOkUptoRow : OpenClaim := { program := "ytoacdmohgohpdaa", sum := "31c1693f8b7c9456c8874196957633ae58a992b2cb1e709f6c9234ebf0b4087a", func := "loop.example/g00035/laws.FnExactInputsOk", spec := "fnExactInputsOk", apart := false, narrowed := true }
def FnExactInputsOkUptoSaid : Prop := fnExactInputsOkUptoRow.holds Try.pinned (OpenSpec.upto fnExactInputsOkSpec)

/-- 'laws.FnExactNewMirror', WHERE WHAT IT READS IS OF BULK AT MOST 1048576: true; the input reads as it did. -/
def fnExactNewMirrorUptoRow : OpenClaim := { program := "ytoacdmohgohpdaa", sum := "31c1693f8b7c9456c8874196957633ae58a992b2cb1e709f6c9234ebf0b4087a", func := "loop.example/g00035/laws.FnExactNewMirror", spec := "fnExactNewMirror", apart := false, narrowed := true }
def FnExactNewMirrorUptoSaid : Prop := fnExactNewMirrorUptoRow.holds Try.pinned (OpenSpec.upto fnExactNewMirrorSpec)

/-- 'laws.FnExactMirrorOk', WHERE WHAT IT READS IS OF BULK AT MOST 1048576: true; the input reads as it did. -/
def fnExactMirrorOkUptoRow : OpenClaim := { program := "ytoacdmohgohpdaa", sum := "31c1693f8b7c9456c8874196957633ae58a992b2cb1e709f6c9234ebf0b4087a", func := "loop.example/g00035/laws.FnExactMirrorOk", spec := "fnExactMirrorOk", apart := false, narrowed := true }
def FnExactMirrorOkUptoSaid : Prop := fnExactMirrorOkUptoRow.holds Try.pinned (OpenSpec.upto fnExactMirrorOkSpec)

/-- 'laws.FnExactBehind', WHERE WHAT IT READS IS OF BULK AT MOST 1048576: true; the input reads as it did. -/
def fnExactBehindUptoRow : OpenClaim := { program := "ytoacdmohgohpdaa", sum := "31c1693f8b7c9456c8874196957633ae58a992b2cb1e709f6c9234ebf0b4087a", func := "loop.example/g00035/laws.FnExactBehind", spec := "fnExactBehind", apart := false, narrowed := true }
def FnExactBehindUptoSaid : Prop := fnExactBehindUptoRow.holds Try.pinned (OpenSpec.upto fnExactBehindSpec)

/-- 'laws.FnExactAcross', WHERE WHAT IT READS IS OF BULK AT MOST 1048576: true; the input reads as it did. -/
def fnExactAcrossUptoRow : OpenClaim := { program := "ytoacdmohgohpdaa", sum := "31c1693f8b7c9456c8874196957633ae58a992b2cb1e709f6c9234ebf0b4087a", func := "loop.example/g00035/laws.FnExactAcross", spec := "fnExactAcross", apart := false, narrowed := true }
def FnExactAcrossUptoSaid : Prop := fnExactAcrossUptoRow.holds Try.pinned (OpenSpec.upto fnExactAcrossSpec)

/-- 'laws.FnExactEnds', WHERE WHAT IT READS IS OF BULK AT MOST 1048576: true; the input reads as it did. -/
def fnExactEndsUptoRow : OpenClaim := { program := "ytoacdmohgohpdaa", sum := "31c1693f8b7c9456c8874196957633ae58a992b2cb1e709f6c9234ebf0b4087a", func := "loop.example/g00035/laws.FnExactEnds", spec := "fnExactEnds", unfollowed := true, recurses := true, apart := false, narrowed := true }
def FnExactEndsUptoSaid : Prop := fnExactEndsUptoRow.holds Try.pinned (OpenSpec.upto fnExactEndsSpec)

/-- 'laws.FnEndOf', WHERE WHAT IT READS IS OF BULK AT MOST 1048576: true; the input reads as it did. -/
def fnEndOfUptoRow : OpenClaim := { program := "ytoacdmohgohpdaa", sum := "31c1693f8b7c9456c8874196957633ae58a992b2cb1e709f6c9234ebf0b4087a", func := "loop.example/g00035/laws.FnEndOf", spec := "fnEndOf", apart := false, narrowed := true }
def FnEndOfUptoSaid : Prop := fnEndOfUptoRow.holds Try.pinned (OpenSpec.upto fnEndOfSpec)

end Rows
end Go.Proofs.Ytoacdmohgohpdaa
