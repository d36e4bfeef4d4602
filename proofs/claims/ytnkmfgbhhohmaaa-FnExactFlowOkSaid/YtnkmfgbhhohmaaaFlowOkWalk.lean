/- The law FnExactFlowOk, called with whatever can be read: it returns true and nothing that was there has changed. -/
import Derived.Test.YtnkmfgbhhohmaaaFlowOkPure
import Derived.Test.YtnkmfgbhhohmaaaOpen
import Derived.KernelRfl
namespace Go.Proofs.Ytnkmfgbhhohmaaa.FlowOk
open Go.RowKit Go.Proofs.YtnkmfgbhhohmaaaW.PrintWords Go.Proofs.Ytnkmfgbhhohmaaa.QFnExactFlowOk Go.Proofs.Ytnkmfgbhhohmaaa.Open

theorem opensFed : Opens Try.prog 87 k87 (fun _ => True) :=
  Opens.imp (opens_iso (fun p => ⟨p.1, p.2⟩) (fun _ => rfl) (opens_struct Try.underlying87 (by kernel_rfl) (opensAt_cons rfl (by kernel_rfl) (opens_int Try.underlying3) (opensAt_one rfl (by kernel_rfl) (opens_int Try.underlying3))))) (fun _ _ => trivial)

def kFlow : Kd (List (List S87) × Int × Bool) := Kd.pair (Kd.slice 79 (Kd.slice 87 k87)) (Kd.pair (Kd.int .i64) Kd.bool)

instance : Inhabited S87 := ⟨z87⟩

theorem opensFlow : Opens Try.prog 24 kFlow (fun x => x.1.length ≤ 9223372036854775807 ∧ ∀ r ∈ x.1, r.length ≤ 9223372036854775807) :=
  Opens.imp (opens_struct Try.underlying24 (by kernel_rfl)
    (opensAt_cons rfl (by kernel_rfl) (opens_slice Try.underlying22 (by kernel_rfl) (opens_slice Try.underlying79 (by kernel_rfl) opensFed))
      (opensAt_cons rfl (by kernel_rfl) (opens_int Try.underlying3) (opensAt_one rfl (by kernel_rfl) (opens_bool Try.underlying4)))))
    (fun _ h => ⟨h.1.1, fun r hr => (h.1.2 r hr).1⟩)

theorem walk (W : World) (cs : Array Value) (x : List (List S87) × Int × Bool) (hK : kFlow.K W x cs.toList) (hok : x.1.length ≤ 9223372036854775807 ∧ ∀ r ∈ x.1, r.length ≤ 9223372036854775807) :
    Calls Try.prog 3 #[.agg cs] W fun e w' => e = .returned (.bool true) ∧ Below W.heap.size W w' := by
  obtain ⟨_, _, hcs, ⟨A, c, rfl, hl, hC⟩, _, _, rfl, rfl, rfl⟩ := hK
  obtain ⟨k, hk⟩ := FlowOk.pure x.1 x.2.1 x.2.2 hok.1 hok.2
  obtain rfl : cs = #[.slice A x.1.length c, .int .i64 x.2.1, .bool x.2.2] := by cases cs; simpa using hcs
  exact laws_FnExactFlowOk.calls k A c x.1 x.2.1 x.2.2 true W hC hl hk

end Go.Proofs.Ytnkmfgbhhohmaaa.FlowOk
