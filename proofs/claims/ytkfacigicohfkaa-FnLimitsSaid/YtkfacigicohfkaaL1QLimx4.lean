import Derived.Test.YtkfacigicohfkaaL1QLimx0
import Derived.Test.YtkfacigicohfkaaL1QLimx1
import Derived.Test.YtkfacigicohfkaaL1QLimx3
namespace Go.Proofs.Ytkfacigicohfkaa.QLim
open Go.RowKit Go.Proofs.YtkfacigicohfkaaW.PrintWords Go.Proofs.YtkfacigicohfkaaW.PrintLast Go.Proofs.YtkfacigicohfkaaW.PrintMore
attribute [local go_sem] max2_int min2_int max_two min_two max_three min_three max_four min_four   -- for this text's walks alone
set_option linter.unusedVariables false
set_option linter.unusedSimpArgs false
mutual
def impl_BatchOk.j0 : Nat → Int → Bool → Int → Int → Int → Int → Int → Int → List (S28) → Option (Bool)
  | 0, _, _, _, _, _, _, _, _, _ => none
  | k + 1, x3, x52, x122000, x122001, x122002, x122003, x122004, x122005, x122006 => if x52 = true then (some false) else ((impl_offsetOk.f (wrap64 ((wrap64 (x122000 + x3)) - 1))).bind fun t130 => (if t130 = true then ((impl_offsetOk.f (wrap64 ((wrap64 (x122004 + x3)) - 1))).bind fun t131 => (if t131 = true then (if x122002 = (-1) then (if x122003 = 0 then (if x122004 = 0 then (impl_BatchOk.j1 k x3 ((Go.bits .and .i64 x122005 2) != 0) x122000 x122001 x122002 x122003 x122004 x122005 x122006) else (impl_BatchOk.j1 k x3 true x122000 x122001 x122002 x122003 x122004 x122005 x122006)) else (impl_BatchOk.j1 k x3 true x122000 x122001 x122002 x122003 x122004 x122005 x122006)) else (impl_BatchOk.j1 k x3 false x122000 x122001 x122002 x122003 x122004 x122005 x122006)) else (impl_BatchOk.j1 k x3 true x122000 x122001 x122002 x122003 x122004 x122005 x122006))) else (impl_BatchOk.j1 k x3 true x122000 x122001 x122002 x122003 x122004 x122005 x122006)))
def impl_BatchOk.j1 : Nat → Int → Bool → Int → Int → Int → Int → Int → Int → List (S28) → Option (Bool)
  | 0, _, _, _, _, _, _, _, _, _ => none
  | k + 1, x3, x89, x122000, x122001, x122002, x122003, x122004, x122005, x122006 => if x89 = true then (some false) else (if (Go.bits .and .i64 x122005 4) = 0 then (some true) else (if 0 < (x122006.length : Int) then (if (Go.bits .and .i64 x122005 2) = 0 then (some false) else (if x3 = 1 then (if (rd_T28 x122006 0).f1 = true then (if ((rd_T28 x122006 0).f2).toList = ([99, 111, 109, 109, 105, 116] : List UInt8) then (if ((rd_T28 x122006 0).f3 = true) then (some false) else (if ((rd_T28 x122006 0).f4).toList = ([] : List UInt8) then (some ((((rd_T28 x122006 0).f5).length : Int) == 0)) else (some false))) else (if ((rd_T28 x122006 0).f2).toList = ([97, 98, 111, 114, 116] : List UInt8) then (if ((rd_T28 x122006 0).f3 = true) then (some false) else (if ((rd_T28 x122006 0).f4).toList = ([] : List UInt8) then (some ((((rd_T28 x122006 0).f5).length : Int) == 0)) else (some false))) else (some false))) else (some false)) else (some false))) else (none)))
end
def impl_BatchOk.f (k : Nat) (a0_0 : Int) (a0_1 : Int) (a0_2 : Int) (a0_3 : Int) (a0_4 : Int) (a0_5 : Int) (l0_6 : List (S28)) : Option (Bool) := (impl_offsetOk.f a0_0).bind fun t122 => (if t122 = true then ((impl_within.f a0_1 0 1000000).bind fun t123 => (if t123 = true then ((impl_within.f a0_2 (-1) 1000000000).bind fun t124 => (if t124 = true then ((impl_within.f a0_3 0 1000).bind fun t125 => (if t125 = true then ((impl_offsetOk.f a0_4).bind fun t126 => (if t126 = true then ((impl_within.f a0_5 0 7).bind fun t127 => (if t127 = true then ((impl_within.f (l0_6.length : Int) 1 40).bind fun t128 => (if t128 = true then ((impl_recordsOk.f k l0_6).bind fun t129 => (impl_BatchOk.j0 k (l0_6.length : Int) (!t129) a0_0 a0_1 a0_2 a0_3 a0_4 a0_5 l0_6)) else (impl_BatchOk.j0 k (l0_6.length : Int) true a0_0 a0_1 a0_2 a0_3 a0_4 a0_5 l0_6))) else (impl_BatchOk.j0 k (l0_6.length : Int) true a0_0 a0_1 a0_2 a0_3 a0_4 a0_5 l0_6))) else (impl_BatchOk.j0 k (l0_6.length : Int) true a0_0 a0_1 a0_2 a0_3 a0_4 a0_5 l0_6))) else (impl_BatchOk.j0 k (l0_6.length : Int) true a0_0 a0_1 a0_2 a0_3 a0_4 a0_5 l0_6))) else (impl_BatchOk.j0 k (l0_6.length : Int) true a0_0 a0_1 a0_2 a0_3 a0_4 a0_5 l0_6))) else (impl_BatchOk.j0 k (l0_6.length : Int) true a0_0 a0_1 a0_2 a0_3 a0_4 a0_5 l0_6))) else (impl_BatchOk.j0 k (l0_6.length : Int) true a0_0 a0_1 a0_2 a0_3 a0_4 a0_5 l0_6))
set_option maxHeartbeats 8000000 in
set_option maxRecDepth 100000 in
theorem impl_BatchOk.calls (k : Nat) (a0_0 : Int) (a0_1 : Int) (a0_2 : Int) (a0_3 : Int) (a0_4 : Int) (a0_5 : Int) (A0_6 : Option Addr) (c0_6 : Nat) (l0_6 : List (S28)) (r : Bool) (w : World) (hr0_6 : Kd.C k28 w A0_6 l0_6.length l0_6) (hc0_6 : l0_6.length ≤ c0_6) (h : impl_BatchOk.f k a0_0 a0_1 a0_2 a0_3 a0_4 a0_5 l0_6 = some r) :
    Calls Try.prog 6 #[.agg #[.int .i64 a0_0, .int .i64 a0_1, .int .i64 a0_2, .int .i64 a0_3, .int .i64 a0_4, .int .i64 a0_5, .slice A0_6 l0_6.length c0_6]] w fun e w' => e = .returned (.bool r) ∧ Below w.heap.size w w' := by
  have hu30 := Try.underlying30
  have hu28 := Try.underlying28
  have HR0_6 := Aside0.mk hr0_6
  have HC0_6 := Aside0.mk hc0_6
  clear hr0_6 hc0_6
  have HB := Aside0.mk (Below.refl w.heap.size w)
  have H : ((impl_offsetOk.f a0_0).bind fun t122 => (if t122 = true then ((impl_within.f a0_1 0 1000000).bind fun t123 => (if t123 = true then ((impl_within.f a0_2 (-1) 1000000000).bind fun t124 => (if t124 = true then ((impl_within.f a0_3 0 1000).bind fun t125 => (if t125 = true then ((impl_offsetOk.f a0_4).bind fun t126 => (if t126 = true then ((impl_within.f a0_5 0 7).bind fun t127 => (if t127 = true then ((impl_within.f (l0_6.length : Int) 1 40).bind fun t128 => (if t128 = true then ((impl_recordsOk.f k l0_6).bind fun t129 => (impl_BatchOk.j0 k (l0_6.length : Int) (!t129) a0_0 a0_1 a0_2 a0_3 a0_4 a0_5 l0_6)) else (impl_BatchOk.j0 k (l0_6.length : Int) true a0_0 a0_1 a0_2 a0_3 a0_4 a0_5 l0_6))) else (impl_BatchOk.j0 k (l0_6.length : Int) true a0_0 a0_1 a0_2 a0_3 a0_4 a0_5 l0_6))) else (impl_BatchOk.j0 k (l0_6.length : Int) true a0_0 a0_1 a0_2 a0_3 a0_4 a0_5 l0_6))) else (impl_BatchOk.j0 k (l0_6.length : Int) true a0_0 a0_1 a0_2 a0_3 a0_4 a0_5 l0_6))) else (impl_BatchOk.j0 k (l0_6.length : Int) true a0_0 a0_1 a0_2 a0_3 a0_4 a0_5 l0_6))) else (impl_BatchOk.j0 k (l0_6.length : Int) true a0_0 a0_1 a0_2 a0_3 a0_4 a0_5 l0_6))) else (impl_BatchOk.j0 k (l0_6.length : Int) true a0_0 a0_1 a0_2 a0_3 a0_4 a0_5 l0_6))) = some r := h
  clear h
  have HC2 := Aside0.mk H
  clear H
  go_enter Try.func6, Try.ntmps6
  go_upto_region 2 with (first | ((with_reducible refine gate_dst (N := 1) rfl ?_); (try (refine gate_guard (by rfl) ?_; dsimp only)); refine box_event ?hg (N := 1) ?hd (cs := #[.int .i64 a0_0, .int .i64 a0_1, .int .i64 a0_2, .int .i64 a0_3, .int .i64 a0_4, .int .i64 a0_5, .slice A0_6 l0_6.length c0_6]) (t := 30) ?hr ?_; (case hd => rfl); (case hg => rfl); (case hr => first | (go_simp; done) | (go_simp; rfl)); intro gb121 hg w3 hbox hb; have n0_ := Aside0.mk (below_step (by repeat (first | (with_reducible first | exact HB.out | apply below_alloc | apply pw_below_drewN | apply below_drew1) | exact HB.out)) hb); have n1_ := Aside0.mk (hbox); have n2_ := Aside0.mk ((by rw [hg]; exact (below_size (by repeat (first | (with_reducible first | exact HB.out | apply below_alloc | apply pw_below_drewN | apply below_drew1) | exact HB.out))) : w.heap.size ≤ gb121)); have n3_ := Aside0.mk ((by rw [hg]; exact (below_size (by repeat (first | (with_reducible first | exact HB.out | apply below_alloc | apply pw_below_drewN | apply below_drew1) | exact HB.out))) : w.heap.size ≤ gb121)); clear HB; have HB := n0_; have BK121 := n1_; have GW121 := n2_; have GE121 := n3_; clear n0_ n1_ n2_ n3_; clear hb hbox hg; have hcz4_0 : w3.cell? ⟨gb121, 0, none⟩ = some (.int .i64 a0_0) := (blk_cell BK121.out 0).trans rfl; have hcz4_1 : w3.cell? ⟨gb121, 1, none⟩ = some (.int .i64 a0_1) := (blk_cell BK121.out 1).trans rfl; have hcz4_2 : w3.cell? ⟨gb121, 2, none⟩ = some (.int .i64 a0_2) := (blk_cell BK121.out 2).trans rfl; have hcz4_3 : w3.cell? ⟨gb121, 3, none⟩ = some (.int .i64 a0_3) := (blk_cell BK121.out 3).trans rfl; have hcz4_4 : w3.cell? ⟨gb121, 4, none⟩ = some (.int .i64 a0_4) := (blk_cell BK121.out 4).trans rfl; have hcz4_5 : w3.cell? ⟨gb121, 5, none⟩ = some (.int .i64 a0_5) := (blk_cell BK121.out 5).trans rfl; have hcz4_6 : w3.cell? ⟨gb121, 6, none⟩ = some (.slice A0_6 l0_6.length c0_6) := (blk_cell BK121.out 6).trans rfl; have hfz4_0 := blk_frozen BK121.out 0; have hfz4_1 := blk_frozen BK121.out 1; have hfz4_2 := blk_frozen BK121.out 2; have hfz4_3 := blk_frozen BK121.out 3; have hfz4_4 := blk_frozen BK121.out 4; have hfz4_5 := blk_frozen BK121.out 5; have hfz4_6 := blk_frozen BK121.out 6))
  (try simp only [Act.put, sT_, s0_, sS_])
  go_cut [52] (fun v52 wc => ∃ (kq : Nat) (x52_1 : Bool), v52 = .bool x52_1 ∧ Aside0 (impl_BatchOk.j0 kq (l0_6.length : Int) x52_1 a0_0 a0_1 a0_2 a0_3 a0_4 a0_5 l0_6 = some r) ∧ Aside0 (kq ≤ k) ∧ Aside0 (wc.heap[gb121]? = some (.cells #[.int .i64 a0_0, .int .i64 a0_1, .int .i64 a0_2, .int .i64 a0_3, .int .i64 a0_4, .int .i64 a0_5, (.slice A0_6 l0_6.length c0_6)] 30 (0, 0))) ∧ Aside0 (Below w.heap.size w wc))
  case first =>
    have H := HC2.out
    clear HC2
    replace H := Option.bind_eq_some_iff.mp H
    obtain ⟨t122, A50, H⟩ := H
    replace H : (if t122 = true then ((impl_within.f a0_1 0 1000000).bind fun t123 => (if t123 = true then ((impl_within.f a0_2 (-1) 1000000000).bind fun t124 => (if t124 = true then ((impl_within.f a0_3 0 1000).bind fun t125 => (if t125 = true then ((impl_offsetOk.f a0_4).bind fun t126 => (if t126 = true then ((impl_within.f a0_5 0 7).bind fun t127 => (if t127 = true then ((impl_within.f (l0_6.length : Int) 1 40).bind fun t128 => (if t128 = true then ((impl_recordsOk.f k l0_6).bind fun t129 => (impl_BatchOk.j0 k (l0_6.length : Int) (!t129) a0_0 a0_1 a0_2 a0_3 a0_4 a0_5 l0_6)) else (impl_BatchOk.j0 k (l0_6.length : Int) true a0_0 a0_1 a0_2 a0_3 a0_4 a0_5 l0_6))) else (impl_BatchOk.j0 k (l0_6.length : Int) true a0_0 a0_1 a0_2 a0_3 a0_4 a0_5 l0_6))) else (impl_BatchOk.j0 k (l0_6.length : Int) true a0_0 a0_1 a0_2 a0_3 a0_4 a0_5 l0_6))) else (impl_BatchOk.j0 k (l0_6.length : Int) true a0_0 a0_1 a0_2 a0_3 a0_4 a0_5 l0_6))) else (impl_BatchOk.j0 k (l0_6.length : Int) true a0_0 a0_1 a0_2 a0_3 a0_4 a0_5 l0_6))) else (impl_BatchOk.j0 k (l0_6.length : Int) true a0_0 a0_1 a0_2 a0_3 a0_4 a0_5 l0_6))) else (impl_BatchOk.j0 k (l0_6.length : Int) true a0_0 a0_1 a0_2 a0_3 a0_4 a0_5 l0_6)) = some r := H
    have A5 := Aside0.mk A50
    clear A50
    by_cases c6 : t122 = true
    · subst c6
      have H1 : ((impl_within.f a0_1 0 1000000).bind fun t123 => (if t123 = true then ((impl_within.f a0_2 (-1) 1000000000).bind fun t124 => (if t124 = true then ((impl_within.f a0_3 0 1000).bind fun t125 => (if t125 = true then ((impl_offsetOk.f a0_4).bind fun t126 => (if t126 = true then ((impl_within.f a0_5 0 7).bind fun t127 => (if t127 = true then ((impl_within.f (l0_6.length : Int) 1 40).bind fun t128 => (if t128 = true then ((impl_recordsOk.f k l0_6).bind fun t129 => (impl_BatchOk.j0 k (l0_6.length : Int) (!t129) a0_0 a0_1 a0_2 a0_3 a0_4 a0_5 l0_6)) else (impl_BatchOk.j0 k (l0_6.length : Int) true a0_0 a0_1 a0_2 a0_3 a0_4 a0_5 l0_6))) else (impl_BatchOk.j0 k (l0_6.length : Int) true a0_0 a0_1 a0_2 a0_3 a0_4 a0_5 l0_6))) else (impl_BatchOk.j0 k (l0_6.length : Int) true a0_0 a0_1 a0_2 a0_3 a0_4 a0_5 l0_6))) else (impl_BatchOk.j0 k (l0_6.length : Int) true a0_0 a0_1 a0_2 a0_3 a0_4 a0_5 l0_6))) else (impl_BatchOk.j0 k (l0_6.length : Int) true a0_0 a0_1 a0_2 a0_3 a0_4 a0_5 l0_6))) else (impl_BatchOk.j0 k (l0_6.length : Int) true a0_0 a0_1 a0_2 a0_3 a0_4 a0_5 l0_6))) = some r := by rw [if_pos rfl] at H; exact H
      clear H
      have H := H1
      clear H1
      replace H := Option.bind_eq_some_iff.mp H
      obtain ⟨t123, A70, H⟩ := H
      replace H : (if t123 = true then ((impl_within.f a0_2 (-1) 1000000000).bind fun t124 => (if t124 = true then ((impl_within.f a0_3 0 1000).bind fun t125 => (if t125 = true then ((impl_offsetOk.f a0_4).bind fun t126 => (if t126 = true then ((impl_within.f a0_5 0 7).bind fun t127 => (if t127 = true then ((impl_within.f (l0_6.length : Int) 1 40).bind fun t128 => (if t128 = true then ((impl_recordsOk.f k l0_6).bind fun t129 => (impl_BatchOk.j0 k (l0_6.length : Int) (!t129) a0_0 a0_1 a0_2 a0_3 a0_4 a0_5 l0_6)) else (impl_BatchOk.j0 k (l0_6.length : Int) true a0_0 a0_1 a0_2 a0_3 a0_4 a0_5 l0_6))) else (impl_BatchOk.j0 k (l0_6.length : Int) true a0_0 a0_1 a0_2 a0_3 a0_4 a0_5 l0_6))) else (impl_BatchOk.j0 k (l0_6.length : Int) true a0_0 a0_1 a0_2 a0_3 a0_4 a0_5 l0_6))) else (impl_BatchOk.j0 k (l0_6.length : Int) true a0_0 a0_1 a0_2 a0_3 a0_4 a0_5 l0_6))) else (impl_BatchOk.j0 k (l0_6.length : Int) true a0_0 a0_1 a0_2 a0_3 a0_4 a0_5 l0_6))) else (impl_BatchOk.j0 k (l0_6.length : Int) true a0_0 a0_1 a0_2 a0_3 a0_4 a0_5 l0_6)) = some r := H
      have A7 := Aside0.mk A70
      clear A70
      by_cases c8 : t123 = true
      · subst c8
        have H1 : ((impl_within.f a0_2 (-1) 1000000000).bind fun t124 => (if t124 = true then ((impl_within.f a0_3 0 1000).bind fun t125 => (if t125 = true then ((impl_offsetOk.f a0_4).bind fun t126 => (if t126 = true then ((impl_within.f a0_5 0 7).bind fun t127 => (if t127 = true then ((impl_within.f (l0_6.length : Int) 1 40).bind fun t128 => (if t128 = true then ((impl_recordsOk.f k l0_6).bind fun t129 => (impl_BatchOk.j0 k (l0_6.length : Int) (!t129) a0_0 a0_1 a0_2 a0_3 a0_4 a0_5 l0_6)) else (impl_BatchOk.j0 k (l0_6.length : Int) true a0_0 a0_1 a0_2 a0_3 a0_4 a0_5 l0_6))) else (impl_BatchOk.j0 k (l0_6.length : Int) true a0_0 a0_1 a0_2 a0_3 a0_4 a0_5 l0_6))) else (impl_BatchOk.j0 k (l0_6.length : Int) true a0_0 a0_1 a0_2 a0_3 a0_4 a0_5 l0_6))) else (impl_BatchOk.j0 k (l0_6.length : Int) true a0_0 a0_1 a0_2 a0_3 a0_4 a0_5 l0_6))) else (impl_BatchOk.j0 k (l0_6.length : Int) true a0_0 a0_1 a0_2 a0_3 a0_4 a0_5 l0_6))) = some r := by rw [if_pos rfl] at H; exact H
        clear H
        have H := H1
        clear H1
        replace H := Option.bind_eq_some_iff.mp H
        obtain ⟨t124, A90, H⟩ := H
        replace H : (if t124 = true then ((impl_within.f a0_3 0 1000).bind fun t125 => (if t125 = true then ((impl_offsetOk.f a0_4).bind fun t126 => (if t126 = true then ((impl_within.f a0_5 0 7).bind fun t127 => (if t127 = true then ((impl_within.f (l0_6.length : Int) 1 40).bind fun t128 => (if t128 = true then ((impl_recordsOk.f k l0_6).bind fun t129 => (impl_BatchOk.j0 k (l0_6.length : Int) (!t129) a0_0 a0_1 a0_2 a0_3 a0_4 a0_5 l0_6)) else (impl_BatchOk.j0 k (l0_6.length : Int) true a0_0 a0_1 a0_2 a0_3 a0_4 a0_5 l0_6))) else (impl_BatchOk.j0 k (l0_6.length : Int) true a0_0 a0_1 a0_2 a0_3 a0_4 a0_5 l0_6))) else (impl_BatchOk.j0 k (l0_6.length : Int) true a0_0 a0_1 a0_2 a0_3 a0_4 a0_5 l0_6))) else (impl_BatchOk.j0 k (l0_6.length : Int) true a0_0 a0_1 a0_2 a0_3 a0_4 a0_5 l0_6))) else (impl_BatchOk.j0 k (l0_6.length : Int) true a0_0 a0_1 a0_2 a0_3 a0_4 a0_5 l0_6)) = some r := H
        have A9 := Aside0.mk A90
        clear A90
        by_cases c10 : t124 = true
        · subst c10
          have H1 : ((impl_within.f a0_3 0 1000).bind fun t125 => (if t125 = true then ((impl_offsetOk.f a0_4).bind fun t126 => (if t126 = true then ((impl_within.f a0_5 0 7).bind fun t127 => (if t127 = true then ((impl_within.f (l0_6.length : Int) 1 40).bind fun t128 => (if t128 = true then ((impl_recordsOk.f k l0_6).bind fun t129 => (impl_BatchOk.j0 k (l0_6.length : Int) (!t129) a0_0 a0_1 a0_2 a0_3 a0_4 a0_5 l0_6)) else (impl_BatchOk.j0 k (l0_6.length : Int) true a0_0 a0_1 a0_2 a0_3 a0_4 a0_5 l0_6))) else (impl_BatchOk.j0 k (l0_6.length : Int) true a0_0 a0_1 a0_2 a0_3 a0_4 a0_5 l0_6))) else (impl_BatchOk.j0 k (l0_6.length : Int) true a0_0 a0_1 a0_2 a0_3 a0_4 a0_5 l0_6))) else (impl_BatchOk.j0 k (l0_6.length : Int) true a0_0 a0_1 a0_2 a0_3 a0_4 a0_5 l0_6))) = some r := by rw [if_pos rfl] at H; exact H
          clear H
          have H := H1
          clear H1
          replace H := Option.bind_eq_some_iff.mp H
          obtain ⟨t125, A110, H⟩ := H
          replace H : (if t125 = true then ((impl_offsetOk.f a0_4).bind fun t126 => (if t126 = true then ((impl_within.f a0_5 0 7).bind fun t127 => (if t127 = true then ((impl_within.f (l0_6.length : Int) 1 40).bind fun t128 => (if t128 = true then ((impl_recordsOk.f k l0_6).bind fun t129 => (impl_BatchOk.j0 k (l0_6.length : Int) (!t129) a0_0 a0_1 a0_2 a0_3 a0_4 a0_5 l0_6)) else (impl_BatchOk.j0 k (l0_6.length : Int) true a0_0 a0_1 a0_2 a0_3 a0_4 a0_5 l0_6))) else (impl_BatchOk.j0 k (l0_6.length : Int) true a0_0 a0_1 a0_2 a0_3 a0_4 a0_5 l0_6))) else (impl_BatchOk.j0 k (l0_6.length : Int) true a0_0 a0_1 a0_2 a0_3 a0_4 a0_5 l0_6))) else (impl_BatchOk.j0 k (l0_6.length : Int) true a0_0 a0_1 a0_2 a0_3 a0_4 a0_5 l0_6)) = some r := H
          have A11 := Aside0.mk A110
          clear A110
          by_cases c12 : t125 = true
          · subst c12
            have H1 : ((impl_offsetOk.f a0_4).bind fun t126 => (if t126 = true then ((impl_within.f a0_5 0 7).bind fun t127 => (if t127 = true then ((impl_within.f (l0_6.length : Int) 1 40).bind fun t128 => (if t128 = true then ((impl_recordsOk.f k l0_6).bind fun t129 => (impl_BatchOk.j0 k (l0_6.length : Int) (!t129) a0_0 a0_1 a0_2 a0_3 a0_4 a0_5 l0_6)) else (impl_BatchOk.j0 k (l0_6.length : Int) true a0_0 a0_1 a0_2 a0_3 a0_4 a0_5 l0_6))) else (impl_BatchOk.j0 k (l0_6.length : Int) true a0_0 a0_1 a0_2 a0_3 a0_4 a0_5 l0_6))) else (impl_BatchOk.j0 k (l0_6.length : Int) true a0_0 a0_1 a0_2 a0_3 a0_4 a0_5 l0_6))) = some r := by rw [if_pos rfl] at H; exact H
            clear H
            have H := H1
            clear H1
            replace H := Option.bind_eq_some_iff.mp H
            obtain ⟨t126, A130, H⟩ := H
            replace H : (if t126 = true then ((impl_within.f a0_5 0 7).bind fun t127 => (if t127 = true then ((impl_within.f (l0_6.length : Int) 1 40).bind fun t128 => (if t128 = true then ((impl_recordsOk.f k l0_6).bind fun t129 => (impl_BatchOk.j0 k (l0_6.length : Int) (!t129) a0_0 a0_1 a0_2 a0_3 a0_4 a0_5 l0_6)) else (impl_BatchOk.j0 k (l0_6.length : Int) true a0_0 a0_1 a0_2 a0_3 a0_4 a0_5 l0_6))) else (impl_BatchOk.j0 k (l0_6.length : Int) true a0_0 a0_1 a0_2 a0_3 a0_4 a0_5 l0_6))) else (impl_BatchOk.j0 k (l0_6.length : Int) true a0_0 a0_1 a0_2 a0_3 a0_4 a0_5 l0_6)) = some r := H
            have A13 := Aside0.mk A130
            clear A130
            by_cases c14 : t126 = true
            · subst c14
              have H1 : ((impl_within.f a0_5 0 7).bind fun t127 => (if t127 = true then ((impl_within.f (l0_6.length : Int) 1 40).bind fun t128 => (if t128 = true then ((impl_recordsOk.f k l0_6).bind fun t129 => (impl_BatchOk.j0 k (l0_6.length : Int) (!t129) a0_0 a0_1 a0_2 a0_3 a0_4 a0_5 l0_6)) else (impl_BatchOk.j0 k (l0_6.length : Int) true a0_0 a0_1 a0_2 a0_3 a0_4 a0_5 l0_6))) else (impl_BatchOk.j0 k (l0_6.length : Int) true a0_0 a0_1 a0_2 a0_3 a0_4 a0_5 l0_6))) = some r := by rw [if_pos rfl] at H; exact H
              clear H
              have H := H1
              clear H1
              replace H := Option.bind_eq_some_iff.mp H
              obtain ⟨t127, A150, H⟩ := H
              replace H : (if t127 = true then ((impl_within.f (l0_6.length : Int) 1 40).bind fun t128 => (if t128 = true then ((impl_recordsOk.f k l0_6).bind fun t129 => (impl_BatchOk.j0 k (l0_6.length : Int) (!t129) a0_0 a0_1 a0_2 a0_3 a0_4 a0_5 l0_6)) else (impl_BatchOk.j0 k (l0_6.length : Int) true a0_0 a0_1 a0_2 a0_3 a0_4 a0_5 l0_6))) else (impl_BatchOk.j0 k (l0_6.length : Int) true a0_0 a0_1 a0_2 a0_3 a0_4 a0_5 l0_6)) = some r := H
              have A15 := Aside0.mk A150
              clear A150
              by_cases c16 : t127 = true
              · subst c16
                have H1 : ((impl_within.f (l0_6.length : Int) 1 40).bind fun t128 => (if t128 = true then ((impl_recordsOk.f k l0_6).bind fun t129 => (impl_BatchOk.j0 k (l0_6.length : Int) (!t129) a0_0 a0_1 a0_2 a0_3 a0_4 a0_5 l0_6)) else (impl_BatchOk.j0 k (l0_6.length : Int) true a0_0 a0_1 a0_2 a0_3 a0_4 a0_5 l0_6))) = some r := by rw [if_pos rfl] at H; exact H
                clear H
                have H := H1
                clear H1
                replace H := Option.bind_eq_some_iff.mp H
                obtain ⟨t128, A170, H⟩ := H
                replace H : (if t128 = true then ((impl_recordsOk.f k l0_6).bind fun t129 => (impl_BatchOk.j0 k (l0_6.length : Int) (!t129) a0_0 a0_1 a0_2 a0_3 a0_4 a0_5 l0_6)) else (impl_BatchOk.j0 k (l0_6.length : Int) true a0_0 a0_1 a0_2 a0_3 a0_4 a0_5 l0_6)) = some r := H
                have A17 := Aside0.mk A170
                clear A170
                by_cases c18 : t128 = true
                · subst c18
                  have H1 : ((impl_recordsOk.f k l0_6).bind fun t129 => (impl_BatchOk.j0 k (l0_6.length : Int) (!t129) a0_0 a0_1 a0_2 a0_3 a0_4 a0_5 l0_6)) = some r := by rw [if_pos rfl] at H; exact H
                  clear H
                  have H := H1
                  clear H1
                  replace H := Option.bind_eq_some_iff.mp H
                  obtain ⟨t129, A190, H⟩ := H
                  replace H : (impl_BatchOk.j0 k (l0_6.length : Int) (!t129) a0_0 a0_1 a0_2 a0_3 a0_4 a0_5 l0_6) = some r := H
                  have A19 := Aside0.mk A190
                  clear A190
                  have H' := Aside0.mk H
                  clear H
                  have hcz20_0 : w3.cell? ⟨gb121, 0, none⟩ = some (.int .i64 a0_0) := (blk_cell BK121.out 0).trans rfl
                  have hcz20_1 : w3.cell? ⟨gb121, 1, none⟩ = some (.int .i64 a0_1) := (blk_cell BK121.out 1).trans rfl
                  have hcz20_2 : w3.cell? ⟨gb121, 2, none⟩ = some (.int .i64 a0_2) := (blk_cell BK121.out 2).trans rfl
                  have hcz20_3 : w3.cell? ⟨gb121, 3, none⟩ = some (.int .i64 a0_3) := (blk_cell BK121.out 3).trans rfl
                  have hcz20_4 : w3.cell? ⟨gb121, 4, none⟩ = some (.int .i64 a0_4) := (blk_cell BK121.out 4).trans rfl
                  have hcz20_5 : w3.cell? ⟨gb121, 5, none⟩ = some (.int .i64 a0_5) := (blk_cell BK121.out 5).trans rfl
                  have hcz20_6 : w3.cell? ⟨gb121, 6, none⟩ = some (.slice A0_6 l0_6.length c0_6) := (blk_cell BK121.out 6).trans rfl
                  have hfz20_0 := blk_frozen BK121.out 0
                  have hfz20_1 := blk_frozen BK121.out 1
                  have hfz20_2 := blk_frozen BK121.out 2
                  have hfz20_3 := blk_frozen BK121.out 3
                  have hfz20_4 := blk_frozen BK121.out 4
                  have hfz20_5 := blk_frozen BK121.out 5
                  have hfz20_6 := blk_frozen BK121.out 6
                  go_wp2_with (first | ((with_reducible refine gate_callee (f := 15) rfl ?_); refine goesL_ (some 10) rfl rfl Try.func15 (by kernel_rfl) rfl #[.int .i64 a0_0] rfl (by (try simp only [List.map_toArray, List.map_cons, List.map_nil]); first | done | rfl | (simp only [List.length_drop, List.length_take]; rfl)) ?_; (with_reducible refine (impl_offsetOk.calls a0_0 true _ A5.out).mono ?_); rintro e w' ⟨rfl, ⟨nd, rfl⟩⟩; refine ⟨_, rfl, ?_⟩) | (go_at_call 16; (with_reducible refine (impl_within.calls a0_1 0 1000000 true _ A7.out).mono ?_); rintro e w' ⟨rfl, ⟨nd, rfl⟩⟩) | (go_at_call 16; (with_reducible refine (impl_within.calls a0_2 (-1) 1000000000 true _ A9.out).mono ?_); rintro e w' ⟨rfl, ⟨nd, rfl⟩⟩) | (go_at_call 16; (with_reducible refine (impl_within.calls a0_3 0 1000 true _ A11.out).mono ?_); rintro e w' ⟨rfl, ⟨nd, rfl⟩⟩) | (go_at_call 15; (with_reducible refine (impl_offsetOk.calls a0_4 true _ A13.out).mono ?_); rintro e w' ⟨rfl, ⟨nd, rfl⟩⟩) | (go_at_call 16; (with_reducible refine (impl_within.calls a0_5 0 7 true _ A15.out).mono ?_); rintro e w' ⟨rfl, ⟨nd, rfl⟩⟩) | (go_at_call 16; (with_reducible refine (impl_within.calls (l0_6.length : Int) 1 40 true _ A17.out).mono ?_); rintro e w' ⟨rfl, ⟨nd, rfl⟩⟩) | (go_at_call 17; (with_reducible refine (impl_recordsOk.calls k _ _ l0_6 t129 _ ?side1 ?side2 A19.out).mono ?_); (case side1 => repeat (first | exact (Kd.C_below HR0_6.out (by repeat (first | (with_reducible first | exact HB.out | apply below_alloc | apply pw_below_drewN | apply below_drew1 | refine below_set ?_ GE121.out) | exact HB.out))) | (with_reducible refine Kd.C_alloc ?_ _) | (with_reducible refine Kd.C_drewN ?_ _) | (with_reducible refine Kd.C_drew ?_))); (case side2 => exact HC0_6.out); rintro e w21 ⟨rfl, hb⟩; have n0_ := Aside0.mk (blk_below (g := gb121) (o := .cells #[.int .i64 a0_0, .int .i64 a0_1, .int .i64 a0_2, .int .i64 a0_3, .int .i64 a0_4, .int .i64 a0_5, .slice A0_6 l0_6.length c0_6] 30 (0, 0)) (by (with_reducible repeat (first | refine blk_drewN ?_ _ | refine blk_drew ?_ | refine blk_alloc ?_ _)); exact BK121.out) hb); have n1_ := Aside0.mk (below_step (by repeat (first | (with_reducible first | exact HB.out | apply below_alloc | apply pw_below_drewN | apply below_drew1 | refine below_set ?_ GE121.out) | exact HB.out)) hb); clear BK121; clear HB; have BK121 := n0_; have HB := n1_; clear n0_ n1_; (try clear hb); (try clear hb2); (try clear hk); (try clear hi)))
                  go_meet
                  case rel => exact ⟨_, (!t129), (by first | rfl | (simp; done) | (simp [*]; done)), H', ⟨by first | omega | exact Nat.le_refl _⟩, ⟨by (with_reducible repeat (first | refine blk_drewN ?_ _ | refine blk_drew ?_ | refine blk_alloc ?_ _)); exact BK121.out⟩, ⟨by repeat (first | (with_reducible first | exact HB.out | apply below_alloc | apply pw_below_drewN | apply below_drew1 | refine below_set ?_ GE121.out) | exact HB.out)⟩⟩
                · replace c18 := Bool.eq_false_iff.mpr c18
                  subst c18
                  have H1 : (impl_BatchOk.j0 k (l0_6.length : Int) true a0_0 a0_1 a0_2 a0_3 a0_4 a0_5 l0_6) = some r := by rw [if_neg (show ¬ (false = true) by decide)] at H; exact H
                  clear H
                  have H := H1
                  clear H1
                  have H' := Aside0.mk H
                  clear H
                  have hcz22_0 : w3.cell? ⟨gb121, 0, none⟩ = some (.int .i64 a0_0) := (blk_cell BK121.out 0).trans rfl
                  have hcz22_1 : w3.cell? ⟨gb121, 1, none⟩ = some (.int .i64 a0_1) := (blk_cell BK121.out 1).trans rfl
                  have hcz22_2 : w3.cell? ⟨gb121, 2, none⟩ = some (.int .i64 a0_2) := (blk_cell BK121.out 2).trans rfl
                  have hcz22_3 : w3.cell? ⟨gb121, 3, none⟩ = some (.int .i64 a0_3) := (blk_cell BK121.out 3).trans rfl
                  have hcz22_4 : w3.cell? ⟨gb121, 4, none⟩ = some (.int .i64 a0_4) := (blk_cell BK121.out 4).trans rfl
                  have hcz22_5 : w3.cell? ⟨gb121, 5, none⟩ = some (.int .i64 a0_5) := (blk_cell BK121.out 5).trans rfl
                  have hcz22_6 : w3.cell? ⟨gb121, 6, none⟩ = some (.slice A0_6 l0_6.length c0_6) := (blk_cell BK121.out 6).trans rfl
                  have hfz22_0 := blk_frozen BK121.out 0
                  have hfz22_1 := blk_frozen BK121.out 1
                  have hfz22_2 := blk_frozen BK121.out 2
                  have hfz22_3 := blk_frozen BK121.out 3
                  have hfz22_4 := blk_frozen BK121.out 4
                  have hfz22_5 := blk_frozen BK121.out 5
                  have hfz22_6 := blk_frozen BK121.out 6
                  go_wp2_with (first | ((with_reducible refine gate_callee (f := 15) rfl ?_); refine goesL_ (some 10) rfl rfl Try.func15 (by kernel_rfl) rfl #[.int .i64 a0_0] rfl (by (try simp only [List.map_toArray, List.map_cons, List.map_nil]); first | done | rfl | (simp only [List.length_drop, List.length_take]; rfl)) ?_; (with_reducible refine (impl_offsetOk.calls a0_0 true _ A5.out).mono ?_); rintro e w' ⟨rfl, ⟨nd, rfl⟩⟩; refine ⟨_, rfl, ?_⟩) | (go_at_call 16; (with_reducible refine (impl_within.calls a0_1 0 1000000 true _ A7.out).mono ?_); rintro e w' ⟨rfl, ⟨nd, rfl⟩⟩) | (go_at_call 16; (with_reducible refine (impl_within.calls a0_2 (-1) 1000000000 true _ A9.out).mono ?_); rintro e w' ⟨rfl, ⟨nd, rfl⟩⟩) | (go_at_call 16; (with_reducible refine (impl_within.calls a0_3 0 1000 true _ A11.out).mono ?_); rintro e w' ⟨rfl, ⟨nd, rfl⟩⟩) | (go_at_call 15; (with_reducible refine (impl_offsetOk.calls a0_4 true _ A13.out).mono ?_); rintro e w' ⟨rfl, ⟨nd, rfl⟩⟩) | (go_at_call 16; (with_reducible refine (impl_within.calls a0_5 0 7 true _ A15.out).mono ?_); rintro e w' ⟨rfl, ⟨nd, rfl⟩⟩) | (go_at_call 16; (with_reducible refine (impl_within.calls (l0_6.length : Int) 1 40 false _ A17.out).mono ?_); rintro e w' ⟨rfl, ⟨nd, rfl⟩⟩))
                  go_meet
                  case rel => exact ⟨_, (true), (by first | rfl | (simp; done) | (simp [*]; done)), H', ⟨by first | omega | exact Nat.le_refl _⟩, ⟨by (with_reducible repeat (first | refine blk_drewN ?_ _ | refine blk_drew ?_ | refine blk_alloc ?_ _)); exact BK121.out⟩, ⟨by repeat (first | (with_reducible first | exact HB.out | apply below_alloc | apply pw_below_drewN | apply below_drew1 | refine below_set ?_ GE121.out) | exact HB.out)⟩⟩
              · replace c16 := Bool.eq_false_iff.mpr c16
                subst c16
                have H1 : (impl_BatchOk.j0 k (l0_6.length : Int) true a0_0 a0_1 a0_2 a0_3 a0_4 a0_5 l0_6) = some r := by rw [if_neg (show ¬ (false = true) by decide)] at H; exact H
                clear H
                have H := H1
                clear H1
                have H' := Aside0.mk H
                clear H
                have hcz23_0 : w3.cell? ⟨gb121, 0, none⟩ = some (.int .i64 a0_0) := (blk_cell BK121.out 0).trans rfl
                have hcz23_1 : w3.cell? ⟨gb121, 1, none⟩ = some (.int .i64 a0_1) := (blk_cell BK121.out 1).trans rfl
                have hcz23_2 : w3.cell? ⟨gb121, 2, none⟩ = some (.int .i64 a0_2) := (blk_cell BK121.out 2).trans rfl
                have hcz23_3 : w3.cell? ⟨gb121, 3, none⟩ = some (.int .i64 a0_3) := (blk_cell BK121.out 3).trans rfl
                have hcz23_4 : w3.cell? ⟨gb121, 4, none⟩ = some (.int .i64 a0_4) := (blk_cell BK121.out 4).trans rfl
                have hcz23_5 : w3.cell? ⟨gb121, 5, none⟩ = some (.int .i64 a0_5) := (blk_cell BK121.out 5).trans rfl
                have hcz23_6 : w3.cell? ⟨gb121, 6, none⟩ = some (.slice A0_6 l0_6.length c0_6) := (blk_cell BK121.out 6).trans rfl
                have hfz23_0 := blk_frozen BK121.out 0
                have hfz23_1 := blk_frozen BK121.out 1
                have hfz23_2 := blk_frozen BK121.out 2
                have hfz23_3 := blk_frozen BK121.out 3
                have hfz23_4 := blk_frozen BK121.out 4
                have hfz23_5 := blk_frozen BK121.out 5
                have hfz23_6 := blk_frozen BK121.out 6
                go_wp2_with (first | ((with_reducible refine gate_callee (f := 15) rfl ?_); refine goesL_ (some 10) rfl rfl Try.func15 (by kernel_rfl) rfl #[.int .i64 a0_0] rfl (by (try simp only [List.map_toArray, List.map_cons, List.map_nil]); first | done | rfl | (simp only [List.length_drop, List.length_take]; rfl)) ?_; (with_reducible refine (impl_offsetOk.calls a0_0 true _ A5.out).mono ?_); rintro e w' ⟨rfl, ⟨nd, rfl⟩⟩; refine ⟨_, rfl, ?_⟩) | (go_at_call 16; (with_reducible refine (impl_within.calls a0_1 0 1000000 true _ A7.out).mono ?_); rintro e w' ⟨rfl, ⟨nd, rfl⟩⟩) | (go_at_call 16; (with_reducible refine (impl_within.calls a0_2 (-1) 1000000000 true _ A9.out).mono ?_); rintro e w' ⟨rfl, ⟨nd, rfl⟩⟩) | (go_at_call 16; (with_reducible refine (impl_within.calls a0_3 0 1000 true _ A11.out).mono ?_); rintro e w' ⟨rfl, ⟨nd, rfl⟩⟩) | (go_at_call 15; (with_reducible refine (impl_offsetOk.calls a0_4 true _ A13.out).mono ?_); rintro e w' ⟨rfl, ⟨nd, rfl⟩⟩) | (go_at_call 16; (with_reducible refine (impl_within.calls a0_5 0 7 false _ A15.out).mono ?_); rintro e w' ⟨rfl, ⟨nd, rfl⟩⟩))
                go_meet
                case rel => exact ⟨_, (true), (by first | rfl | (simp; done) | (simp [*]; done)), H', ⟨by first | omega | exact Nat.le_refl _⟩, ⟨by (with_reducible repeat (first | refine blk_drewN ?_ _ | refine blk_drew ?_ | refine blk_alloc ?_ _)); exact BK121.out⟩, ⟨by repeat (first | (with_reducible first | exact HB.out | apply below_alloc | apply pw_below_drewN | apply below_drew1 | refine below_set ?_ GE121.out) | exact HB.out)⟩⟩
            · replace c14 := Bool.eq_false_iff.mpr c14
              subst c14
              have H1 : (impl_BatchOk.j0 k (l0_6.length : Int) true a0_0 a0_1 a0_2 a0_3 a0_4 a0_5 l0_6) = some r := by rw [if_neg (show ¬ (false = true) by decide)] at H; exact H
              clear H
              have H := H1
              clear H1
              have H' := Aside0.mk H
              clear H
              have hcz24_0 : w3.cell? ⟨gb121, 0, none⟩ = some (.int .i64 a0_0) := (blk_cell BK121.out 0).trans rfl
              have hcz24_1 : w3.cell? ⟨gb121, 1, none⟩ = some (.int .i64 a0_1) := (blk_cell BK121.out 1).trans rfl
              have hcz24_2 : w3.cell? ⟨gb121, 2, none⟩ = some (.int .i64 a0_2) := (blk_cell BK121.out 2).trans rfl
              have hcz24_3 : w3.cell? ⟨gb121, 3, none⟩ = some (.int .i64 a0_3) := (blk_cell BK121.out 3).trans rfl
              have hcz24_4 : w3.cell? ⟨gb121, 4, none⟩ = some (.int .i64 a0_4) := (blk_cell BK121.out 4).trans rfl
              have hcz24_5 : w3.cell? ⟨gb121, 5, none⟩ = some (.int .i64 a0_5) := (blk_cell BK121.out 5).trans rfl
              have hcz24_6 : w3.cell? ⟨gb121, 6, none⟩ = some (.slice A0_6 l0_6.length c0_6) := (blk_cell BK121.out 6).trans rfl
              have hfz24_0 := blk_frozen BK121.out 0
              have hfz24_1 := blk_frozen BK121.out 1
              have hfz24_2 := blk_frozen BK121.out 2
              have hfz24_3 := blk_frozen BK121.out 3
              have hfz24_4 := blk_frozen BK121.out 4
              have hfz24_5 := blk_frozen BK121.out 5
              have hfz24_6 := blk_frozen BK121.out 6
              go_wp2_with (first | ((with_reducible refine gate_callee (f := 15) rfl ?_); refine goesL_ (some 10) rfl rfl Try.func15 (by kernel_rfl) rfl #[.int .i64 a0_0] rfl (by (try simp only [List.map_toArray, List.map_cons, List.map_nil]); first | done | rfl | (simp only [List.length_drop, List.length_take]; rfl)) ?_; (with_reducible refine (impl_offsetOk.calls a0_0 true _ A5.out).mono ?_); rintro e w' ⟨rfl, ⟨nd, rfl⟩⟩; refine ⟨_, rfl, ?_⟩) | (go_at_call 16; (with_reducible refine (impl_within.calls a0_1 0 1000000 true _ A7.out).mono ?_); rintro e w' ⟨rfl, ⟨nd, rfl⟩⟩) | (go_at_call 16; (with_reducible refine (impl_within.calls a0_2 (-1) 1000000000 true _ A9.out).mono ?_); rintro e w' ⟨rfl, ⟨nd, rfl⟩⟩) | (go_at_call 16; (with_reducible refine (impl_within.calls a0_3 0 1000 true _ A11.out).mono ?_); rintro e w' ⟨rfl, ⟨nd, rfl⟩⟩) | (go_at_call 15; (with_reducible refine (impl_offsetOk.calls a0_4 false _ A13.out).mono ?_); rintro e w' ⟨rfl, ⟨nd, rfl⟩⟩))
              go_meet
              case rel => exact ⟨_, (true), (by first | rfl | (simp; done) | (simp [*]; done)), H', ⟨by first | omega | exact Nat.le_refl _⟩, ⟨by (with_reducible repeat (first | refine blk_drewN ?_ _ | refine blk_drew ?_ | refine blk_alloc ?_ _)); exact BK121.out⟩, ⟨by repeat (first | (with_reducible first | exact HB.out | apply below_alloc | apply pw_below_drewN | apply below_drew1 | refine below_set ?_ GE121.out) | exact HB.out)⟩⟩
          · replace c12 := Bool.eq_false_iff.mpr c12
            subst c12
            have H1 : (impl_BatchOk.j0 k (l0_6.length : Int) true a0_0 a0_1 a0_2 a0_3 a0_4 a0_5 l0_6) = some r := by rw [if_neg (show ¬ (false = true) by decide)] at H; exact H
            clear H
            have H := H1
            clear H1
            have H' := Aside0.mk H
            clear H
            have hcz25_0 : w3.cell? ⟨gb121, 0, none⟩ = some (.int .i64 a0_0) := (blk_cell BK121.out 0).trans rfl
            have hcz25_1 : w3.cell? ⟨gb121, 1, none⟩ = some (.int .i64 a0_1) := (blk_cell BK121.out 1).trans rfl
            have hcz25_2 : w3.cell? ⟨gb121, 2, none⟩ = some (.int .i64 a0_2) := (blk_cell BK121.out 2).trans rfl
            have hcz25_3 : w3.cell? ⟨gb121, 3, none⟩ = some (.int .i64 a0_3) := (blk_cell BK121.out 3).trans rfl
            have hcz25_4 : w3.cell? ⟨gb121, 4, none⟩ = some (.int .i64 a0_4) := (blk_cell BK121.out 4).trans rfl
            have hcz25_5 : w3.cell? ⟨gb121, 5, none⟩ = some (.int .i64 a0_5) := (blk_cell BK121.out 5).trans rfl
            have hcz25_6 : w3.cell? ⟨gb121, 6, none⟩ = some (.slice A0_6 l0_6.length c0_6) := (blk_cell BK121.out 6).trans rfl
            have hfz25_0 := blk_frozen BK121.out 0
            have hfz25_1 := blk_frozen BK121.out 1
            have hfz25_2 := blk_frozen BK121.out 2
            have hfz25_3 := blk_frozen BK121.out 3
            have hfz25_4 := blk_frozen BK121.out 4
            have hfz25_5 := blk_frozen BK121.out 5
            have hfz25_6 := blk_frozen BK121.out 6
            go_wp2_with (first | ((with_reducible refine gate_callee (f := 15) rfl ?_); refine goesL_ (some 10) rfl rfl Try.func15 (by kernel_rfl) rfl #[.int .i64 a0_0] rfl (by (try simp only [List.map_toArray, List.map_cons, List.map_nil]); first | done | rfl | (simp only [List.length_drop, List.length_take]; rfl)) ?_; (with_reducible refine (impl_offsetOk.calls a0_0 true _ A5.out).mono ?_); rintro e w' ⟨rfl, ⟨nd, rfl⟩⟩; refine ⟨_, rfl, ?_⟩) | (go_at_call 16; (with_reducible refine (impl_within.calls a0_1 0 1000000 true _ A7.out).mono ?_); rintro e w' ⟨rfl, ⟨nd, rfl⟩⟩) | (go_at_call 16; (with_reducible refine (impl_within.calls a0_2 (-1) 1000000000 true _ A9.out).mono ?_); rintro e w' ⟨rfl, ⟨nd, rfl⟩⟩) | (go_at_call 16; (with_reducible refine (impl_within.calls a0_3 0 1000 false _ A11.out).mono ?_); rintro e w' ⟨rfl, ⟨nd, rfl⟩⟩))
            go_meet
            case rel => exact ⟨_, (true), (by first | rfl | (simp; done) | (simp [*]; done)), H', ⟨by first | omega | exact Nat.le_refl _⟩, ⟨by (with_reducible repeat (first | refine blk_drewN ?_ _ | refine blk_drew ?_ | refine blk_alloc ?_ _)); exact BK121.out⟩, ⟨by repeat (first | (with_reducible first | exact HB.out | apply below_alloc | apply pw_below_drewN | apply below_drew1 | refine below_set ?_ GE121.out) | exact HB.out)⟩⟩
        · replace c10 := Bool.eq_false_iff.mpr c10
          subst c10
          have H1 : (impl_BatchOk.j0 k (l0_6.length : Int) true a0_0 a0_1 a0_2 a0_3 a0_4 a0_5 l0_6) = some r := by rw [if_neg (show ¬ (false = true) by decide)] at H; exact H
          clear H
          have H := H1
          clear H1
          have H' := Aside0.mk H
          clear H
          have hcz26_0 : w3.cell? ⟨gb121, 0, none⟩ = some (.int .i64 a0_0) := (blk_cell BK121.out 0).trans rfl
          have hcz26_1 : w3.cell? ⟨gb121, 1, none⟩ = some (.int .i64 a0_1) := (blk_cell BK121.out 1).trans rfl
          have hcz26_2 : w3.cell? ⟨gb121, 2, none⟩ = some (.int .i64 a0_2) := (blk_cell BK121.out 2).trans rfl
          have hcz26_3 : w3.cell? ⟨gb121, 3, none⟩ = some (.int .i64 a0_3) := (blk_cell BK121.out 3).trans rfl
          have hcz26_4 : w3.cell? ⟨gb121, 4, none⟩ = some (.int .i64 a0_4) := (blk_cell BK121.out 4).trans rfl
          have hcz26_5 : w3.cell? ⟨gb121, 5, none⟩ = some (.int .i64 a0_5) := (blk_cell BK121.out 5).trans rfl
          have hcz26_6 : w3.cell? ⟨gb121, 6, none⟩ = some (.slice A0_6 l0_6.length c0_6) := (blk_cell BK121.out 6).trans rfl
          have hfz26_0 := blk_frozen BK121.out 0
          have hfz26_1 := blk_frozen BK121.out 1
          have hfz26_2 := blk_frozen BK121.out 2
          have hfz26_3 := blk_frozen BK121.out 3
          have hfz26_4 := blk_frozen BK121.out 4
          have hfz26_5 := blk_frozen BK121.out 5
          have hfz26_6 := blk_frozen BK121.out 6
          go_wp2_with (first | ((with_reducible refine gate_callee (f := 15) rfl ?_); refine goesL_ (some 10) rfl rfl Try.func15 (by kernel_rfl) rfl #[.int .i64 a0_0] rfl (by (try simp only [List.map_toArray, List.map_cons, List.map_nil]); first | done | rfl | (simp only [List.length_drop, List.length_take]; rfl)) ?_; (with_reducible refine (impl_offsetOk.calls a0_0 true _ A5.out).mono ?_); rintro e w' ⟨rfl, ⟨nd, rfl⟩⟩; refine ⟨_, rfl, ?_⟩) | (go_at_call 16; (with_reducible refine (impl_within.calls a0_1 0 1000000 true _ A7.out).mono ?_); rintro e w' ⟨rfl, ⟨nd, rfl⟩⟩) | (go_at_call 16; (with_reducible refine (impl_within.calls a0_2 (-1) 1000000000 false _ A9.out).mono ?_); rintro e w' ⟨rfl, ⟨nd, rfl⟩⟩))
          go_meet
          case rel => exact ⟨_, (true), (by first | rfl | (simp; done) | (simp [*]; done)), H', ⟨by first | omega | exact Nat.le_refl _⟩, ⟨by (with_reducible repeat (first | refine blk_drewN ?_ _ | refine blk_drew ?_ | refine blk_alloc ?_ _)); exact BK121.out⟩, ⟨by repeat (first | (with_reducible first | exact HB.out | apply below_alloc | apply pw_below_drewN | apply below_drew1 | refine below_set ?_ GE121.out) | exact HB.out)⟩⟩
      · replace c8 := Bool.eq_false_iff.mpr c8
        subst c8
        have H1 : (impl_BatchOk.j0 k (l0_6.length : Int) true a0_0 a0_1 a0_2 a0_3 a0_4 a0_5 l0_6) = some r := by rw [if_neg (show ¬ (false = true) by decide)] at H; exact H
        clear H
        have H := H1
        clear H1
        have H' := Aside0.mk H
        clear H
        have hcz27_0 : w3.cell? ⟨gb121, 0, none⟩ = some (.int .i64 a0_0) := (blk_cell BK121.out 0).trans rfl
        have hcz27_1 : w3.cell? ⟨gb121, 1, none⟩ = some (.int .i64 a0_1) := (blk_cell BK121.out 1).trans rfl
        have hcz27_2 : w3.cell? ⟨gb121, 2, none⟩ = some (.int .i64 a0_2) := (blk_cell BK121.out 2).trans rfl
        have hcz27_3 : w3.cell? ⟨gb121, 3, none⟩ = some (.int .i64 a0_3) := (blk_cell BK121.out 3).trans rfl
        have hcz27_4 : w3.cell? ⟨gb121, 4, none⟩ = some (.int .i64 a0_4) := (blk_cell BK121.out 4).trans rfl
        have hcz27_5 : w3.cell? ⟨gb121, 5, none⟩ = some (.int .i64 a0_5) := (blk_cell BK121.out 5).trans rfl
        have hcz27_6 : w3.cell? ⟨gb121, 6, none⟩ = some (.slice A0_6 l0_6.length c0_6) := (blk_cell BK121.out 6).trans rfl
        have hfz27_0 := blk_frozen BK121.out 0
        have hfz27_1 := blk_frozen BK121.out 1
        have hfz27_2 := blk_frozen BK121.out 2
        have hfz27_3 := blk_frozen BK121.out 3
        have hfz27_4 := blk_frozen BK121.out 4
        have hfz27_5 := blk_frozen BK121.out 5
        have hfz27_6 := blk_frozen BK121.out 6
        go_wp2_with (first | ((with_reducible refine gate_callee (f := 15) rfl ?_); refine goesL_ (some 10) rfl rfl Try.func15 (by kernel_rfl) rfl #[.int .i64 a0_0] rfl (by (try simp only [List.map_toArray, List.map_cons, List.map_nil]); first | done | rfl | (simp only [List.length_drop, List.length_take]; rfl)) ?_; (with_reducible refine (impl_offsetOk.calls a0_0 true _ A5.out).mono ?_); rintro e w' ⟨rfl, ⟨nd, rfl⟩⟩; refine ⟨_, rfl, ?_⟩) | (go_at_call 16; (with_reducible refine (impl_within.calls a0_1 0 1000000 false _ A7.out).mono ?_); rintro e w' ⟨rfl, ⟨nd, rfl⟩⟩))
        go_meet
        case rel => exact ⟨_, (true), (by first | rfl | (simp; done) | (simp [*]; done)), H', ⟨by first | omega | exact Nat.le_refl _⟩, ⟨by (with_reducible repeat (first | refine blk_drewN ?_ _ | refine blk_drew ?_ | refine blk_alloc ?_ _)); exact BK121.out⟩, ⟨by repeat (first | (with_reducible first | exact HB.out | apply below_alloc | apply pw_below_drewN | apply below_drew1 | refine below_set ?_ GE121.out) | exact HB.out)⟩⟩
    · replace c6 := Bool.eq_false_iff.mpr c6
      subst c6
      have H1 : (impl_BatchOk.j0 k (l0_6.length : Int) true a0_0 a0_1 a0_2 a0_3 a0_4 a0_5 l0_6) = some r := by rw [if_neg (show ¬ (false = true) by decide)] at H; exact H
      clear H
      have H := H1
      clear H1
      have H' := Aside0.mk H
      clear H
      have hcz28_0 : w3.cell? ⟨gb121, 0, none⟩ = some (.int .i64 a0_0) := (blk_cell BK121.out 0).trans rfl
      have hcz28_1 : w3.cell? ⟨gb121, 1, none⟩ = some (.int .i64 a0_1) := (blk_cell BK121.out 1).trans rfl
      have hcz28_2 : w3.cell? ⟨gb121, 2, none⟩ = some (.int .i64 a0_2) := (blk_cell BK121.out 2).trans rfl
      have hcz28_3 : w3.cell? ⟨gb121, 3, none⟩ = some (.int .i64 a0_3) := (blk_cell BK121.out 3).trans rfl
      have hcz28_4 : w3.cell? ⟨gb121, 4, none⟩ = some (.int .i64 a0_4) := (blk_cell BK121.out 4).trans rfl
      have hcz28_5 : w3.cell? ⟨gb121, 5, none⟩ = some (.int .i64 a0_5) := (blk_cell BK121.out 5).trans rfl
      have hcz28_6 : w3.cell? ⟨gb121, 6, none⟩ = some (.slice A0_6 l0_6.length c0_6) := (blk_cell BK121.out 6).trans rfl
      have hfz28_0 := blk_frozen BK121.out 0
      have hfz28_1 := blk_frozen BK121.out 1
      have hfz28_2 := blk_frozen BK121.out 2
      have hfz28_3 := blk_frozen BK121.out 3
      have hfz28_4 := blk_frozen BK121.out 4
      have hfz28_5 := blk_frozen BK121.out 5
      have hfz28_6 := blk_frozen BK121.out 6
      go_wp2_with (first | ((with_reducible refine gate_callee (f := 15) rfl ?_); refine goesL_ (some 10) rfl rfl Try.func15 (by kernel_rfl) rfl #[.int .i64 a0_0] rfl (by (try simp only [List.map_toArray, List.map_cons, List.map_nil]); first | done | rfl | (simp only [List.length_drop, List.length_take]; rfl)) ?_; (with_reducible refine (impl_offsetOk.calls a0_0 false _ A5.out).mono ?_); rintro e w' ⟨rfl, ⟨nd, rfl⟩⟩; refine ⟨_, rfl, ?_⟩))
      go_meet
      case rel => exact ⟨_, (true), (by first | rfl | (simp; done) | (simp [*]; done)), H', ⟨by first | omega | exact Nat.le_refl _⟩, ⟨by (with_reducible repeat (first | refine blk_drewN ?_ _ | refine blk_drew ?_ | refine blk_alloc ?_ _)); exact BK121.out⟩, ⟨by repeat (first | (with_reducible first | exact HB.out | apply below_alloc | apply pw_below_drewN | apply below_drew1 | refine below_set ?_ GE121.out) | exact HB.out)⟩⟩
  case rest =>
    clear HC2
    try clear c1
    try clear p2
    try clear c6
    try clear c8
    try clear c10
    try clear c12
    try clear c14
    try clear c15
    try clear c16
    try clear c18
    try clear hcz20_0
    try clear hcz20_1
    try clear hcz20_2
    try clear hcz20_3
    try clear hcz20_4
    try clear hcz20_5
    try clear hcz20_6
    try clear hcz22_0
    try clear hcz22_1
    try clear hcz22_2
    try clear hcz22_3
    try clear hcz22_4
    try clear hcz22_5
    try clear hcz22_6
    try clear hcz23_0
    try clear hcz23_1
    try clear hcz23_2
    try clear hcz23_3
    try clear hcz23_4
    try clear hcz23_5
    try clear hcz23_6
    try clear hcz24_0
    try clear hcz24_1
    try clear hcz24_2
    try clear hcz24_3
    try clear hcz24_4
    try clear hcz24_5
    try clear hcz24_6
    try clear hcz25_0
    try clear hcz25_1
    try clear hcz25_2
    try clear hcz25_3
    try clear hcz25_4
    try clear hcz25_5
    try clear hcz25_6
    try clear hcz26_0
    try clear hcz26_1
    try clear hcz26_2
    try clear hcz26_3
    try clear hcz26_4
    try clear hcz26_5
    try clear hcz26_6
    try clear hcz27_0
    try clear hcz27_1
    try clear hcz27_2
    try clear hcz27_3
    try clear hcz27_4
    try clear hcz27_5
    try clear hcz27_6
    try clear hcz28_0
    try clear hcz28_1
    try clear hcz28_2
    try clear hcz28_3
    try clear hcz28_4
    try clear hcz28_5
    try clear hcz28_6
    try clear hcz4_0
    try clear hcz4_1
    try clear hcz4_2
    try clear hcz4_3
    try clear hcz4_4
    try clear hcz4_5
    try clear hcz4_6
    try clear hfz20_0
    try clear hfz20_1
    try clear hfz20_2
    try clear hfz20_3
    try clear hfz20_4
    try clear hfz20_5
    try clear hfz20_6
    try clear hfz22_0
    try clear hfz22_1
    try clear hfz22_2
    try clear hfz22_3
    try clear hfz22_4
    try clear hfz22_5
    try clear hfz22_6
    try clear hfz23_0
    try clear hfz23_1
    try clear hfz23_2
    try clear hfz23_3
    try clear hfz23_4
    try clear hfz23_5
    try clear hfz23_6
    try clear hfz24_0
    try clear hfz24_1
    try clear hfz24_2
    try clear hfz24_3
    try clear hfz24_4
    try clear hfz24_5
    try clear hfz24_6
    try clear hfz25_0
    try clear hfz25_1
    try clear hfz25_2
    try clear hfz25_3
    try clear hfz25_4
    try clear hfz25_5
    try clear hfz25_6
    try clear hfz26_0
    try clear hfz26_1
    try clear hfz26_2
    try clear hfz26_3
    try clear hfz26_4
    try clear hfz26_5
    try clear hfz26_6
    try clear hfz27_0
    try clear hfz27_1
    try clear hfz27_2
    try clear hfz27_3
    try clear hfz27_4
    try clear hfz27_5
    try clear hfz27_6
    try clear hfz28_0
    try clear hfz28_1
    try clear hfz28_2
    try clear hfz28_3
    try clear hfz28_4
    try clear hfz28_5
    try clear hfz28_6
    try clear hfz4_0
    try clear hfz4_1
    try clear hfz4_2
    try clear hfz4_3
    try clear hfz4_4
    try clear hfz4_5
    try clear hfz4_6
    obtain ⟨kq, x52_1, rfl, HA, HJ1, BK121, HB⟩ := hcut
    cases kq with
    | zero => exact absurd HA.out (by simp [impl_BatchOk.j0])
    | succ kj1 =>
      have H := HA.out
      clear HA
      simp only [impl_BatchOk.j0] at H
      by_cases c29 : x52_1 = true
      · subst c29
        have H1 : (some false) = some r := by rw [if_pos rfl] at H; exact H
        clear H
        have H := H1
        clear H1
        obtain rfl := Option.some.inj H
        go_wp2
        go_ret
        exact ⟨by first | rfl | (simp [errW_none, errW_some] <;> rfl) | (simp [*, errW_none, errW_some] <;> rfl), by repeat (first | (with_reducible first | exact HB.out | apply below_alloc | apply pw_below_drewN | apply below_drew1 | refine below_set ?_ GE121.out) | exact HB.out)⟩
      · replace c29 := Bool.eq_false_iff.mpr c29
        subst c29
        have H1 : ((impl_offsetOk.f (wrap64 ((wrap64 (a0_0 + (l0_6.length : Int))) - 1))).bind fun t130 => (if t130 = true then ((impl_offsetOk.f (wrap64 ((wrap64 (a0_4 + (l0_6.length : Int))) - 1))).bind fun t131 => (if t131 = true then (if a0_2 = (-1) then (if a0_3 = 0 then (if a0_4 = 0 then (impl_BatchOk.j1 kj1 (l0_6.length : Int) ((Go.bits .and .i64 a0_5 2) != 0) a0_0 a0_1 a0_2 a0_3 a0_4 a0_5 l0_6) else (impl_BatchOk.j1 kj1 (l0_6.length : Int) true a0_0 a0_1 a0_2 a0_3 a0_4 a0_5 l0_6)) else (impl_BatchOk.j1 kj1 (l0_6.length : Int) true a0_0 a0_1 a0_2 a0_3 a0_4 a0_5 l0_6)) else (impl_BatchOk.j1 kj1 (l0_6.length : Int) false a0_0 a0_1 a0_2 a0_3 a0_4 a0_5 l0_6)) else (impl_BatchOk.j1 kj1 (l0_6.length : Int) true a0_0 a0_1 a0_2 a0_3 a0_4 a0_5 l0_6))) else (impl_BatchOk.j1 kj1 (l0_6.length : Int) true a0_0 a0_1 a0_2 a0_3 a0_4 a0_5 l0_6))) = some r := by rw [if_neg (show ¬ (false = true) by decide)] at H; exact H
        clear H
        have H := H1
        clear H1
        have HC30 := Aside0.mk H
        clear H
        go_upto_region 4 with (fail)
        go_cut [89] (fun v89 wc => ∃ (kq : Nat) (x89_29 : Bool), v89 = .bool x89_29 ∧ Aside0 (impl_BatchOk.j1 kq (l0_6.length : Int) x89_29 a0_0 a0_1 a0_2 a0_3 a0_4 a0_5 l0_6 = some r) ∧ Aside0 (kq ≤ kj1) ∧ Aside0 (wc.heap[gb121]? = some (.cells #[.int .i64 a0_0, .int .i64 a0_1, .int .i64 a0_2, .int .i64 a0_3, .int .i64 a0_4, .int .i64 a0_5, (.slice A0_6 l0_6.length c0_6)] 30 (0, 0))) ∧ Aside0 (Below w.heap.size w wc))
        case first =>
          have H := HC30.out
          clear HC30
          replace H := Option.bind_eq_some_iff.mp H
          obtain ⟨t130, A310, H⟩ := H
          replace H : (if t130 = true then ((impl_offsetOk.f (wrap64 ((wrap64 (a0_4 + (l0_6.length : Int))) - 1))).bind fun t131 => (if t131 = true then (if a0_2 = (-1) then (if a0_3 = 0 then (if a0_4 = 0 then (impl_BatchOk.j1 kj1 (l0_6.length : Int) ((Go.bits .and .i64 a0_5 2) != 0) a0_0 a0_1 a0_2 a0_3 a0_4 a0_5 l0_6) else (impl_BatchOk.j1 kj1 (l0_6.length : Int) true a0_0 a0_1 a0_2 a0_3 a0_4 a0_5 l0_6)) else (impl_BatchOk.j1 kj1 (l0_6.length : Int) true a0_0 a0_1 a0_2 a0_3 a0_4 a0_5 l0_6)) else (impl_BatchOk.j1 kj1 (l0_6.length : Int) false a0_0 a0_1 a0_2 a0_3 a0_4 a0_5 l0_6)) else (impl_BatchOk.j1 kj1 (l0_6.length : Int) true a0_0 a0_1 a0_2 a0_3 a0_4 a0_5 l0_6))) else (impl_BatchOk.j1 kj1 (l0_6.length : Int) true a0_0 a0_1 a0_2 a0_3 a0_4 a0_5 l0_6)) = some r := H
          have A31 := Aside0.mk A310
          clear A310
          by_cases c32 : t130 = true
          · subst c32
            have H1 : ((impl_offsetOk.f (wrap64 ((wrap64 (a0_4 + (l0_6.length : Int))) - 1))).bind fun t131 => (if t131 = true then (if a0_2 = (-1) then (if a0_3 = 0 then (if a0_4 = 0 then (impl_BatchOk.j1 kj1 (l0_6.length : Int) ((Go.bits .and .i64 a0_5 2) != 0) a0_0 a0_1 a0_2 a0_3 a0_4 a0_5 l0_6) else (impl_BatchOk.j1 kj1 (l0_6.length : Int) true a0_0 a0_1 a0_2 a0_3 a0_4 a0_5 l0_6)) else (impl_BatchOk.j1 kj1 (l0_6.length : Int) true a0_0 a0_1 a0_2 a0_3 a0_4 a0_5 l0_6)) else (impl_BatchOk.j1 kj1 (l0_6.length : Int) false a0_0 a0_1 a0_2 a0_3 a0_4 a0_5 l0_6)) else (impl_BatchOk.j1 kj1 (l0_6.length : Int) true a0_0 a0_1 a0_2 a0_3 a0_4 a0_5 l0_6))) = some r := by rw [if_pos rfl] at H; exact H
            clear H
            have H := H1
            clear H1
            replace H := Option.bind_eq_some_iff.mp H
            obtain ⟨t131, A330, H⟩ := H
            replace H : (if t131 = true then (if a0_2 = (-1) then (if a0_3 = 0 then (if a0_4 = 0 then (impl_BatchOk.j1 kj1 (l0_6.length : Int) ((Go.bits .and .i64 a0_5 2) != 0) a0_0 a0_1 a0_2 a0_3 a0_4 a0_5 l0_6) else (impl_BatchOk.j1 kj1 (l0_6.length : Int) true a0_0 a0_1 a0_2 a0_3 a0_4 a0_5 l0_6)) else (impl_BatchOk.j1 kj1 (l0_6.length : Int) true a0_0 a0_1 a0_2 a0_3 a0_4 a0_5 l0_6)) else (impl_BatchOk.j1 kj1 (l0_6.length : Int) false a0_0 a0_1 a0_2 a0_3 a0_4 a0_5 l0_6)) else (impl_BatchOk.j1 kj1 (l0_6.length : Int) true a0_0 a0_1 a0_2 a0_3 a0_4 a0_5 l0_6)) = some r := H
            have A33 := Aside0.mk A330
            clear A330
            by_cases c34 : t131 = true
            · subst c34
              have H1 : (if a0_2 = (-1) then (if a0_3 = 0 then (if a0_4 = 0 then (impl_BatchOk.j1 kj1 (l0_6.length : Int) ((Go.bits .and .i64 a0_5 2) != 0) a0_0 a0_1 a0_2 a0_3 a0_4 a0_5 l0_6) else (impl_BatchOk.j1 kj1 (l0_6.length : Int) true a0_0 a0_1 a0_2 a0_3 a0_4 a0_5 l0_6)) else (impl_BatchOk.j1 kj1 (l0_6.length : Int) true a0_0 a0_1 a0_2 a0_3 a0_4 a0_5 l0_6)) else (impl_BatchOk.j1 kj1 (l0_6.length : Int) false a0_0 a0_1 a0_2 a0_3 a0_4 a0_5 l0_6)) = some r := by rw [if_pos rfl] at H; exact H
              clear H
              have H := H1
              clear H1
              by_cases c35 : a0_2 = (-1)
              · rw [if_pos c35] at H
                have c35b0 : (a0_2 == (-1)) = true := beq_iff_eq.mpr c35
                have c35b1 : (a0_2 != (-1)) = false := bne_eq_false_iff_eq.mpr c35
                clear c35
                (first | rw [c35b0] | (simp only [i64_w, i32_w]; rw [c35b0]) | skip)
                by_cases c36 : a0_3 = 0
                · rw [if_pos c36] at H
                  have c36b0 : (a0_3 == 0) = true := beq_iff_eq.mpr c36
                  have c36b1 : (a0_3 != 0) = false := bne_eq_false_iff_eq.mpr c36
                  clear c36
                  by_cases c37 : a0_4 = 0
                  · rw [if_pos c37] at H
                    have c37b0 : (a0_4 == 0) = true := beq_iff_eq.mpr c37
                    have c37b1 : (a0_4 != 0) = false := bne_eq_false_iff_eq.mpr c37
                    clear c37
                    have H' := Aside0.mk H
                    clear H
                    have hcz38_0 : wc.cell? ⟨gb121, 0, none⟩ = some (.int .i64 a0_0) := (blk_cell BK121.out 0).trans rfl
                    have hcz38_1 : wc.cell? ⟨gb121, 1, none⟩ = some (.int .i64 a0_1) := (blk_cell BK121.out 1).trans rfl
                    have hcz38_2 : wc.cell? ⟨gb121, 2, none⟩ = some (.int .i64 a0_2) := (blk_cell BK121.out 2).trans rfl
                    have hcz38_3 : wc.cell? ⟨gb121, 3, none⟩ = some (.int .i64 a0_3) := (blk_cell BK121.out 3).trans rfl
                    have hcz38_4 : wc.cell? ⟨gb121, 4, none⟩ = some (.int .i64 a0_4) := (blk_cell BK121.out 4).trans rfl
                    have hcz38_5 : wc.cell? ⟨gb121, 5, none⟩ = some (.int .i64 a0_5) := (blk_cell BK121.out 5).trans rfl
                    have hcz38_6 : wc.cell? ⟨gb121, 6, none⟩ = some (.slice A0_6 l0_6.length c0_6) := (blk_cell BK121.out 6).trans rfl
                    have hfz38_0 := blk_frozen BK121.out 0
                    have hfz38_1 := blk_frozen BK121.out 1
                    have hfz38_2 := blk_frozen BK121.out 2
                    have hfz38_3 := blk_frozen BK121.out 3
                    have hfz38_4 := blk_frozen BK121.out 4
                    have hfz38_5 := blk_frozen BK121.out 5
                    have hfz38_6 := blk_frozen BK121.out 6
                    go_wp2_with (first | ((with_reducible refine gate_callee (f := 15) rfl ?_); refine goesL_ (some 58) rfl rfl Try.func15 (by kernel_rfl) rfl #[.int .i64 (wrap64 ((wrap64 (a0_0 + (l0_6.length : Int))) - 1))] rfl (by (try simp only [List.map_toArray, List.map_cons, List.map_nil]); first | done | rfl | (simp only [List.length_drop, List.length_take]; rfl)) ?_; (with_reducible refine (impl_offsetOk.calls (wrap64 ((wrap64 (a0_0 + (l0_6.length : Int))) - 1)) true _ A31.out).mono ?_); rintro e w' ⟨rfl, ⟨nd, rfl⟩⟩; refine ⟨_, rfl, ?_⟩) | (go_at_call 15; (with_reducible refine (impl_offsetOk.calls (wrap64 ((wrap64 (a0_4 + (l0_6.length : Int))) - 1)) true _ A33.out).mono ?_); rintro e w' ⟨rfl, ⟨nd, rfl⟩⟩))
                    go_meet
                    case rel => exact ⟨_, (((Go.bits .and .i64 a0_5 2) != 0)), (by first | rfl | (simp; done) | (simp [*]; done)), H', ⟨by have := HJ1.out; first | omega | exact Nat.le_refl _⟩, ⟨by (with_reducible repeat (first | refine blk_drewN ?_ _ | refine blk_drew ?_ | refine blk_alloc ?_ _)); exact BK121.out⟩, ⟨by repeat (first | (with_reducible first | exact HB.out | apply below_alloc | apply pw_below_drewN | apply below_drew1 | refine below_set ?_ GE121.out) | exact HB.out)⟩⟩
                  · rw [if_neg c37] at H
                    have c37b0 : (a0_4 == 0) = false := beq_eq_false_iff_ne.mpr c37
                    have c37b1 : (a0_4 != 0) = true := bne_iff_ne.mpr c37
                    have H' := Aside0.mk H
                    clear H
                    have hcz39_0 : wc.cell? ⟨gb121, 0, none⟩ = some (.int .i64 a0_0) := (blk_cell BK121.out 0).trans rfl
                    have hcz39_1 : wc.cell? ⟨gb121, 1, none⟩ = some (.int .i64 a0_1) := (blk_cell BK121.out 1).trans rfl
                    have hcz39_2 : wc.cell? ⟨gb121, 2, none⟩ = some (.int .i64 a0_2) := (blk_cell BK121.out 2).trans rfl
                    have hcz39_3 : wc.cell? ⟨gb121, 3, none⟩ = some (.int .i64 a0_3) := (blk_cell BK121.out 3).trans rfl
                    have hcz39_4 : wc.cell? ⟨gb121, 4, none⟩ = some (.int .i64 a0_4) := (blk_cell BK121.out 4).trans rfl
                    have hcz39_5 : wc.cell? ⟨gb121, 5, none⟩ = some (.int .i64 a0_5) := (blk_cell BK121.out 5).trans rfl
                    have hcz39_6 : wc.cell? ⟨gb121, 6, none⟩ = some (.slice A0_6 l0_6.length c0_6) := (blk_cell BK121.out 6).trans rfl
                    have hfz39_0 := blk_frozen BK121.out 0
                    have hfz39_1 := blk_frozen BK121.out 1
                    have hfz39_2 := blk_frozen BK121.out 2
                    have hfz39_3 := blk_frozen BK121.out 3
                    have hfz39_4 := blk_frozen BK121.out 4
                    have hfz39_5 := blk_frozen BK121.out 5
                    have hfz39_6 := blk_frozen BK121.out 6
                    go_wp2_with (first | ((with_reducible refine gate_callee (f := 15) rfl ?_); refine goesL_ (some 58) rfl rfl Try.func15 (by kernel_rfl) rfl #[.int .i64 (wrap64 ((wrap64 (a0_0 + (l0_6.length : Int))) - 1))] rfl (by (try simp only [List.map_toArray, List.map_cons, List.map_nil]); first | done | rfl | (simp only [List.length_drop, List.length_take]; rfl)) ?_; (with_reducible refine (impl_offsetOk.calls (wrap64 ((wrap64 (a0_0 + (l0_6.length : Int))) - 1)) true _ A31.out).mono ?_); rintro e w' ⟨rfl, ⟨nd, rfl⟩⟩; refine ⟨_, rfl, ?_⟩) | (go_at_call 15; (with_reducible refine (impl_offsetOk.calls (wrap64 ((wrap64 (a0_4 + (l0_6.length : Int))) - 1)) true _ A33.out).mono ?_); rintro e w' ⟨rfl, ⟨nd, rfl⟩⟩))
                    go_meet
                    case rel => exact ⟨_, (true), (by first | rfl | (simp; done) | (simp [*]; done)), H', ⟨by have := HJ1.out; first | omega | exact Nat.le_refl _⟩, ⟨by (with_reducible repeat (first | refine blk_drewN ?_ _ | refine blk_drew ?_ | refine blk_alloc ?_ _)); exact BK121.out⟩, ⟨by repeat (first | (with_reducible first | exact HB.out | apply below_alloc | apply pw_below_drewN | apply below_drew1 | refine below_set ?_ GE121.out) | exact HB.out)⟩⟩
                · rw [if_neg c36] at H
                  have c36b0 : (a0_3 == 0) = false := beq_eq_false_iff_ne.mpr c36
                  have c36b1 : (a0_3 != 0) = true := bne_iff_ne.mpr c36
                  have H' := Aside0.mk H
                  clear H
                  have hcz40_0 : wc.cell? ⟨gb121, 0, none⟩ = some (.int .i64 a0_0) := (blk_cell BK121.out 0).trans rfl
                  have hcz40_1 : wc.cell? ⟨gb121, 1, none⟩ = some (.int .i64 a0_1) := (blk_cell BK121.out 1).trans rfl
                  have hcz40_2 : wc.cell? ⟨gb121, 2, none⟩ = some (.int .i64 a0_2) := (blk_cell BK121.out 2).trans rfl
                  have hcz40_3 : wc.cell? ⟨gb121, 3, none⟩ = some (.int .i64 a0_3) := (blk_cell BK121.out 3).trans rfl
                  have hcz40_4 : wc.cell? ⟨gb121, 4, none⟩ = some (.int .i64 a0_4) := (blk_cell BK121.out 4).trans rfl
                  have hcz40_5 : wc.cell? ⟨gb121, 5, none⟩ = some (.int .i64 a0_5) := (blk_cell BK121.out 5).trans rfl
                  have hcz40_6 : wc.cell? ⟨gb121, 6, none⟩ = some (.slice A0_6 l0_6.length c0_6) := (blk_cell BK121.out 6).trans rfl
                  have hfz40_0 := blk_frozen BK121.out 0
                  have hfz40_1 := blk_frozen BK121.out 1
                  have hfz40_2 := blk_frozen BK121.out 2
                  have hfz40_3 := blk_frozen BK121.out 3
                  have hfz40_4 := blk_frozen BK121.out 4
                  have hfz40_5 := blk_frozen BK121.out 5
                  have hfz40_6 := blk_frozen BK121.out 6
                  go_wp2_with (first | ((with_reducible refine gate_callee (f := 15) rfl ?_); refine goesL_ (some 58) rfl rfl Try.func15 (by kernel_rfl) rfl #[.int .i64 (wrap64 ((wrap64 (a0_0 + (l0_6.length : Int))) - 1))] rfl (by (try simp only [List.map_toArray, List.map_cons, List.map_nil]); first | done | rfl | (simp only [List.length_drop, List.length_take]; rfl)) ?_; (with_reducible refine (impl_offsetOk.calls (wrap64 ((wrap64 (a0_0 + (l0_6.length : Int))) - 1)) true _ A31.out).mono ?_); rintro e w' ⟨rfl, ⟨nd, rfl⟩⟩; refine ⟨_, rfl, ?_⟩) | (go_at_call 15; (with_reducible refine (impl_offsetOk.calls (wrap64 ((wrap64 (a0_4 + (l0_6.length : Int))) - 1)) true _ A33.out).mono ?_); rintro e w' ⟨rfl, ⟨nd, rfl⟩⟩))
                  go_meet
                  case rel => exact ⟨_, (true), (by first | rfl | (simp; done) | (simp [*]; done)), H', ⟨by have := HJ1.out; first | omega | exact Nat.le_refl _⟩, ⟨by (with_reducible repeat (first | refine blk_drewN ?_ _ | refine blk_drew ?_ | refine blk_alloc ?_ _)); exact BK121.out⟩, ⟨by repeat (first | (with_reducible first | exact HB.out | apply below_alloc | apply pw_below_drewN | apply below_drew1 | refine below_set ?_ GE121.out) | exact HB.out)⟩⟩
              · rw [if_neg c35] at H
                have c35b0 : (a0_2 == (-1)) = false := beq_eq_false_iff_ne.mpr c35
                have c35b1 : (a0_2 != (-1)) = true := bne_iff_ne.mpr c35
                (first | rw [c35b0] | (simp only [i64_w, i32_w]; rw [c35b0]) | skip)
                have H' := Aside0.mk H
                clear H
                have hcz41_0 : wc.cell? ⟨gb121, 0, none⟩ = some (.int .i64 a0_0) := (blk_cell BK121.out 0).trans rfl
                have hcz41_1 : wc.cell? ⟨gb121, 1, none⟩ = some (.int .i64 a0_1) := (blk_cell BK121.out 1).trans rfl
                have hcz41_2 : wc.cell? ⟨gb121, 2, none⟩ = some (.int .i64 a0_2) := (blk_cell BK121.out 2).trans rfl
                have hcz41_3 : wc.cell? ⟨gb121, 3, none⟩ = some (.int .i64 a0_3) := (blk_cell BK121.out 3).trans rfl
                have hcz41_4 : wc.cell? ⟨gb121, 4, none⟩ = some (.int .i64 a0_4) := (blk_cell BK121.out 4).trans rfl
                have hcz41_5 : wc.cell? ⟨gb121, 5, none⟩ = some (.int .i64 a0_5) := (blk_cell BK121.out 5).trans rfl
                have hcz41_6 : wc.cell? ⟨gb121, 6, none⟩ = some (.slice A0_6 l0_6.length c0_6) := (blk_cell BK121.out 6).trans rfl
                have hfz41_0 := blk_frozen BK121.out 0
                have hfz41_1 := blk_frozen BK121.out 1
                have hfz41_2 := blk_frozen BK121.out 2
                have hfz41_3 := blk_frozen BK121.out 3
                have hfz41_4 := blk_frozen BK121.out 4
                have hfz41_5 := blk_frozen BK121.out 5
                have hfz41_6 := blk_frozen BK121.out 6
                go_wp2_with (first | ((with_reducible refine gate_callee (f := 15) rfl ?_); refine goesL_ (some 58) rfl rfl Try.func15 (by kernel_rfl) rfl #[.int .i64 (wrap64 ((wrap64 (a0_0 + (l0_6.length : Int))) - 1))] rfl (by (try simp only [List.map_toArray, List.map_cons, List.map_nil]); first | done | rfl | (simp only [List.length_drop, List.length_take]; rfl)) ?_; (with_reducible refine (impl_offsetOk.calls (wrap64 ((wrap64 (a0_0 + (l0_6.length : Int))) - 1)) true _ A31.out).mono ?_); rintro e w' ⟨rfl, ⟨nd, rfl⟩⟩; refine ⟨_, rfl, ?_⟩) | (go_at_call 15; (with_reducible refine (impl_offsetOk.calls (wrap64 ((wrap64 (a0_4 + (l0_6.length : Int))) - 1)) true _ A33.out).mono ?_); rintro e w' ⟨rfl, ⟨nd, rfl⟩⟩))
                go_meet
                case rel => exact ⟨_, (false), (by first | rfl | (simp; done) | (simp [*]; done)), H', ⟨by have := HJ1.out; first | omega | exact Nat.le_refl _⟩, ⟨by (with_reducible repeat (first | refine blk_drewN ?_ _ | refine blk_drew ?_ | refine blk_alloc ?_ _)); exact BK121.out⟩, ⟨by repeat (first | (with_reducible first | exact HB.out | apply below_alloc | apply pw_below_drewN | apply below_drew1 | refine below_set ?_ GE121.out) | exact HB.out)⟩⟩
            · replace c34 := Bool.eq_false_iff.mpr c34
              subst c34
              have H1 : (impl_BatchOk.j1 kj1 (l0_6.length : Int) true a0_0 a0_1 a0_2 a0_3 a0_4 a0_5 l0_6) = some r := by rw [if_neg (show ¬ (false = true) by decide)] at H; exact H
              clear H
              have H := H1
              clear H1
              have H' := Aside0.mk H
              clear H
              have hcz42_0 : wc.cell? ⟨gb121, 0, none⟩ = some (.int .i64 a0_0) := (blk_cell BK121.out 0).trans rfl
              have hcz42_1 : wc.cell? ⟨gb121, 1, none⟩ = some (.int .i64 a0_1) := (blk_cell BK121.out 1).trans rfl
              have hcz42_2 : wc.cell? ⟨gb121, 2, none⟩ = some (.int .i64 a0_2) := (blk_cell BK121.out 2).trans rfl
              have hcz42_3 : wc.cell? ⟨gb121, 3, none⟩ = some (.int .i64 a0_3) := (blk_cell BK121.out 3).trans rfl
              have hcz42_4 : wc.cell? ⟨gb121, 4, none⟩ = some (.int .i64 a0_4) := (blk_cell BK121.out 4).trans rfl
              have hcz42_5 : wc.cell? ⟨gb121, 5, none⟩ = some (.int .i64 a0_5) := (blk_cell BK121.out 5).trans rfl
              have hcz42_6 : wc.cell? ⟨gb121, 6, none⟩ = some (.slice A0_6 l0_6.length c0_6) := (blk_cell BK121.out 6).trans rfl
              have hfz42_0 := blk_frozen BK121.out 0
              have hfz42_1 := blk_frozen BK121.out 1
              have hfz42_2 := blk_frozen BK121.out 2
              have hfz42_3 := blk_frozen BK121.out 3
              have hfz42_4 := blk_frozen BK121.out 4
              have hfz42_5 := blk_frozen BK121.out 5
              have hfz42_6 := blk_frozen BK121.out 6
              go_wp2_with (first | ((with_reducible refine gate_callee (f := 15) rfl ?_); refine goesL_ (some 58) rfl rfl Try.func15 (by kernel_rfl) rfl #[.int .i64 (wrap64 ((wrap64 (a0_0 + (l0_6.length : Int))) - 1))] rfl (by (try simp only [List.map_toArray, List.map_cons, List.map_nil]); first | done | rfl | (simp only [List.length_drop, List.length_take]; rfl)) ?_; (with_reducible refine (impl_offsetOk.calls (wrap64 ((wrap64 (a0_0 + (l0_6.length : Int))) - 1)) true _ A31.out).mono ?_); rintro e w' ⟨rfl, ⟨nd, rfl⟩⟩; refine ⟨_, rfl, ?_⟩) | (go_at_call 15; (with_reducible refine (impl_offsetOk.calls (wrap64 ((wrap64 (a0_4 + (l0_6.length : Int))) - 1)) false _ A33.out).mono ?_); rintro e w' ⟨rfl, ⟨nd, rfl⟩⟩))
              go_meet
              case rel => exact ⟨_, (true), (by first | rfl | (simp; done) | (simp [*]; done)), H', ⟨by have := HJ1.out; first | omega | exact Nat.le_refl _⟩, ⟨by (with_reducible repeat (first | refine blk_drewN ?_ _ | refine blk_drew ?_ | refine blk_alloc ?_ _)); exact BK121.out⟩, ⟨by repeat (first | (with_reducible first | exact HB.out | apply below_alloc | apply pw_below_drewN | apply below_drew1 | refine below_set ?_ GE121.out) | exact HB.out)⟩⟩
          · replace c32 := Bool.eq_false_iff.mpr c32
            subst c32
            have H1 : (impl_BatchOk.j1 kj1 (l0_6.length : Int) true a0_0 a0_1 a0_2 a0_3 a0_4 a0_5 l0_6) = some r := by rw [if_neg (show ¬ (false = true) by decide)] at H; exact H
            clear H
            have H := H1
            clear H1
            have H' := Aside0.mk H
            clear H
            have hcz43_0 : wc.cell? ⟨gb121, 0, none⟩ = some (.int .i64 a0_0) := (blk_cell BK121.out 0).trans rfl
            have hcz43_1 : wc.cell? ⟨gb121, 1, none⟩ = some (.int .i64 a0_1) := (blk_cell BK121.out 1).trans rfl
            have hcz43_2 : wc.cell? ⟨gb121, 2, none⟩ = some (.int .i64 a0_2) := (blk_cell BK121.out 2).trans rfl
            have hcz43_3 : wc.cell? ⟨gb121, 3, none⟩ = some (.int .i64 a0_3) := (blk_cell BK121.out 3).trans rfl
            have hcz43_4 : wc.cell? ⟨gb121, 4, none⟩ = some (.int .i64 a0_4) := (blk_cell BK121.out 4).trans rfl
            have hcz43_5 : wc.cell? ⟨gb121, 5, none⟩ = some (.int .i64 a0_5) := (blk_cell BK121.out 5).trans rfl
            have hcz43_6 : wc.cell? ⟨gb121, 6, none⟩ = some (.slice A0_6 l0_6.length c0_6) := (blk_cell BK121.out 6).trans rfl
            have hfz43_0 := blk_frozen BK121.out 0
            have hfz43_1 := blk_frozen BK121.out 1
            have hfz43_2 := blk_frozen BK121.out 2
            have hfz43_3 := blk_frozen BK121.out 3
            have hfz43_4 := blk_frozen BK121.out 4
            have hfz43_5 := blk_frozen BK121.out 5
            have hfz43_6 := blk_frozen BK121.out 6
            go_wp2_with (first | ((with_reducible refine gate_callee (f := 15) rfl ?_); refine goesL_ (some 58) rfl rfl Try.func15 (by kernel_rfl) rfl #[.int .i64 (wrap64 ((wrap64 (a0_0 + (l0_6.length : Int))) - 1))] rfl (by (try simp only [List.map_toArray, List.map_cons, List.map_nil]); first | done | rfl | (simp only [List.length_drop, List.length_take]; rfl)) ?_; (with_reducible refine (impl_offsetOk.calls (wrap64 ((wrap64 (a0_0 + (l0_6.length : Int))) - 1)) false _ A31.out).mono ?_); rintro e w' ⟨rfl, ⟨nd, rfl⟩⟩; refine ⟨_, rfl, ?_⟩))
            go_meet
            case rel => exact ⟨_, (true), (by first | rfl | (simp; done) | (simp [*]; done)), H', ⟨by have := HJ1.out; first | omega | exact Nat.le_refl _⟩, ⟨by (with_reducible repeat (first | refine blk_drewN ?_ _ | refine blk_drew ?_ | refine blk_alloc ?_ _)); exact BK121.out⟩, ⟨by repeat (first | (with_reducible first | exact HB.out | apply below_alloc | apply pw_below_drewN | apply below_drew1 | refine below_set ?_ GE121.out) | exact HB.out)⟩⟩
        case rest =>
          clear HC30
          try clear c1
          try clear c2
          try clear p2
          try clear c3
          try clear c6
          try clear p6
          try clear c8
          try clear c10
          try clear c12
          try clear c14
          try clear c15
          try clear c16
          try clear c18
          try clear c29
          try clear c32
          try clear c34
          try clear c35
          try clear c35b0
          try clear c35b1
          try clear c36
          try clear c36b0
          try clear c36b1
          try clear c37
          try clear c37b0
          try clear c37b1
          try clear hcz20_0
          try clear hcz20_1
          try clear hcz20_2
          try clear hcz20_3
          try clear hcz20_4
          try clear hcz20_5
          try clear hcz20_6
          try clear hcz22_0
          try clear hcz22_1
          try clear hcz22_2
          try clear hcz22_3
          try clear hcz22_4
          try clear hcz22_5
          try clear hcz22_6
          try clear hcz23_0
          try clear hcz23_1
          try clear hcz23_2
          try clear hcz23_3
          try clear hcz23_4
          try clear hcz23_5
          try clear hcz23_6
          try clear hcz24_0
          try clear hcz24_1
          try clear hcz24_2
          try clear hcz24_3
          try clear hcz24_4
          try clear hcz24_5
          try clear hcz24_6
          try clear hcz25_0
          try clear hcz25_1
          try clear hcz25_2
          try clear hcz25_3
          try clear hcz25_4
          try clear hcz25_5
          try clear hcz25_6
          try clear hcz26_0
          try clear hcz26_1
          try clear hcz26_2
          try clear hcz26_3
          try clear hcz26_4
          try clear hcz26_5
          try clear hcz26_6
          try clear hcz27_0
          try clear hcz27_1
          try clear hcz27_2
          try clear hcz27_3
          try clear hcz27_4
          try clear hcz27_5
          try clear hcz27_6
          try clear hcz28_0
          try clear hcz28_1
          try clear hcz28_2
          try clear hcz28_3
          try clear hcz28_4
          try clear hcz28_5
          try clear hcz28_6
          try clear hcz38_0
          try clear hcz38_1
          try clear hcz38_2
          try clear hcz38_3
          try clear hcz38_4
          try clear hcz38_5
          try clear hcz38_6
          try clear hcz39_0
          try clear hcz39_1
          try clear hcz39_2
          try clear hcz39_3
          try clear hcz39_4
          try clear hcz39_5
          try clear hcz39_6
          try clear hcz40_0
          try clear hcz40_1
          try clear hcz40_2
          try clear hcz40_3
          try clear hcz40_4
          try clear hcz40_5
          try clear hcz40_6
          try clear hcz41_0
          try clear hcz41_1
          try clear hcz41_2
          try clear hcz41_3
          try clear hcz41_4
          try clear hcz41_5
          try clear hcz41_6
          try clear hcz42_0
          try clear hcz42_1
          try clear hcz42_2
          try clear hcz42_3
          try clear hcz42_4
          try clear hcz42_5
          try clear hcz42_6
          try clear hcz43_0
          try clear hcz43_1
          try clear hcz43_2
          try clear hcz43_3
          try clear hcz43_4
          try clear hcz43_5
          try clear hcz43_6
          try clear hcz4_0
          try clear hcz4_1
          try clear hcz4_2
          try clear hcz4_3
          try clear hcz4_4
          try clear hcz4_5
          try clear hcz4_6
          try clear hfz20_0
          try clear hfz20_1
          try clear hfz20_2
          try clear hfz20_3
          try clear hfz20_4
          try clear hfz20_5
          try clear hfz20_6
          try clear hfz22_0
          try clear hfz22_1
          try clear hfz22_2
          try clear hfz22_3
          try clear hfz22_4
          try clear hfz22_5
          try clear hfz22_6
          try clear hfz23_0
          try clear hfz23_1
          try clear hfz23_2
          try clear hfz23_3
          try clear hfz23_4
          try clear hfz23_5
          try clear hfz23_6
          try clear hfz24_0
          try clear hfz24_1
          try clear hfz24_2
          try clear hfz24_3
          try clear hfz24_4
          try clear hfz24_5
          try clear hfz24_6
          try clear hfz25_0
          try clear hfz25_1
          try clear hfz25_2
          try clear hfz25_3
          try clear hfz25_4
          try clear hfz25_5
          try clear hfz25_6
          try clear hfz26_0
          try clear hfz26_1
          try clear hfz26_2
          try clear hfz26_3
          try clear hfz26_4
          try clear hfz26_5
          try clear hfz26_6
          try clear hfz27_0
          try clear hfz27_1
          try clear hfz27_2
          try clear hfz27_3
          try clear hfz27_4
          try clear hfz27_5
          try clear hfz27_6
          try clear hfz28_0
          try clear hfz28_1
          try clear hfz28_2
          try clear hfz28_3
          try clear hfz28_4
          try clear hfz28_5
          try clear hfz28_6
          try clear hfz38_0
          try clear hfz38_1
          try clear hfz38_2
          try clear hfz38_3
          try clear hfz38_4
          try clear hfz38_5
          try clear hfz38_6
          try clear hfz39_0
          try clear hfz39_1
          try clear hfz39_2
          try clear hfz39_3
          try clear hfz39_4
          try clear hfz39_5
          try clear hfz39_6
          try clear hfz40_0
          try clear hfz40_1
          try clear hfz40_2
          try clear hfz40_3
          try clear hfz40_4
          try clear hfz40_5
          try clear hfz40_6
          try clear hfz41_0
          try clear hfz41_1
          try clear hfz41_2
          try clear hfz41_3
          try clear hfz41_4
          try clear hfz41_5
          try clear hfz41_6
          try clear hfz42_0
          try clear hfz42_1
          try clear hfz42_2
          try clear hfz42_3
          try clear hfz42_4
          try clear hfz42_5
          try clear hfz42_6
          try clear hfz43_0
          try clear hfz43_1
          try clear hfz43_2
          try clear hfz43_3
          try clear hfz43_4
          try clear hfz43_5
          try clear hfz43_6
          try clear hfz4_0
          try clear hfz4_1
          try clear hfz4_2
          try clear hfz4_3
          try clear hfz4_4
          try clear hfz4_5
          try clear hfz4_6
          try clear p2
          obtain ⟨kq, x89_29, rfl, HA, HJ29, BK121, HB⟩ := hcut
          cases kq with
          | zero => exact absurd HA.out (by simp [impl_BatchOk.j1])
          | succ kj29 =>
            have H := HA.out
            clear HA
            simp only [impl_BatchOk.j1] at H
            by_cases c44 : x89_29 = true
            · subst c44
              have H1 : (some false) = some r := by rw [if_pos rfl] at H; exact H
              clear H
              have H := H1
              clear H1
              obtain rfl := Option.some.inj H
              go_wp2
              go_ret
              exact ⟨by first | rfl | (simp [errW_none, errW_some] <;> rfl) | (simp [*, errW_none, errW_some] <;> rfl), by repeat (first | (with_reducible first | exact HB.out | apply below_alloc | apply pw_below_drewN | apply below_drew1 | refine below_set ?_ GE121.out) | exact HB.out)⟩
            · replace c44 := Bool.eq_false_iff.mpr c44
              subst c44
              have H1 : (if (Go.bits .and .i64 a0_5 4) = 0 then (some true) else (if 0 < (l0_6.length : Int) then (if (Go.bits .and .i64 a0_5 2) = 0 then (some false) else (if (l0_6.length : Int) = 1 then (if (rd_T28 l0_6 0).f1 = true then (if ((rd_T28 l0_6 0).f2).toList = ([99, 111, 109, 109, 105, 116] : List UInt8) then (if ((rd_T28 l0_6 0).f3 = true) then (some false) else (if ((rd_T28 l0_6 0).f4).toList = ([] : List UInt8) then (some ((((rd_T28 l0_6 0).f5).length : Int) == 0)) else (some false))) else (if ((rd_T28 l0_6 0).f2).toList = ([97, 98, 111, 114, 116] : List UInt8) then (if ((rd_T28 l0_6 0).f3 = true) then (some false) else (if ((rd_T28 l0_6 0).f4).toList = ([] : List UInt8) then (some ((((rd_T28 l0_6 0).f5).length : Int) == 0)) else (some false))) else (some false))) else (some false)) else (some false))) else (none))) = some r := by rw [if_neg (show ¬ (false = true) by decide)] at H; exact H
              clear H
              have H := H1
              clear H1
              by_cases c45 : (Go.bits .and .i64 a0_5 4) = 0
              · rw [if_pos c45] at H
                have c45b0 : ((Go.bits .and .i64 a0_5 4) == 0) = true := beq_iff_eq.mpr c45
                have c45b1 : ((Go.bits .and .i64 a0_5 4) != 0) = false := bne_eq_false_iff_eq.mpr c45
                clear c45
                obtain rfl := Option.some.inj H
                have hcz46_0 : wc.cell? ⟨gb121, 0, none⟩ = some (.int .i64 a0_0) := (blk_cell BK121.out 0).trans rfl
                have hcz46_1 : wc.cell? ⟨gb121, 1, none⟩ = some (.int .i64 a0_1) := (blk_cell BK121.out 1).trans rfl
                have hcz46_2 : wc.cell? ⟨gb121, 2, none⟩ = some (.int .i64 a0_2) := (blk_cell BK121.out 2).trans rfl
                have hcz46_3 : wc.cell? ⟨gb121, 3, none⟩ = some (.int .i64 a0_3) := (blk_cell BK121.out 3).trans rfl
                have hcz46_4 : wc.cell? ⟨gb121, 4, none⟩ = some (.int .i64 a0_4) := (blk_cell BK121.out 4).trans rfl
                have hcz46_5 : wc.cell? ⟨gb121, 5, none⟩ = some (.int .i64 a0_5) := (blk_cell BK121.out 5).trans rfl
                have hcz46_6 : wc.cell? ⟨gb121, 6, none⟩ = some (.slice A0_6 l0_6.length c0_6) := (blk_cell BK121.out 6).trans rfl
                have hfz46_0 := blk_frozen BK121.out 0
                have hfz46_1 := blk_frozen BK121.out 1
                have hfz46_2 := blk_frozen BK121.out 2
                have hfz46_3 := blk_frozen BK121.out 3
                have hfz46_4 := blk_frozen BK121.out 4
                have hfz46_5 := blk_frozen BK121.out 5
                have hfz46_6 := blk_frozen BK121.out 6
                go_wp2
                go_ret
                exact ⟨by first | rfl | (simp [errW_none, errW_some] <;> rfl) | (simp [*, errW_none, errW_some] <;> rfl), by repeat (first | (with_reducible first | exact HB.out | apply below_alloc | apply pw_below_drewN | apply below_drew1 | refine below_set ?_ GE121.out) | exact HB.out)⟩
              · rw [if_neg c45] at H
                have c45b0 : ((Go.bits .and .i64 a0_5 4) == 0) = false := beq_eq_false_iff_ne.mpr c45
                have c45b1 : ((Go.bits .and .i64 a0_5 4) != 0) = true := bne_iff_ne.mpr c45
                by_cases c47 : 0 < (l0_6.length : Int)
                case neg => rw [if_neg c47] at H; exact absurd H (by simp)
                rw [if_pos c47] at H
                have c47b0 : decide (0 < (l0_6.length : Int)) = true := decide_eq_true c47
                have c47b1 : decide (0 < l0_6.length) = true := decide_eq_true (by omega)
                clear c47
                by_cases c48 : (Go.bits .and .i64 a0_5 2) = 0
                · rw [if_pos c48] at H
                  have c48b0 : ((Go.bits .and .i64 a0_5 2) == 0) = true := beq_iff_eq.mpr c48
                  have c48b1 : ((Go.bits .and .i64 a0_5 2) != 0) = false := bne_eq_false_iff_eq.mpr c48
                  clear c48
                  obtain rfl := Option.some.inj H
                  have hcz49_0 : wc.cell? ⟨gb121, 0, none⟩ = some (.int .i64 a0_0) := (blk_cell BK121.out 0).trans rfl
                  have hcz49_1 : wc.cell? ⟨gb121, 1, none⟩ = some (.int .i64 a0_1) := (blk_cell BK121.out 1).trans rfl
                  have hcz49_2 : wc.cell? ⟨gb121, 2, none⟩ = some (.int .i64 a0_2) := (blk_cell BK121.out 2).trans rfl
                  have hcz49_3 : wc.cell? ⟨gb121, 3, none⟩ = some (.int .i64 a0_3) := (blk_cell BK121.out 3).trans rfl
                  have hcz49_4 : wc.cell? ⟨gb121, 4, none⟩ = some (.int .i64 a0_4) := (blk_cell BK121.out 4).trans rfl
                  have hcz49_5 : wc.cell? ⟨gb121, 5, none⟩ = some (.int .i64 a0_5) := (blk_cell BK121.out 5).trans rfl
                  have hcz49_6 : wc.cell? ⟨gb121, 6, none⟩ = some (.slice A0_6 l0_6.length c0_6) := (blk_cell BK121.out 6).trans rfl
                  have hfz49_0 := blk_frozen BK121.out 0
                  have hfz49_1 := blk_frozen BK121.out 1
                  have hfz49_2 := blk_frozen BK121.out 2
                  have hfz49_3 := blk_frozen BK121.out 3
                  have hfz49_4 := blk_frozen BK121.out 4
                  have hfz49_5 := blk_frozen BK121.out 5
                  have hfz49_6 := blk_frozen BK121.out 6
                  have p132 : 0 ≤ (0 : Int) := (by omega)
                  have q132 : 0 < (l0_6.length : Int) := of_decide_eq_true (by first | (with_reducible assumption) | assumption)
                  obtain ⟨ad132, A132_5, c132_5, e132, hx132_0, hx132_1, hx132_2, hx132_3, hx132_4, hx132_5, hl132_5, hi132_5⟩ := at_T28 HR0_6.out 0 p132 q132
                  cases e132
                  have qi132 : (0 < l0_6.length) = True := eq_true (by omega)
                  (try rw [show ((0 : Int)).toNat = 0 from rfl] at hx132_0)
                  (try rw [show 0 * 6 = 0 from rfl] at hx132_0)
                  (try rw [Addr.add_zero'] at hx132_0)
                  (try rw [show ((0 : Int)).toNat = 0 from rfl] at hx132_1)
                  (try rw [show 0 * 6 = 0 from rfl] at hx132_1)
                  (try rw [Addr.add_zero'] at hx132_1)
                  (try rw [show ((0 : Int)).toNat = 0 from rfl] at hx132_2)
                  (try rw [show 0 * 6 = 0 from rfl] at hx132_2)
                  (try rw [Addr.add_zero'] at hx132_2)
                  (try rw [show ((0 : Int)).toNat = 0 from rfl] at hx132_3)
                  (try rw [show 0 * 6 = 0 from rfl] at hx132_3)
                  (try rw [Addr.add_zero'] at hx132_3)
                  (try rw [show ((0 : Int)).toNat = 0 from rfl] at hx132_4)
                  (try rw [show 0 * 6 = 0 from rfl] at hx132_4)
                  (try rw [Addr.add_zero'] at hx132_4)
                  (try rw [show ((0 : Int)).toNat = 0 from rfl] at hx132_5)
                  (try rw [show 0 * 6 = 0 from rfl] at hx132_5)
                  (try rw [Addr.add_zero'] at hx132_5)
                  replace hx132_0 := (HB.out.cell (World.block_lt_of_cell? w _ hx132_0)).trans hx132_0
                  replace hx132_1 := (HB.out.cell (World.block_lt_of_cell? w _ hx132_1)).trans hx132_1
                  replace hx132_2 := (HB.out.cell (World.block_lt_of_cell? w _ hx132_2)).trans hx132_2
                  replace hx132_3 := (HB.out.cell (World.block_lt_of_cell? w _ hx132_3)).trans hx132_3
                  replace hx132_4 := (HB.out.cell (World.block_lt_of_cell? w _ hx132_4)).trans hx132_4
                  replace hx132_5 := (HB.out.cell (World.block_lt_of_cell? w _ hx132_5)).trans hx132_5
                  have HR132_5 := Aside0.mk hi132_5
                  have HC132_5 := Aside0.mk hl132_5
                  clear hi132_5 hl132_5
                  replace p132 := eq_true p132
                  replace q132 := eq_true q132
                  go_wp2_with (first | ((with_reducible refine gate_dst (N := 4) rfl ?_); (try (refine gate_guard (by rfl) ?_; dsimp only)); refine box_event ?hg (N := 4) ?hd (cs := #[.int .i64 0, .bool false, .string (⟨#[]⟩ : ByteArray), .bool false, .string (⟨#[]⟩ : ByteArray), .slice none 0 0]) (t := 28) ?hr ?_; (case hd => rfl); (case hg => rfl); (case hr => first | (go_simp; done) | (go_simp; rfl)); intro gb133 hg w50 hbox hb; have n0_ := Aside0.mk (blk_below (g := gb121) (o := .cells #[.int .i64 a0_0, .int .i64 a0_1, .int .i64 a0_2, .int .i64 a0_3, .int .i64 a0_4, .int .i64 a0_5, .slice (some ad132) l0_6.length c0_6] 30 (0, 0)) (by (with_reducible repeat (first | refine blk_drewN ?_ _ | refine blk_drew ?_ | refine blk_alloc ?_ _)); exact BK121.out) hb); have n1_ := Aside0.mk (below_step (by repeat (first | (with_reducible first | exact HB.out | apply below_alloc | apply pw_below_drewN | apply below_drew1 | refine below_set ?_ GE121.out) | exact HB.out)) hb); have n2_ := Aside0.mk (hbox); have n3_ := Aside0.mk ((by rw [hg]; exact (below_size (by repeat (first | (with_reducible first | exact HB.out | apply below_alloc | apply pw_below_drewN | apply below_drew1 | refine below_set ?_ GE121.out) | exact HB.out))) : w.heap.size ≤ gb133)); have n4_ := Aside0.mk ((by rw [hg]; exact (below_size (by repeat (first | (with_reducible first | exact HB.out | apply below_alloc | apply pw_below_drewN | apply below_drew1 | refine below_set ?_ GE121.out) | exact HB.out))) : w.heap.size ≤ gb133)); have n5_ := Aside0.mk ((by rw [hg]; exact Nat.ne_of_lt (blk_lt (g := gb121) (o := .cells #[.int .i64 a0_0, .int .i64 a0_1, .int .i64 a0_2, .int .i64 a0_3, .int .i64 a0_4, .int .i64 a0_5, .slice (some ad132) l0_6.length c0_6] 30 (0, 0)) (by (with_reducible repeat (first | refine blk_drewN ?_ _ | refine blk_drew ?_ | refine blk_alloc ?_ _)); exact BK121.out)) : gb121 ≠ gb133)); have n6_ := Aside0.mk ((by rw [hg]; exact Nat.ne_of_gt (blk_lt (g := gb121) (o := .cells #[.int .i64 a0_0, .int .i64 a0_1, .int .i64 a0_2, .int .i64 a0_3, .int .i64 a0_4, .int .i64 a0_5, .slice (some ad132) l0_6.length c0_6] 30 (0, 0)) (by (with_reducible repeat (first | refine blk_drewN ?_ _ | refine blk_drew ?_ | refine blk_alloc ?_ _)); exact BK121.out)) : gb133 ≠ gb121)); clear BK121; clear HB; have BK121 := n0_; have HB := n1_; have BK133 := n2_; have GW133 := n3_; have GE133 := n4_; have NB121_133 := n5_; have NB133_121 := n6_; clear n0_ n1_ n2_ n3_ n4_ n5_ n6_; clear hb hbox hg; have hnb51 := NB133_121.out; have hnc51 := NB121_133.out; have hcz52_0 : w50.cell? ⟨gb133, 0, none⟩ = some (.int .i64 0) := (blk_cell BK133.out 0).trans rfl; have hcz52_1 : w50.cell? ⟨gb133, 1, none⟩ = some (.bool false) := (blk_cell BK133.out 1).trans rfl; have hcz52_2 : w50.cell? ⟨gb133, 2, none⟩ = some (.string (⟨#[]⟩ : ByteArray)) := (blk_cell BK133.out 2).trans rfl; have hcz52_3 : w50.cell? ⟨gb133, 3, none⟩ = some (.bool false) := (blk_cell BK133.out 3).trans rfl; have hcz52_4 : w50.cell? ⟨gb133, 4, none⟩ = some (.string (⟨#[]⟩ : ByteArray)) := (blk_cell BK133.out 4).trans rfl; have hcz52_5 : w50.cell? ⟨gb133, 5, none⟩ = some (.slice none 0 0) := (blk_cell BK133.out 5).trans rfl; have hfz52_0 := blk_frozen BK133.out 0; have hfz52_1 := blk_frozen BK133.out 1; have hfz52_2 := blk_frozen BK133.out 2; have hfz52_3 := blk_frozen BK133.out 3; have hfz52_4 := blk_frozen BK133.out 4; have hfz52_5 := blk_frozen BK133.out 5; have hcz53_0 : w50.cell? ⟨gb121, 0, none⟩ = some (.int .i64 a0_0) := (blk_cell BK121.out 0).trans rfl; have hcz53_1 : w50.cell? ⟨gb121, 1, none⟩ = some (.int .i64 a0_1) := (blk_cell BK121.out 1).trans rfl; have hcz53_2 : w50.cell? ⟨gb121, 2, none⟩ = some (.int .i64 a0_2) := (blk_cell BK121.out 2).trans rfl; have hcz53_3 : w50.cell? ⟨gb121, 3, none⟩ = some (.int .i64 a0_3) := (blk_cell BK121.out 3).trans rfl; have hcz53_4 : w50.cell? ⟨gb121, 4, none⟩ = some (.int .i64 a0_4) := (blk_cell BK121.out 4).trans rfl; have hcz53_5 : w50.cell? ⟨gb121, 5, none⟩ = some (.int .i64 a0_5) := (blk_cell BK121.out 5).trans rfl; have hcz53_6 : w50.cell? ⟨gb121, 6, none⟩ = some (.slice (some ad132) l0_6.length c0_6) := (blk_cell BK121.out 6).trans rfl; have hfz53_0 := blk_frozen BK121.out 0; have hfz53_1 := blk_frozen BK121.out 1; have hfz53_2 := blk_frozen BK121.out 2; have hfz53_3 := blk_frozen BK121.out 3; have hfz53_4 := blk_frozen BK121.out 4; have hfz53_5 := blk_frozen BK121.out 5; have hfz53_6 := blk_frozen BK121.out 6))
                  go_ret
                  exact ⟨by first | rfl | (simp [errW_none, errW_some] <;> rfl) | (simp [*, errW_none, errW_some] <;> rfl), by repeat (first | (with_reducible first | exact HB.out | apply below_alloc | apply pw_below_drewN | apply below_drew1 | refine below_set ?_ GE121.out | refine below_set ?_ GE133.out) | exact HB.out)⟩
                · rw [if_neg c48] at H
                  have c48b0 : ((Go.bits .and .i64 a0_5 2) == 0) = false := beq_eq_false_iff_ne.mpr c48
                  have c48b1 : ((Go.bits .and .i64 a0_5 2) != 0) = true := bne_iff_ne.mpr c48
                  by_cases c54 : (l0_6.length : Int) = 1
                  · rw [if_pos c54] at H
                    have c54b0 : ((l0_6.length : Int) == 1) = true := beq_iff_eq.mpr c54
                    have c54b1 : ((l0_6.length : Int) != 1) = false := bne_eq_false_iff_eq.mpr c54
                    clear c54
                    obtain ⟨bq55, hbq55⟩ : ∃ b_ : Bool, b_ = ((rd_T28 l0_6 0).f1) := ⟨_, rfl⟩
                    replace H : (if bq55 = true then (if ((rd_T28 l0_6 0).f2).toList = ([99, 111, 109, 109, 105, 116] : List UInt8) then (if ((rd_T28 l0_6 0).f3 = true) then (some false) else (if ((rd_T28 l0_6 0).f4).toList = ([] : List UInt8) then (some ((((rd_T28 l0_6 0).f5).length : Int) == 0)) else (some false))) else (if ((rd_T28 l0_6 0).f2).toList = ([97, 98, 111, 114, 116] : List UInt8) then (if ((rd_T28 l0_6 0).f3 = true) then (some false) else (if ((rd_T28 l0_6 0).f4).toList = ([] : List UInt8) then (some ((((rd_T28 l0_6 0).f5).length : Int) == 0)) else (some false))) else (some false))) else (some false)) = some r := by rw [← hbq55] at H; exact H
                    have Nbq55 := Aside0.mk hbq55
                    clear hbq55
                    (try rw [← Nbq55.out])
                    by_cases c56 : bq55 = true
                    · subst c56
                      have H1 : (if ((rd_T28 l0_6 0).f2).toList = ([99, 111, 109, 109, 105, 116] : List UInt8) then (if ((rd_T28 l0_6 0).f3 = true) then (some false) else (if ((rd_T28 l0_6 0).f4).toList = ([] : List UInt8) then (some ((((rd_T28 l0_6 0).f5).length : Int) == 0)) else (some false))) else (if ((rd_T28 l0_6 0).f2).toList = ([97, 98, 111, 114, 116] : List UInt8) then (if ((rd_T28 l0_6 0).f3 = true) then (some false) else (if ((rd_T28 l0_6 0).f4).toList = ([] : List UInt8) then (some ((((rd_T28 l0_6 0).f5).length : Int) == 0)) else (some false))) else (some false))) = some r := by rw [if_pos rfl] at H; exact H
                      clear H
                      have H := H1
                      clear H1
                      by_cases c57 : ((rd_T28 l0_6 0).f2).toList = ([99, 111, 109, 109, 105, 116] : List UInt8)
                      · rw [if_pos c57] at H
                        have c57b0 : (((rd_T28 l0_6 0).f2).toList == ([99, 111, 109, 109, 105, 116] : List UInt8)) = true := beq_iff_eq.mpr c57
                        have c57b1 : (((rd_T28 l0_6 0).f2).toList != ([99, 111, 109, 109, 105, 116] : List UInt8)) = false := bne_eq_false_iff_eq.mpr c57
                        clear c57
                        obtain ⟨bq58, hbq58⟩ : ∃ b_ : Bool, b_ = ((rd_T28 l0_6 0).f3) := ⟨_, rfl⟩
                        replace H : (if (bq58 = true) then (some false) else (if ((rd_T28 l0_6 0).f4).toList = ([] : List UInt8) then (some ((((rd_T28 l0_6 0).f5).length : Int) == 0)) else (some false))) = some r := by rw [← hbq58] at H; exact H
                        have Nbq58 := Aside0.mk hbq58
                        clear hbq58
                        (try rw [← Nbq58.out])
                        by_cases c59 : (bq58 = true)
                        · subst c59
                          have H1 : (some false) = some r := by rw [if_pos rfl] at H; exact H
                          clear H
                          have H := H1
                          clear H1
                          obtain rfl := Option.some.inj H
                          have hcz60_0 : wc.cell? ⟨gb121, 0, none⟩ = some (.int .i64 a0_0) := (blk_cell BK121.out 0).trans rfl
                          have hcz60_1 : wc.cell? ⟨gb121, 1, none⟩ = some (.int .i64 a0_1) := (blk_cell BK121.out 1).trans rfl
                          have hcz60_2 : wc.cell? ⟨gb121, 2, none⟩ = some (.int .i64 a0_2) := (blk_cell BK121.out 2).trans rfl
                          have hcz60_3 : wc.cell? ⟨gb121, 3, none⟩ = some (.int .i64 a0_3) := (blk_cell BK121.out 3).trans rfl
                          have hcz60_4 : wc.cell? ⟨gb121, 4, none⟩ = some (.int .i64 a0_4) := (blk_cell BK121.out 4).trans rfl
                          have hcz60_5 : wc.cell? ⟨gb121, 5, none⟩ = some (.int .i64 a0_5) := (blk_cell BK121.out 5).trans rfl
                          have hcz60_6 : wc.cell? ⟨gb121, 6, none⟩ = some (.slice A0_6 l0_6.length c0_6) := (blk_cell BK121.out 6).trans rfl
                          have hfz60_0 := blk_frozen BK121.out 0
                          have hfz60_1 := blk_frozen BK121.out 1
                          have hfz60_2 := blk_frozen BK121.out 2
                          have hfz60_3 := blk_frozen BK121.out 3
                          have hfz60_4 := blk_frozen BK121.out 4
                          have hfz60_5 := blk_frozen BK121.out 5
                          have hfz60_6 := blk_frozen BK121.out 6
                          have p132 : 0 ≤ (0 : Int) := (by omega)
                          have q132 : 0 < (l0_6.length : Int) := of_decide_eq_true (by first | (with_reducible assumption) | assumption)
                          obtain ⟨ad132, A132_5, c132_5, e132, hx132_0, hx132_1, hx132_2, hx132_3, hx132_4, hx132_5, hl132_5, hi132_5⟩ := at_T28 HR0_6.out 0 p132 q132
                          (try rw [← Nbq55.out] at hx132_1)
                          (try rw [← Nbq58.out] at hx132_1)
                          (try rw [← Nbq55.out] at hx132_3)
                          (try rw [← Nbq58.out] at hx132_3)
                          cases e132
                          have qi132 : (0 < l0_6.length) = True := eq_true (by omega)
                          (try rw [show ((0 : Int)).toNat = 0 from rfl] at hx132_0)
                          (try rw [show 0 * 6 = 0 from rfl] at hx132_0)
                          (try rw [Addr.add_zero'] at hx132_0)
                          (try rw [show ((0 : Int)).toNat = 0 from rfl] at hx132_1)
                          (try rw [show 0 * 6 = 0 from rfl] at hx132_1)
                          (try rw [Addr.add_zero'] at hx132_1)
                          (try rw [show ((0 : Int)).toNat = 0 from rfl] at hx132_2)
                          (try rw [show 0 * 6 = 0 from rfl] at hx132_2)
                          (try rw [Addr.add_zero'] at hx132_2)
                          (try rw [show ((0 : Int)).toNat = 0 from rfl] at hx132_3)
                          (try rw [show 0 * 6 = 0 from rfl] at hx132_3)
                          (try rw [Addr.add_zero'] at hx132_3)
                          (try rw [show ((0 : Int)).toNat = 0 from rfl] at hx132_4)
                          (try rw [show 0 * 6 = 0 from rfl] at hx132_4)
                          (try rw [Addr.add_zero'] at hx132_4)
                          (try rw [show ((0 : Int)).toNat = 0 from rfl] at hx132_5)
                          (try rw [show 0 * 6 = 0 from rfl] at hx132_5)
                          (try rw [Addr.add_zero'] at hx132_5)
                          replace hx132_0 := (HB.out.cell (World.block_lt_of_cell? w _ hx132_0)).trans hx132_0
                          replace hx132_1 := (HB.out.cell (World.block_lt_of_cell? w _ hx132_1)).trans hx132_1
                          replace hx132_2 := (HB.out.cell (World.block_lt_of_cell? w _ hx132_2)).trans hx132_2
                          replace hx132_3 := (HB.out.cell (World.block_lt_of_cell? w _ hx132_3)).trans hx132_3
                          replace hx132_4 := (HB.out.cell (World.block_lt_of_cell? w _ hx132_4)).trans hx132_4
                          replace hx132_5 := (HB.out.cell (World.block_lt_of_cell? w _ hx132_5)).trans hx132_5
                          have HR132_5 := Aside0.mk hi132_5
                          have HC132_5 := Aside0.mk hl132_5
                          clear hi132_5 hl132_5
                          replace p132 := eq_true p132
                          replace q132 := eq_true q132
                          go_wp2_with (first | ((with_reducible refine gate_dst (N := 4) rfl ?_); (try (refine gate_guard (by rfl) ?_; dsimp only)); refine box_event ?hg (N := 4) ?hd (cs := #[.int .i64 0, .bool false, .string (⟨#[]⟩ : ByteArray), .bool false, .string (⟨#[]⟩ : ByteArray), .slice none 0 0]) (t := 28) ?hr ?_; (case hd => rfl); (case hg => rfl); (case hr => first | (go_simp; done) | (go_simp; rfl)); intro gb133 hg w61 hbox hb; have n0_ := Aside0.mk (blk_below (g := gb121) (o := .cells #[.int .i64 a0_0, .int .i64 a0_1, .int .i64 a0_2, .int .i64 a0_3, .int .i64 a0_4, .int .i64 a0_5, .slice (some ad132) l0_6.length c0_6] 30 (0, 0)) (by (with_reducible repeat (first | refine blk_drewN ?_ _ | refine blk_drew ?_ | refine blk_alloc ?_ _)); exact BK121.out) hb); have n1_ := Aside0.mk (below_step (by repeat (first | (with_reducible first | exact HB.out | apply below_alloc | apply pw_below_drewN | apply below_drew1 | refine below_set ?_ GE121.out) | exact HB.out)) hb); have n2_ := Aside0.mk (hbox); have n3_ := Aside0.mk ((by rw [hg]; exact (below_size (by repeat (first | (with_reducible first | exact HB.out | apply below_alloc | apply pw_below_drewN | apply below_drew1 | refine below_set ?_ GE121.out) | exact HB.out))) : w.heap.size ≤ gb133)); have n4_ := Aside0.mk ((by rw [hg]; exact (below_size (by repeat (first | (with_reducible first | exact HB.out | apply below_alloc | apply pw_below_drewN | apply below_drew1 | refine below_set ?_ GE121.out) | exact HB.out))) : w.heap.size ≤ gb133)); have n5_ := Aside0.mk ((by rw [hg]; exact Nat.ne_of_lt (blk_lt (g := gb121) (o := .cells #[.int .i64 a0_0, .int .i64 a0_1, .int .i64 a0_2, .int .i64 a0_3, .int .i64 a0_4, .int .i64 a0_5, .slice (some ad132) l0_6.length c0_6] 30 (0, 0)) (by (with_reducible repeat (first | refine blk_drewN ?_ _ | refine blk_drew ?_ | refine blk_alloc ?_ _)); exact BK121.out)) : gb121 ≠ gb133)); have n6_ := Aside0.mk ((by rw [hg]; exact Nat.ne_of_gt (blk_lt (g := gb121) (o := .cells #[.int .i64 a0_0, .int .i64 a0_1, .int .i64 a0_2, .int .i64 a0_3, .int .i64 a0_4, .int .i64 a0_5, .slice (some ad132) l0_6.length c0_6] 30 (0, 0)) (by (with_reducible repeat (first | refine blk_drewN ?_ _ | refine blk_drew ?_ | refine blk_alloc ?_ _)); exact BK121.out)) : gb133 ≠ gb121)); clear BK121; clear HB; have BK121 := n0_; have HB := n1_; have BK133 := n2_; have GW133 := n3_; have GE133 := n4_; have NB121_133 := n5_; have NB133_121 := n6_; clear n0_ n1_ n2_ n3_ n4_ n5_ n6_; clear hb hbox hg; have hnb62 := NB133_121.out; have hnc62 := NB121_133.out; have hcz63_0 : w61.cell? ⟨gb133, 0, none⟩ = some (.int .i64 0) := (blk_cell BK133.out 0).trans rfl; have hcz63_1 : w61.cell? ⟨gb133, 1, none⟩ = some (.bool false) := (blk_cell BK133.out 1).trans rfl; have hcz63_2 : w61.cell? ⟨gb133, 2, none⟩ = some (.string (⟨#[]⟩ : ByteArray)) := (blk_cell BK133.out 2).trans rfl; have hcz63_3 : w61.cell? ⟨gb133, 3, none⟩ = some (.bool false) := (blk_cell BK133.out 3).trans rfl; have hcz63_4 : w61.cell? ⟨gb133, 4, none⟩ = some (.string (⟨#[]⟩ : ByteArray)) := (blk_cell BK133.out 4).trans rfl; have hcz63_5 : w61.cell? ⟨gb133, 5, none⟩ = some (.slice none 0 0) := (blk_cell BK133.out 5).trans rfl; have hfz63_0 := blk_frozen BK133.out 0; have hfz63_1 := blk_frozen BK133.out 1; have hfz63_2 := blk_frozen BK133.out 2; have hfz63_3 := blk_frozen BK133.out 3; have hfz63_4 := blk_frozen BK133.out 4; have hfz63_5 := blk_frozen BK133.out 5; have hcz64_0 : w61.cell? ⟨gb121, 0, none⟩ = some (.int .i64 a0_0) := (blk_cell BK121.out 0).trans rfl; have hcz64_1 : w61.cell? ⟨gb121, 1, none⟩ = some (.int .i64 a0_1) := (blk_cell BK121.out 1).trans rfl; have hcz64_2 : w61.cell? ⟨gb121, 2, none⟩ = some (.int .i64 a0_2) := (blk_cell BK121.out 2).trans rfl; have hcz64_3 : w61.cell? ⟨gb121, 3, none⟩ = some (.int .i64 a0_3) := (blk_cell BK121.out 3).trans rfl; have hcz64_4 : w61.cell? ⟨gb121, 4, none⟩ = some (.int .i64 a0_4) := (blk_cell BK121.out 4).trans rfl; have hcz64_5 : w61.cell? ⟨gb121, 5, none⟩ = some (.int .i64 a0_5) := (blk_cell BK121.out 5).trans rfl; have hcz64_6 : w61.cell? ⟨gb121, 6, none⟩ = some (.slice (some ad132) l0_6.length c0_6) := (blk_cell BK121.out 6).trans rfl; have hfz64_0 := blk_frozen BK121.out 0; have hfz64_1 := blk_frozen BK121.out 1; have hfz64_2 := blk_frozen BK121.out 2; have hfz64_3 := blk_frozen BK121.out 3; have hfz64_4 := blk_frozen BK121.out 4; have hfz64_5 := blk_frozen BK121.out 5; have hfz64_6 := blk_frozen BK121.out 6))
                          go_ret
                          exact ⟨by first | rfl | (simp [errW_none, errW_some] <;> rfl) | (simp [*, errW_none, errW_some] <;> rfl), by repeat (first | (with_reducible first | exact HB.out | apply below_alloc | apply pw_below_drewN | apply below_drew1 | refine below_set ?_ GE121.out | refine below_set ?_ GE133.out) | exact HB.out)⟩
                        · replace c59 := Bool.eq_false_iff.mpr c59
                          subst c59
                          have H1 : (if ((rd_T28 l0_6 0).f4).toList = ([] : List UInt8) then (some ((((rd_T28 l0_6 0).f5).length : Int) == 0)) else (some false)) = some r := by rw [if_neg (show ¬ (false = true) by decide)] at H; exact H
                          clear H
                          have H := H1
                          clear H1
                          by_cases c65 : ((rd_T28 l0_6 0).f4).toList = ([] : List UInt8)
                          · rw [if_pos c65] at H
                            have c65b0 : (((rd_T28 l0_6 0).f4).toList == ([] : List UInt8)) = true := beq_iff_eq.mpr c65
                            have c65b1 : (((rd_T28 l0_6 0).f4).toList != ([] : List UInt8)) = false := bne_eq_false_iff_eq.mpr c65
                            clear c65
                            obtain rfl := Option.some.inj H
                            have hcz66_0 : wc.cell? ⟨gb121, 0, none⟩ = some (.int .i64 a0_0) := (blk_cell BK121.out 0).trans rfl
                            have hcz66_1 : wc.cell? ⟨gb121, 1, none⟩ = some (.int .i64 a0_1) := (blk_cell BK121.out 1).trans rfl
                            have hcz66_2 : wc.cell? ⟨gb121, 2, none⟩ = some (.int .i64 a0_2) := (blk_cell BK121.out 2).trans rfl
                            have hcz66_3 : wc.cell? ⟨gb121, 3, none⟩ = some (.int .i64 a0_3) := (blk_cell BK121.out 3).trans rfl
                            have hcz66_4 : wc.cell? ⟨gb121, 4, none⟩ = some (.int .i64 a0_4) := (blk_cell BK121.out 4).trans rfl
                            have hcz66_5 : wc.cell? ⟨gb121, 5, none⟩ = some (.int .i64 a0_5) := (blk_cell BK121.out 5).trans rfl
                            have hcz66_6 : wc.cell? ⟨gb121, 6, none⟩ = some (.slice A0_6 l0_6.length c0_6) := (blk_cell BK121.out 6).trans rfl
                            have hfz66_0 := blk_frozen BK121.out 0
                            have hfz66_1 := blk_frozen BK121.out 1
                            have hfz66_2 := blk_frozen BK121.out 2
                            have hfz66_3 := blk_frozen BK121.out 3
                            have hfz66_4 := blk_frozen BK121.out 4
                            have hfz66_5 := blk_frozen BK121.out 5
                            have hfz66_6 := blk_frozen BK121.out 6
                            have p132 : 0 ≤ (0 : Int) := (by omega)
                            have q132 : 0 < (l0_6.length : Int) := of_decide_eq_true (by first | (with_reducible assumption) | assumption)
                            obtain ⟨ad132, A132_5, c132_5, e132, hx132_0, hx132_1, hx132_2, hx132_3, hx132_4, hx132_5, hl132_5, hi132_5⟩ := at_T28 HR0_6.out 0 p132 q132
                            (try rw [← Nbq55.out] at hx132_1)
                            (try rw [← Nbq58.out] at hx132_1)
                            (try rw [← Nbq55.out] at hx132_3)
                            (try rw [← Nbq58.out] at hx132_3)
                            cases e132
                            have qi132 : (0 < l0_6.length) = True := eq_true (by omega)
                            (try rw [show ((0 : Int)).toNat = 0 from rfl] at hx132_0)
                            (try rw [show 0 * 6 = 0 from rfl] at hx132_0)
                            (try rw [Addr.add_zero'] at hx132_0)
                            (try rw [show ((0 : Int)).toNat = 0 from rfl] at hx132_1)
                            (try rw [show 0 * 6 = 0 from rfl] at hx132_1)
                            (try rw [Addr.add_zero'] at hx132_1)
                            (try rw [show ((0 : Int)).toNat = 0 from rfl] at hx132_2)
                            (try rw [show 0 * 6 = 0 from rfl] at hx132_2)
                            (try rw [Addr.add_zero'] at hx132_2)
                            (try rw [show ((0 : Int)).toNat = 0 from rfl] at hx132_3)
                            (try rw [show 0 * 6 = 0 from rfl] at hx132_3)
                            (try rw [Addr.add_zero'] at hx132_3)
                            (try rw [show ((0 : Int)).toNat = 0 from rfl] at hx132_4)
                            (try rw [show 0 * 6 = 0 from rfl] at hx132_4)
                            (try rw [Addr.add_zero'] at hx132_4)
                            (try rw [show ((0 : Int)).toNat = 0 from rfl] at hx132_5)
                            (try rw [show 0 * 6 = 0 from rfl] at hx132_5)
                            (try rw [Addr.add_zero'] at hx132_5)
                            replace hx132_0 := (HB.out.cell (World.block_lt_of_cell? w _ hx132_0)).trans hx132_0
                            replace hx132_1 := (HB.out.cell (World.block_lt_of_cell? w _ hx132_1)).trans hx132_1
                            replace hx132_2 := (HB.out.cell (World.block_lt_of_cell? w _ hx132_2)).trans hx132_2
                            replace hx132_3 := (HB.out.cell (World.block_lt_of_cell? w _ hx132_3)).trans hx132_3
                            replace hx132_4 := (HB.out.cell (World.block_lt_of_cell? w _ hx132_4)).trans hx132_4
                            replace hx132_5 := (HB.out.cell (World.block_lt_of_cell? w _ hx132_5)).trans hx132_5
                            have HR132_5 := Aside0.mk hi132_5
                            have HC132_5 := Aside0.mk hl132_5
                            clear hi132_5 hl132_5
                            replace p132 := eq_true p132
                            replace q132 := eq_true q132
                            go_wp2_with (first | ((with_reducible refine gate_dst (N := 4) rfl ?_); (try (refine gate_guard (by rfl) ?_; dsimp only)); refine box_event ?hg (N := 4) ?hd (cs := #[.int .i64 0, .bool false, .string (⟨#[]⟩ : ByteArray), .bool false, .string (⟨#[]⟩ : ByteArray), .slice none 0 0]) (t := 28) ?hr ?_; (case hd => rfl); (case hg => rfl); (case hr => first | (go_simp; done) | (go_simp; rfl)); intro gb133 hg w67 hbox hb; have n0_ := Aside0.mk (blk_below (g := gb121) (o := .cells #[.int .i64 a0_0, .int .i64 a0_1, .int .i64 a0_2, .int .i64 a0_3, .int .i64 a0_4, .int .i64 a0_5, .slice (some ad132) l0_6.length c0_6] 30 (0, 0)) (by (with_reducible repeat (first | refine blk_drewN ?_ _ | refine blk_drew ?_ | refine blk_alloc ?_ _)); exact BK121.out) hb); have n1_ := Aside0.mk (below_step (by repeat (first | (with_reducible first | exact HB.out | apply below_alloc | apply pw_below_drewN | apply below_drew1 | refine below_set ?_ GE121.out) | exact HB.out)) hb); have n2_ := Aside0.mk (hbox); have n3_ := Aside0.mk ((by rw [hg]; exact (below_size (by repeat (first | (with_reducible first | exact HB.out | apply below_alloc | apply pw_below_drewN | apply below_drew1 | refine below_set ?_ GE121.out) | exact HB.out))) : w.heap.size ≤ gb133)); have n4_ := Aside0.mk ((by rw [hg]; exact (below_size (by repeat (first | (with_reducible first | exact HB.out | apply below_alloc | apply pw_below_drewN | apply below_drew1 | refine below_set ?_ GE121.out) | exact HB.out))) : w.heap.size ≤ gb133)); have n5_ := Aside0.mk ((by rw [hg]; exact Nat.ne_of_lt (blk_lt (g := gb121) (o := .cells #[.int .i64 a0_0, .int .i64 a0_1, .int .i64 a0_2, .int .i64 a0_3, .int .i64 a0_4, .int .i64 a0_5, .slice (some ad132) l0_6.length c0_6] 30 (0, 0)) (by (with_reducible repeat (first | refine blk_drewN ?_ _ | refine blk_drew ?_ | refine blk_alloc ?_ _)); exact BK121.out)) : gb121 ≠ gb133)); have n6_ := Aside0.mk ((by rw [hg]; exact Nat.ne_of_gt (blk_lt (g := gb121) (o := .cells #[.int .i64 a0_0, .int .i64 a0_1, .int .i64 a0_2, .int .i64 a0_3, .int .i64 a0_4, .int .i64 a0_5, .slice (some ad132) l0_6.length c0_6] 30 (0, 0)) (by (with_reducible repeat (first | refine blk_drewN ?_ _ | refine blk_drew ?_ | refine blk_alloc ?_ _)); exact BK121.out)) : gb133 ≠ gb121)); clear BK121; clear HB; have BK121 := n0_; have HB := n1_; have BK133 := n2_; have GW133 := n3_; have GE133 := n4_; have NB121_133 := n5_; have NB133_121 := n6_; clear n0_ n1_ n2_ n3_ n4_ n5_ n6_; clear hb hbox hg; have hnb68 := NB133_121.out; have hnc68 := NB121_133.out; have hcz69_0 : w67.cell? ⟨gb133, 0, none⟩ = some (.int .i64 0) := (blk_cell BK133.out 0).trans rfl; have hcz69_1 : w67.cell? ⟨gb133, 1, none⟩ = some (.bool false) := (blk_cell BK133.out 1).trans rfl; have hcz69_2 : w67.cell? ⟨gb133, 2, none⟩ = some (.string (⟨#[]⟩ : ByteArray)) := (blk_cell BK133.out 2).trans rfl; have hcz69_3 : w67.cell? ⟨gb133, 3, none⟩ = some (.bool false) := (blk_cell BK133.out 3).trans rfl; have hcz69_4 : w67.cell? ⟨gb133, 4, none⟩ = some (.string (⟨#[]⟩ : ByteArray)) := (blk_cell BK133.out 4).trans rfl; have hcz69_5 : w67.cell? ⟨gb133, 5, none⟩ = some (.slice none 0 0) := (blk_cell BK133.out 5).trans rfl; have hfz69_0 := blk_frozen BK133.out 0; have hfz69_1 := blk_frozen BK133.out 1; have hfz69_2 := blk_frozen BK133.out 2; have hfz69_3 := blk_frozen BK133.out 3; have hfz69_4 := blk_frozen BK133.out 4; have hfz69_5 := blk_frozen BK133.out 5; have hcz70_0 : w67.cell? ⟨gb121, 0, none⟩ = some (.int .i64 a0_0) := (blk_cell BK121.out 0).trans rfl; have hcz70_1 : w67.cell? ⟨gb121, 1, none⟩ = some (.int .i64 a0_1) := (blk_cell BK121.out 1).trans rfl; have hcz70_2 : w67.cell? ⟨gb121, 2, none⟩ = some (.int .i64 a0_2) := (blk_cell BK121.out 2).trans rfl; have hcz70_3 : w67.cell? ⟨gb121, 3, none⟩ = some (.int .i64 a0_3) := (blk_cell BK121.out 3).trans rfl; have hcz70_4 : w67.cell? ⟨gb121, 4, none⟩ = some (.int .i64 a0_4) := (blk_cell BK121.out 4).trans rfl; have hcz70_5 : w67.cell? ⟨gb121, 5, none⟩ = some (.int .i64 a0_5) := (blk_cell BK121.out 5).trans rfl; have hcz70_6 : w67.cell? ⟨gb121, 6, none⟩ = some (.slice (some ad132) l0_6.length c0_6) := (blk_cell BK121.out 6).trans rfl; have hfz70_0 := blk_frozen BK121.out 0; have hfz70_1 := blk_frozen BK121.out 1; have hfz70_2 := blk_frozen BK121.out 2; have hfz70_3 := blk_frozen BK121.out 3; have hfz70_4 := blk_frozen BK121.out 4; have hfz70_5 := blk_frozen BK121.out 5; have hfz70_6 := blk_frozen BK121.out 6))
                            go_ret
                            exact ⟨by first | rfl | (simp [errW_none, errW_some] <;> rfl) | (simp [*, errW_none, errW_some] <;> rfl), by repeat (first | (with_reducible first | exact HB.out | apply below_alloc | apply pw_below_drewN | apply below_drew1 | refine below_set ?_ GE121.out | refine below_set ?_ GE133.out) | exact HB.out)⟩
                          · rw [if_neg c65] at H
                            have c65b0 : (((rd_T28 l0_6 0).f4).toList == ([] : List UInt8)) = false := beq_eq_false_iff_ne.mpr c65
                            have c65b1 : (((rd_T28 l0_6 0).f4).toList != ([] : List UInt8)) = true := bne_iff_ne.mpr c65
                            obtain rfl := Option.some.inj H
                            have hcz71_0 : wc.cell? ⟨gb121, 0, none⟩ = some (.int .i64 a0_0) := (blk_cell BK121.out 0).trans rfl
                            have hcz71_1 : wc.cell? ⟨gb121, 1, none⟩ = some (.int .i64 a0_1) := (blk_cell BK121.out 1).trans rfl
                            have hcz71_2 : wc.cell? ⟨gb121, 2, none⟩ = some (.int .i64 a0_2) := (blk_cell BK121.out 2).trans rfl
                            have hcz71_3 : wc.cell? ⟨gb121, 3, none⟩ = some (.int .i64 a0_3) := (blk_cell BK121.out 3).trans rfl
                            have hcz71_4 : wc.cell? ⟨gb121, 4, none⟩ = some (.int .i64 a0_4) := (blk_cell BK121.out 4).trans rfl
                            have hcz71_5 : wc.cell? ⟨gb121, 5, none⟩ = some (.int .i64 a0_5) := (blk_cell BK121.out 5).trans rfl
                            have hcz71_6 : wc.cell? ⟨gb121, 6, none⟩ = some (.slice A0_6 l0_6.length c0_6) := (blk_cell BK121.out 6).trans rfl
                            have hfz71_0 := blk_frozen BK121.out 0
                            have hfz71_1 := blk_frozen BK121.out 1
                            have hfz71_2 := blk_frozen BK121.out 2
                            have hfz71_3 := blk_frozen BK121.out 3
                            have hfz71_4 := blk_frozen BK121.out 4
                            have hfz71_5 := blk_frozen BK121.out 5
                            have hfz71_6 := blk_frozen BK121.out 6
                            have p132 : 0 ≤ (0 : Int) := (by omega)
                            have q132 : 0 < (l0_6.length : Int) := of_decide_eq_true (by first | (with_reducible assumption) | assumption)
                            obtain ⟨ad132, A132_5, c132_5, e132, hx132_0, hx132_1, hx132_2, hx132_3, hx132_4, hx132_5, hl132_5, hi132_5⟩ := at_T28 HR0_6.out 0 p132 q132
                            (try rw [← Nbq55.out] at hx132_1)
                            (try rw [← Nbq58.out] at hx132_1)
                            (try rw [← Nbq55.out] at hx132_3)
                            (try rw [← Nbq58.out] at hx132_3)
                            cases e132
                            have qi132 : (0 < l0_6.length) = True := eq_true (by omega)
                            (try rw [show ((0 : Int)).toNat = 0 from rfl] at hx132_0)
                            (try rw [show 0 * 6 = 0 from rfl] at hx132_0)
                            (try rw [Addr.add_zero'] at hx132_0)
                            (try rw [show ((0 : Int)).toNat = 0 from rfl] at hx132_1)
                            (try rw [show 0 * 6 = 0 from rfl] at hx132_1)
                            (try rw [Addr.add_zero'] at hx132_1)
                            (try rw [show ((0 : Int)).toNat = 0 from rfl] at hx132_2)
                            (try rw [show 0 * 6 = 0 from rfl] at hx132_2)
                            (try rw [Addr.add_zero'] at hx132_2)
                            (try rw [show ((0 : Int)).toNat = 0 from rfl] at hx132_3)
                            (try rw [show 0 * 6 = 0 from rfl] at hx132_3)
                            (try rw [Addr.add_zero'] at hx132_3)
                            (try rw [show ((0 : Int)).toNat = 0 from rfl] at hx132_4)
                            (try rw [show 0 * 6 = 0 from rfl] at hx132_4)
                            (try rw [Addr.add_zero'] at hx132_4)
                            (try rw [show ((0 : Int)).toNat = 0 from rfl] at hx132_5)
                            (try rw [show 0 * 6 = 0 from rfl] at hx132_5)
                            (try rw [Addr.add_zero'] at hx132_5)
                            replace hx132_0 := (HB.out.cell (World.block_lt_of_cell? w _ hx132_0)).trans hx132_0
                            replace hx132_1 := (HB.out.cell (World.block_lt_of_cell? w _ hx132_1)).trans hx132_1
                            replace hx132_2 := (HB.out.cell (World.block_lt_of_cell? w _ hx132_2)).trans hx132_2
                            replace hx132_3 := (HB.out.cell (World.block_lt_of_cell? w _ hx132_3)).trans hx132_3
                            replace hx132_4 := (HB.out.cell (World.block_lt_of_cell? w _ hx132_4)).trans hx132_4
                            replace hx132_5 := (HB.out.cell (World.block_lt_of_cell? w _ hx132_5)).trans hx132_5
                            have HR132_5 := Aside0.mk hi132_5
                            have HC132_5 := Aside0.mk hl132_5
                            clear hi132_5 hl132_5
                            replace p132 := eq_true p132
                            replace q132 := eq_true q132
                            go_wp2_with (first | ((with_reducible refine gate_dst (N := 4) rfl ?_); (try (refine gate_guard (by rfl) ?_; dsimp only)); refine box_event ?hg (N := 4) ?hd (cs := #[.int .i64 0, .bool false, .string (⟨#[]⟩ : ByteArray), .bool false, .string (⟨#[]⟩ : ByteArray), .slice none 0 0]) (t := 28) ?hr ?_; (case hd => rfl); (case hg => rfl); (case hr => first | (go_simp; done) | (go_simp; rfl)); intro gb133 hg w72 hbox hb; have n0_ := Aside0.mk (blk_below (g := gb121) (o := .cells #[.int .i64 a0_0, .int .i64 a0_1, .int .i64 a0_2, .int .i64 a0_3, .int .i64 a0_4, .int .i64 a0_5, .slice (some ad132) l0_6.length c0_6] 30 (0, 0)) (by (with_reducible repeat (first | refine blk_drewN ?_ _ | refine blk_drew ?_ | refine blk_alloc ?_ _)); exact BK121.out) hb); have n1_ := Aside0.mk (below_step (by repeat (first | (with_reducible first | exact HB.out | apply below_alloc | apply pw_below_drewN | apply below_drew1 | refine below_set ?_ GE121.out) | exact HB.out)) hb); have n2_ := Aside0.mk (hbox); have n3_ := Aside0.mk ((by rw [hg]; exact (below_size (by repeat (first | (with_reducible first | exact HB.out | apply below_alloc | apply pw_below_drewN | apply below_drew1 | refine below_set ?_ GE121.out) | exact HB.out))) : w.heap.size ≤ gb133)); have n4_ := Aside0.mk ((by rw [hg]; exact (below_size (by repeat (first | (with_reducible first | exact HB.out | apply below_alloc | apply pw_below_drewN | apply below_drew1 | refine below_set ?_ GE121.out) | exact HB.out))) : w.heap.size ≤ gb133)); have n5_ := Aside0.mk ((by rw [hg]; exact Nat.ne_of_lt (blk_lt (g := gb121) (o := .cells #[.int .i64 a0_0, .int .i64 a0_1, .int .i64 a0_2, .int .i64 a0_3, .int .i64 a0_4, .int .i64 a0_5, .slice (some ad132) l0_6.length c0_6] 30 (0, 0)) (by (with_reducible repeat (first | refine blk_drewN ?_ _ | refine blk_drew ?_ | refine blk_alloc ?_ _)); exact BK121.out)) : gb121 ≠ gb133)); have n6_ := Aside0.mk ((by rw [hg]; exact Nat.ne_of_gt (blk_lt (g := gb121) (o := .cells #[.int .i64 a0_0, .int .i64 a0_1, .int .i64 a0_2, .int .i64 a0_3, .int .i64 a0_4, .int .i64 a0_5, .slice (some ad132) l0_6.length c0_6] 30 (0, 0)) (by (with_reducible repeat (first | refine blk_drewN ?_ _ | refine blk_drew ?_ | refine blk_alloc ?_ _)); exact BK121.out)) : gb133 ≠ gb121)); clear BK121; clear HB; have BK121 := n0_; have HB := n1_; have BK133 := n2_; have GW133 := n3_; have GE133 := n4_; have NB121_133 := n5_; have NB133_121 := n6_; clear n0_ n1_ n2_ n3_ n4_ n5_ n6_; clear hb hbox hg; have hnb73 := NB133_121.out; have hnc73 := NB121_133.out; have hcz74_0 : w72.cell? ⟨gb133, 0, none⟩ = some (.int .i64 0) := (blk_cell BK133.out 0).trans rfl; have hcz74_1 : w72.cell? ⟨gb133, 1, none⟩ = some (.bool false) := (blk_cell BK133.out 1).trans rfl; have hcz74_2 : w72.cell? ⟨gb133, 2, none⟩ = some (.string (⟨#[]⟩ : ByteArray)) := (blk_cell BK133.out 2).trans rfl; have hcz74_3 : w72.cell? ⟨gb133, 3, none⟩ = some (.bool false) := (blk_cell BK133.out 3).trans rfl; have hcz74_4 : w72.cell? ⟨gb133, 4, none⟩ = some (.string (⟨#[]⟩ : ByteArray)) := (blk_cell BK133.out 4).trans rfl; have hcz74_5 : w72.cell? ⟨gb133, 5, none⟩ = some (.slice none 0 0) := (blk_cell BK133.out 5).trans rfl; have hfz74_0 := blk_frozen BK133.out 0; have hfz74_1 := blk_frozen BK133.out 1; have hfz74_2 := blk_frozen BK133.out 2; have hfz74_3 := blk_frozen BK133.out 3; have hfz74_4 := blk_frozen BK133.out 4; have hfz74_5 := blk_frozen BK133.out 5; have hcz75_0 : w72.cell? ⟨gb121, 0, none⟩ = some (.int .i64 a0_0) := (blk_cell BK121.out 0).trans rfl; have hcz75_1 : w72.cell? ⟨gb121, 1, none⟩ = some (.int .i64 a0_1) := (blk_cell BK121.out 1).trans rfl; have hcz75_2 : w72.cell? ⟨gb121, 2, none⟩ = some (.int .i64 a0_2) := (blk_cell BK121.out 2).trans rfl; have hcz75_3 : w72.cell? ⟨gb121, 3, none⟩ = some (.int .i64 a0_3) := (blk_cell BK121.out 3).trans rfl; have hcz75_4 : w72.cell? ⟨gb121, 4, none⟩ = some (.int .i64 a0_4) := (blk_cell BK121.out 4).trans rfl; have hcz75_5 : w72.cell? ⟨gb121, 5, none⟩ = some (.int .i64 a0_5) := (blk_cell BK121.out 5).trans rfl; have hcz75_6 : w72.cell? ⟨gb121, 6, none⟩ = some (.slice (some ad132) l0_6.length c0_6) := (blk_cell BK121.out 6).trans rfl; have hfz75_0 := blk_frozen BK121.out 0; have hfz75_1 := blk_frozen BK121.out 1; have hfz75_2 := blk_frozen BK121.out 2; have hfz75_3 := blk_frozen BK121.out 3; have hfz75_4 := blk_frozen BK121.out 4; have hfz75_5 := blk_frozen BK121.out 5; have hfz75_6 := blk_frozen BK121.out 6))
                            go_ret
                            exact ⟨by first | rfl | (simp [errW_none, errW_some] <;> rfl) | (simp [*, errW_none, errW_some] <;> rfl), by repeat (first | (with_reducible first | exact HB.out | apply below_alloc | apply pw_below_drewN | apply below_drew1 | refine below_set ?_ GE121.out | refine below_set ?_ GE133.out) | exact HB.out)⟩
                      · rw [if_neg c57] at H
                        have c57b0 : (((rd_T28 l0_6 0).f2).toList == ([99, 111, 109, 109, 105, 116] : List UInt8)) = false := beq_eq_false_iff_ne.mpr c57
                        have c57b1 : (((rd_T28 l0_6 0).f2).toList != ([99, 111, 109, 109, 105, 116] : List UInt8)) = true := bne_iff_ne.mpr c57
                        by_cases c76 : ((rd_T28 l0_6 0).f2).toList = ([97, 98, 111, 114, 116] : List UInt8)
                        · rw [if_pos c76] at H
                          have c76b0 : (((rd_T28 l0_6 0).f2).toList == ([97, 98, 111, 114, 116] : List UInt8)) = true := beq_iff_eq.mpr c76
                          have c76b1 : (((rd_T28 l0_6 0).f2).toList != ([97, 98, 111, 114, 116] : List UInt8)) = false := bne_eq_false_iff_eq.mpr c76
                          clear c76
                          obtain ⟨bq77, hbq77⟩ : ∃ b_ : Bool, b_ = ((rd_T28 l0_6 0).f3) := ⟨_, rfl⟩
                          replace H : (if (bq77 = true) then (some false) else (if ((rd_T28 l0_6 0).f4).toList = ([] : List UInt8) then (some ((((rd_T28 l0_6 0).f5).length : Int) == 0)) else (some false))) = some r := by rw [← hbq77] at H; exact H
                          have Nbq77 := Aside0.mk hbq77
                          clear hbq77
                          (try rw [← Nbq77.out])
                          by_cases c78 : (bq77 = true)
                          · subst c78
                            have H1 : (some false) = some r := by rw [if_pos rfl] at H; exact H
                            clear H
                            have H := H1
                            clear H1
                            obtain rfl := Option.some.inj H
                            have hcz79_0 : wc.cell? ⟨gb121, 0, none⟩ = some (.int .i64 a0_0) := (blk_cell BK121.out 0).trans rfl
                            have hcz79_1 : wc.cell? ⟨gb121, 1, none⟩ = some (.int .i64 a0_1) := (blk_cell BK121.out 1).trans rfl
                            have hcz79_2 : wc.cell? ⟨gb121, 2, none⟩ = some (.int .i64 a0_2) := (blk_cell BK121.out 2).trans rfl
                            have hcz79_3 : wc.cell? ⟨gb121, 3, none⟩ = some (.int .i64 a0_3) := (blk_cell BK121.out 3).trans rfl
                            have hcz79_4 : wc.cell? ⟨gb121, 4, none⟩ = some (.int .i64 a0_4) := (blk_cell BK121.out 4).trans rfl
                            have hcz79_5 : wc.cell? ⟨gb121, 5, none⟩ = some (.int .i64 a0_5) := (blk_cell BK121.out 5).trans rfl
                            have hcz79_6 : wc.cell? ⟨gb121, 6, none⟩ = some (.slice A0_6 l0_6.length c0_6) := (blk_cell BK121.out 6).trans rfl
                            have hfz79_0 := blk_frozen BK121.out 0
                            have hfz79_1 := blk_frozen BK121.out 1
                            have hfz79_2 := blk_frozen BK121.out 2
                            have hfz79_3 := blk_frozen BK121.out 3
                            have hfz79_4 := blk_frozen BK121.out 4
                            have hfz79_5 := blk_frozen BK121.out 5
                            have hfz79_6 := blk_frozen BK121.out 6
                            have p132 : 0 ≤ (0 : Int) := (by omega)
                            have q132 : 0 < (l0_6.length : Int) := of_decide_eq_true (by first | (with_reducible assumption) | assumption)
                            obtain ⟨ad132, A132_5, c132_5, e132, hx132_0, hx132_1, hx132_2, hx132_3, hx132_4, hx132_5, hl132_5, hi132_5⟩ := at_T28 HR0_6.out 0 p132 q132
                            (try rw [← Nbq55.out] at hx132_1)
                            (try rw [← Nbq77.out] at hx132_1)
                            (try rw [← Nbq55.out] at hx132_3)
                            (try rw [← Nbq77.out] at hx132_3)
                            cases e132
                            have qi132 : (0 < l0_6.length) = True := eq_true (by omega)
                            (try rw [show ((0 : Int)).toNat = 0 from rfl] at hx132_0)
                            (try rw [show 0 * 6 = 0 from rfl] at hx132_0)
                            (try rw [Addr.add_zero'] at hx132_0)
                            (try rw [show ((0 : Int)).toNat = 0 from rfl] at hx132_1)
                            (try rw [show 0 * 6 = 0 from rfl] at hx132_1)
                            (try rw [Addr.add_zero'] at hx132_1)
                            (try rw [show ((0 : Int)).toNat = 0 from rfl] at hx132_2)
                            (try rw [show 0 * 6 = 0 from rfl] at hx132_2)
                            (try rw [Addr.add_zero'] at hx132_2)
                            (try rw [show ((0 : Int)).toNat = 0 from rfl] at hx132_3)
                            (try rw [show 0 * 6 = 0 from rfl] at hx132_3)
                            (try rw [Addr.add_zero'] at hx132_3)
                            (try rw [show ((0 : Int)).toNat = 0 from rfl] at hx132_4)
                            (try rw [show 0 * 6 = 0 from rfl] at hx132_4)
                            (try rw [Addr.add_zero'] at hx132_4)
                            (try rw [show ((0 : Int)).toNat = 0 from rfl] at hx132_5)
                            (try rw [show 0 * 6 = 0 from rfl] at hx132_5)
                            (try rw [Addr.add_zero'] at hx132_5)
                            replace hx132_0 := (HB.out.cell (World.block_lt_of_cell? w _ hx132_0)).trans hx132_0
                            replace hx132_1 := (HB.out.cell (World.block_lt_of_cell? w _ hx132_1)).trans hx132_1
                            replace hx132_2 := (HB.out.cell (World.block_lt_of_cell? w _ hx132_2)).trans hx132_2
                            replace hx132_3 := (HB.out.cell (World.block_lt_of_cell? w _ hx132_3)).trans hx132_3
                            replace hx132_4 := (HB.out.cell (World.block_lt_of_cell? w _ hx132_4)).trans hx132_4
                            replace hx132_5 := (HB.out.cell (World.block_lt_of_cell? w _ hx132_5)).trans hx132_5
                            have HR132_5 := Aside0.mk hi132_5
                            have HC132_5 := Aside0.mk hl132_5
                            clear hi132_5 hl132_5
                            replace p132 := eq_true p132
                            replace q132 := eq_true q132
                            go_wp2_with (first | ((with_reducible refine gate_dst (N := 4) rfl ?_); (try (refine gate_guard (by rfl) ?_; dsimp only)); refine box_event ?hg (N := 4) ?hd (cs := #[.int .i64 0, .bool false, .string (⟨#[]⟩ : ByteArray), .bool false, .string (⟨#[]⟩ : ByteArray), .slice none 0 0]) (t := 28) ?hr ?_; (case hd => rfl); (case hg => rfl); (case hr => first | (go_simp; done) | (go_simp; rfl)); intro gb133 hg w80 hbox hb; have n0_ := Aside0.mk (blk_below (g := gb121) (o := .cells #[.int .i64 a0_0, .int .i64 a0_1, .int .i64 a0_2, .int .i64 a0_3, .int .i64 a0_4, .int .i64 a0_5, .slice (some ad132) l0_6.length c0_6] 30 (0, 0)) (by (with_reducible repeat (first | refine blk_drewN ?_ _ | refine blk_drew ?_ | refine blk_alloc ?_ _)); exact BK121.out) hb); have n1_ := Aside0.mk (below_step (by repeat (first | (with_reducible first | exact HB.out | apply below_alloc | apply pw_below_drewN | apply below_drew1 | refine below_set ?_ GE121.out) | exact HB.out)) hb); have n2_ := Aside0.mk (hbox); have n3_ := Aside0.mk ((by rw [hg]; exact (below_size (by repeat (first | (with_reducible first | exact HB.out | apply below_alloc | apply pw_below_drewN | apply below_drew1 | refine below_set ?_ GE121.out) | exact HB.out))) : w.heap.size ≤ gb133)); have n4_ := Aside0.mk ((by rw [hg]; exact (below_size (by repeat (first | (with_reducible first | exact HB.out | apply below_alloc | apply pw_below_drewN | apply below_drew1 | refine below_set ?_ GE121.out) | exact HB.out))) : w.heap.size ≤ gb133)); have n5_ := Aside0.mk ((by rw [hg]; exact Nat.ne_of_lt (blk_lt (g := gb121) (o := .cells #[.int .i64 a0_0, .int .i64 a0_1, .int .i64 a0_2, .int .i64 a0_3, .int .i64 a0_4, .int .i64 a0_5, .slice (some ad132) l0_6.length c0_6] 30 (0, 0)) (by (with_reducible repeat (first | refine blk_drewN ?_ _ | refine blk_drew ?_ | refine blk_alloc ?_ _)); exact BK121.out)) : gb121 ≠ gb133)); have n6_ := Aside0.mk ((by rw [hg]; exact Nat.ne_of_gt (blk_lt (g := gb121) (o := .cells #[.int .i64 a0_0, .int .i64 a0_1, .int .i64 a0_2, .int .i64 a0_3, .int .i64 a0_4, .int .i64 a0_5, .slice (some ad132) l0_6.length c0_6] 30 (0, 0)) (by (with_reducible repeat (first | refine blk_drewN ?_ _ | refine blk_drew ?_ | refine blk_alloc ?_ _)); exact BK121.out)) : gb133 ≠ gb121)); clear BK121; clear HB; have BK121 := n0_; have HB := n1_; have BK133 := n2_; have GW133 := n3_; have GE133 := n4_; have NB121_133 := n5_; have NB133_121 := n6_; clear n0_ n1_ n2_ n3_ n4_ n5_ n6_; clear hb hbox hg; have hnb81 := NB133_121.out; have hnc81 := NB121_133.out; have hcz82_0 : w80.cell? ⟨gb133, 0, none⟩ = some (.int .i64 0) := (blk_cell BK133.out 0).trans rfl; have hcz82_1 : w80.cell? ⟨gb133, 1, none⟩ = some (.bool false) := (blk_cell BK133.out 1).trans rfl; have hcz82_2 : w80.cell? ⟨gb133, 2, none⟩ = some (.string (⟨#[]⟩ : ByteArray)) := (blk_cell BK133.out 2).trans rfl; have hcz82_3 : w80.cell? ⟨gb133, 3, none⟩ = some (.bool false) := (blk_cell BK133.out 3).trans rfl; have hcz82_4 : w80.cell? ⟨gb133, 4, none⟩ = some (.string (⟨#[]⟩ : ByteArray)) := (blk_cell BK133.out 4).trans rfl; have hcz82_5 : w80.cell? ⟨gb133, 5, none⟩ = some (.slice none 0 0) := (blk_cell BK133.out 5).trans rfl; have hfz82_0 := blk_frozen BK133.out 0; have hfz82_1 := blk_frozen BK133.out 1; have hfz82_2 := blk_frozen BK133.out 2; have hfz82_3 := blk_frozen BK133.out 3; have hfz82_4 := blk_frozen BK133.out 4; have hfz82_5 := blk_frozen BK133.out 5; have hcz83_0 : w80.cell? ⟨gb121, 0, none⟩ = some (.int .i64 a0_0) := (blk_cell BK121.out 0).trans rfl; have hcz83_1 : w80.cell? ⟨gb121, 1, none⟩ = some (.int .i64 a0_1) := (blk_cell BK121.out 1).trans rfl; have hcz83_2 : w80.cell? ⟨gb121, 2, none⟩ = some (.int .i64 a0_2) := (blk_cell BK121.out 2).trans rfl; have hcz83_3 : w80.cell? ⟨gb121, 3, none⟩ = some (.int .i64 a0_3) := (blk_cell BK121.out 3).trans rfl; have hcz83_4 : w80.cell? ⟨gb121, 4, none⟩ = some (.int .i64 a0_4) := (blk_cell BK121.out 4).trans rfl; have hcz83_5 : w80.cell? ⟨gb121, 5, none⟩ = some (.int .i64 a0_5) := (blk_cell BK121.out 5).trans rfl; have hcz83_6 : w80.cell? ⟨gb121, 6, none⟩ = some (.slice (some ad132) l0_6.length c0_6) := (blk_cell BK121.out 6).trans rfl; have hfz83_0 := blk_frozen BK121.out 0; have hfz83_1 := blk_frozen BK121.out 1; have hfz83_2 := blk_frozen BK121.out 2; have hfz83_3 := blk_frozen BK121.out 3; have hfz83_4 := blk_frozen BK121.out 4; have hfz83_5 := blk_frozen BK121.out 5; have hfz83_6 := blk_frozen BK121.out 6))
                            go_ret
                            exact ⟨by first | rfl | (simp [errW_none, errW_some] <;> rfl) | (simp [*, errW_none, errW_some] <;> rfl), by repeat (first | (with_reducible first | exact HB.out | apply below_alloc | apply pw_below_drewN | apply below_drew1 | refine below_set ?_ GE121.out | refine below_set ?_ GE133.out) | exact HB.out)⟩
                          · replace c78 := Bool.eq_false_iff.mpr c78
                            subst c78
                            have H1 : (if ((rd_T28 l0_6 0).f4).toList = ([] : List UInt8) then (some ((((rd_T28 l0_6 0).f5).length : Int) == 0)) else (some false)) = some r := by rw [if_neg (show ¬ (false = true) by decide)] at H; exact H
                            clear H
                            have H := H1
                            clear H1
                            by_cases c84 : ((rd_T28 l0_6 0).f4).toList = ([] : List UInt8)
                            · rw [if_pos c84] at H
                              have c84b0 : (((rd_T28 l0_6 0).f4).toList == ([] : List UInt8)) = true := beq_iff_eq.mpr c84
                              have c84b1 : (((rd_T28 l0_6 0).f4).toList != ([] : List UInt8)) = false := bne_eq_false_iff_eq.mpr c84
                              clear c84
                              obtain rfl := Option.some.inj H
                              have hcz85_0 : wc.cell? ⟨gb121, 0, none⟩ = some (.int .i64 a0_0) := (blk_cell BK121.out 0).trans rfl
                              have hcz85_1 : wc.cell? ⟨gb121, 1, none⟩ = some (.int .i64 a0_1) := (blk_cell BK121.out 1).trans rfl
                              have hcz85_2 : wc.cell? ⟨gb121, 2, none⟩ = some (.int .i64 a0_2) := (blk_cell BK121.out 2).trans rfl
                              have hcz85_3 : wc.cell? ⟨gb121, 3, none⟩ = some (.int .i64 a0_3) := (blk_cell BK121.out 3).trans rfl
                              have hcz85_4 : wc.cell? ⟨gb121, 4, none⟩ = some (.int .i64 a0_4) := (blk_cell BK121.out 4).trans rfl
                              have hcz85_5 : wc.cell? ⟨gb121, 5, none⟩ = some (.int .i64 a0_5) := (blk_cell BK121.out 5).trans rfl
                              have hcz85_6 : wc.cell? ⟨gb121, 6, none⟩ = some (.slice A0_6 l0_6.length c0_6) := (blk_cell BK121.out 6).trans rfl
                              have hfz85_0 := blk_frozen BK121.out 0
                              have hfz85_1 := blk_frozen BK121.out 1
                              have hfz85_2 := blk_frozen BK121.out 2
                              have hfz85_3 := blk_frozen BK121.out 3
                              have hfz85_4 := blk_frozen BK121.out 4
                              have hfz85_5 := blk_frozen BK121.out 5
                              have hfz85_6 := blk_frozen BK121.out 6
                              have p132 : 0 ≤ (0 : Int) := (by omega)
                              have q132 : 0 < (l0_6.length : Int) := of_decide_eq_true (by first | (with_reducible assumption) | assumption)
                              obtain ⟨ad132, A132_5, c132_5, e132, hx132_0, hx132_1, hx132_2, hx132_3, hx132_4, hx132_5, hl132_5, hi132_5⟩ := at_T28 HR0_6.out 0 p132 q132
                              (try rw [← Nbq55.out] at hx132_1)
                              (try rw [← Nbq77.out] at hx132_1)
                              (try rw [← Nbq55.out] at hx132_3)
                              (try rw [← Nbq77.out] at hx132_3)
                              cases e132
                              have qi132 : (0 < l0_6.length) = True := eq_true (by omega)
                              (try rw [show ((0 : Int)).toNat = 0 from rfl] at hx132_0)
                              (try rw [show 0 * 6 = 0 from rfl] at hx132_0)
                              (try rw [Addr.add_zero'] at hx132_0)
                              (try rw [show ((0 : Int)).toNat = 0 from rfl] at hx132_1)
                              (try rw [show 0 * 6 = 0 from rfl] at hx132_1)
                              (try rw [Addr.add_zero'] at hx132_1)
                              (try rw [show ((0 : Int)).toNat = 0 from rfl] at hx132_2)
                              (try rw [show 0 * 6 = 0 from rfl] at hx132_2)
                              (try rw [Addr.add_zero'] at hx132_2)
                              (try rw [show ((0 : Int)).toNat = 0 from rfl] at hx132_3)
                              (try rw [show 0 * 6 = 0 from rfl] at hx132_3)
                              (try rw [Addr.add_zero'] at hx132_3)
                              (try rw [show ((0 : Int)).toNat = 0 from rfl] at hx132_4)
                              (try rw [show 0 * 6 = 0 from rfl] at hx132_4)
                              (try rw [Addr.add_zero'] at hx132_4)
                              (try rw [show ((0 : Int)).toNat = 0 from rfl] at hx132_5)
                              (try rw [show 0 * 6 = 0 from rfl] at hx132_5)
                              (try rw [Addr.add_zero'] at hx132_5)
                              replace hx132_0 := (HB.out.cell (World.block_lt_of_cell? w _ hx132_0)).trans hx132_0
                              replace hx132_1 := (HB.out.cell (World.block_lt_of_cell? w _ hx132_1)).trans hx132_1
                              replace hx132_2 := (HB.out.cell (World.block_lt_of_cell? w _ hx132_2)).trans hx132_2
                              replace hx132_3 := (HB.out.cell (World.block_lt_of_cell? w _ hx132_3)).trans hx132_3
                              replace hx132_4 := (HB.out.cell (World.block_lt_of_cell? w _ hx132_4)).trans hx132_4
                              replace hx132_5 := (HB.out.cell (World.block_lt_of_cell? w _ hx132_5)).trans hx132_5
                              have HR132_5 := Aside0.mk hi132_5
                              have HC132_5 := Aside0.mk hl132_5
                              clear hi132_5 hl132_5
                              replace p132 := eq_true p132
                              replace q132 := eq_true q132
                              go_wp2_with (first | ((with_reducible refine gate_dst (N := 4) rfl ?_); (try (refine gate_guard (by rfl) ?_; dsimp only)); refine box_event ?hg (N := 4) ?hd (cs := #[.int .i64 0, .bool false, .string (⟨#[]⟩ : ByteArray), .bool false, .string (⟨#[]⟩ : ByteArray), .slice none 0 0]) (t := 28) ?hr ?_; (case hd => rfl); (case hg => rfl); (case hr => first | (go_simp; done) | (go_simp; rfl)); intro gb133 hg w86 hbox hb; have n0_ := Aside0.mk (blk_below (g := gb121) (o := .cells #[.int .i64 a0_0, .int .i64 a0_1, .int .i64 a0_2, .int .i64 a0_3, .int .i64 a0_4, .int .i64 a0_5, .slice (some ad132) l0_6.length c0_6] 30 (0, 0)) (by (with_reducible repeat (first | refine blk_drewN ?_ _ | refine blk_drew ?_ | refine blk_alloc ?_ _)); exact BK121.out) hb); have n1_ := Aside0.mk (below_step (by repeat (first | (with_reducible first | exact HB.out | apply below_alloc | apply pw_below_drewN | apply below_drew1 | refine below_set ?_ GE121.out) | exact HB.out)) hb); have n2_ := Aside0.mk (hbox); have n3_ := Aside0.mk ((by rw [hg]; exact (below_size (by repeat (first | (with_reducible first | exact HB.out | apply below_alloc | apply pw_below_drewN | apply below_drew1 | refine below_set ?_ GE121.out) | exact HB.out))) : w.heap.size ≤ gb133)); have n4_ := Aside0.mk ((by rw [hg]; exact (below_size (by repeat (first | (with_reducible first | exact HB.out | apply below_alloc | apply pw_below_drewN | apply below_drew1 | refine below_set ?_ GE121.out) | exact HB.out))) : w.heap.size ≤ gb133)); have n5_ := Aside0.mk ((by rw [hg]; exact Nat.ne_of_lt (blk_lt (g := gb121) (o := .cells #[.int .i64 a0_0, .int .i64 a0_1, .int .i64 a0_2, .int .i64 a0_3, .int .i64 a0_4, .int .i64 a0_5, .slice (some ad132) l0_6.length c0_6] 30 (0, 0)) (by (with_reducible repeat (first | refine blk_drewN ?_ _ | refine blk_drew ?_ | refine blk_alloc ?_ _)); exact BK121.out)) : gb121 ≠ gb133)); have n6_ := Aside0.mk ((by rw [hg]; exact Nat.ne_of_gt (blk_lt (g := gb121) (o := .cells #[.int .i64 a0_0, .int .i64 a0_1, .int .i64 a0_2, .int .i64 a0_3, .int .i64 a0_4, .int .i64 a0_5, .slice (some ad132) l0_6.length c0_6] 30 (0, 0)) (by (with_reducible repeat (first | refine blk_drewN ?_ _ | refine blk_drew ?_ | refine blk_alloc ?_ _)); exact BK121.out)) : gb133 ≠ gb121)); clear BK121; clear HB; have BK121 := n0_; have HB := n1_; have BK133 := n2_; have GW133 := n3_; have GE133 := n4_; have NB121_133 := n5_; have NB133_121 := n6_; clear n0_ n1_ n2_ n3_ n4_ n5_ n6_; clear hb hbox hg; have hnb87 := NB133_121.out; have hnc87 := NB121_133.out; have hcz88_0 : w86.cell? ⟨gb133, 0, none⟩ = some (.int .i64 0) := (blk_cell BK133.out 0).trans rfl; have hcz88_1 : w86.cell? ⟨gb133, 1, none⟩ = some (.bool false) := (blk_cell BK133.out 1).trans rfl; have hcz88_2 : w86.cell? ⟨gb133, 2, none⟩ = some (.string (⟨#[]⟩ : ByteArray)) := (blk_cell BK133.out 2).trans rfl; have hcz88_3 : w86.cell? ⟨gb133, 3, none⟩ = some (.bool false) := (blk_cell BK133.out 3).trans rfl; have hcz88_4 : w86.cell? ⟨gb133, 4, none⟩ = some (.string (⟨#[]⟩ : ByteArray)) := (blk_cell BK133.out 4).trans rfl; have hcz88_5 : w86.cell? ⟨gb133, 5, none⟩ = some (.slice none 0 0) := (blk_cell BK133.out 5).trans rfl; have hfz88_0 := blk_frozen BK133.out 0; have hfz88_1 := blk_frozen BK133.out 1; have hfz88_2 := blk_frozen BK133.out 2; have hfz88_3 := blk_frozen BK133.out 3; have hfz88_4 := blk_frozen BK133.out 4; have hfz88_5 := blk_frozen BK133.out 5; have hcz89_0 : w86.cell? ⟨gb121, 0, none⟩ = some (.int .i64 a0_0) := (blk_cell BK121.out 0).trans rfl; have hcz89_1 : w86.cell? ⟨gb121, 1, none⟩ = some (.int .i64 a0_1) := (blk_cell BK121.out 1).trans rfl; have hcz89_2 : w86.cell? ⟨gb121, 2, none⟩ = some (.int .i64 a0_2) := (blk_cell BK121.out 2).trans rfl; have hcz89_3 : w86.cell? ⟨gb121, 3, none⟩ = some (.int .i64 a0_3) := (blk_cell BK121.out 3).trans rfl; have hcz89_4 : w86.cell? ⟨gb121, 4, none⟩ = some (.int .i64 a0_4) := (blk_cell BK121.out 4).trans rfl; have hcz89_5 : w86.cell? ⟨gb121, 5, none⟩ = some (.int .i64 a0_5) := (blk_cell BK121.out 5).trans rfl; have hcz89_6 : w86.cell? ⟨gb121, 6, none⟩ = some (.slice (some ad132) l0_6.length c0_6) := (blk_cell BK121.out 6).trans rfl; have hfz89_0 := blk_frozen BK121.out 0; have hfz89_1 := blk_frozen BK121.out 1; have hfz89_2 := blk_frozen BK121.out 2; have hfz89_3 := blk_frozen BK121.out 3; have hfz89_4 := blk_frozen BK121.out 4; have hfz89_5 := blk_frozen BK121.out 5; have hfz89_6 := blk_frozen BK121.out 6))
                              go_ret
                              exact ⟨by first | rfl | (simp [errW_none, errW_some] <;> rfl) | (simp [*, errW_none, errW_some] <;> rfl), by repeat (first | (with_reducible first | exact HB.out | apply below_alloc | apply pw_below_drewN | apply below_drew1 | refine below_set ?_ GE121.out | refine below_set ?_ GE133.out) | exact HB.out)⟩
                            · rw [if_neg c84] at H
                              have c84b0 : (((rd_T28 l0_6 0).f4).toList == ([] : List UInt8)) = false := beq_eq_false_iff_ne.mpr c84
                              have c84b1 : (((rd_T28 l0_6 0).f4).toList != ([] : List UInt8)) = true := bne_iff_ne.mpr c84
                              obtain rfl := Option.some.inj H
                              have hcz90_0 : wc.cell? ⟨gb121, 0, none⟩ = some (.int .i64 a0_0) := (blk_cell BK121.out 0).trans rfl
                              have hcz90_1 : wc.cell? ⟨gb121, 1, none⟩ = some (.int .i64 a0_1) := (blk_cell BK121.out 1).trans rfl
                              have hcz90_2 : wc.cell? ⟨gb121, 2, none⟩ = some (.int .i64 a0_2) := (blk_cell BK121.out 2).trans rfl
                              have hcz90_3 : wc.cell? ⟨gb121, 3, none⟩ = some (.int .i64 a0_3) := (blk_cell BK121.out 3).trans rfl
                              have hcz90_4 : wc.cell? ⟨gb121, 4, none⟩ = some (.int .i64 a0_4) := (blk_cell BK121.out 4).trans rfl
                              have hcz90_5 : wc.cell? ⟨gb121, 5, none⟩ = some (.int .i64 a0_5) := (blk_cell BK121.out 5).trans rfl
                              have hcz90_6 : wc.cell? ⟨gb121, 6, none⟩ = some (.slice A0_6 l0_6.length c0_6) := (blk_cell BK121.out 6).trans rfl
                              have hfz90_0 := blk_frozen BK121.out 0
                              have hfz90_1 := blk_frozen BK121.out 1
                              have hfz90_2 := blk_frozen BK121.out 2
                              have hfz90_3 := blk_frozen BK121.out 3
                              have hfz90_4 := blk_frozen BK121.out 4
                              have hfz90_5 := blk_frozen BK121.out 5
                              have hfz90_6 := blk_frozen BK121.out 6
                              have p132 : 0 ≤ (0 : Int) := (by omega)
                              have q132 : 0 < (l0_6.length : Int) := of_decide_eq_true (by first | (with_reducible assumption) | assumption)
                              obtain ⟨ad132, A132_5, c132_5, e132, hx132_0, hx132_1, hx132_2, hx132_3, hx132_4, hx132_5, hl132_5, hi132_5⟩ := at_T28 HR0_6.out 0 p132 q132
                              (try rw [← Nbq55.out] at hx132_1)
                              (try rw [← Nbq77.out] at hx132_1)
                              (try rw [← Nbq55.out] at hx132_3)
                              (try rw [← Nbq77.out] at hx132_3)
                              cases e132
                              have qi132 : (0 < l0_6.length) = True := eq_true (by omega)
                              (try rw [show ((0 : Int)).toNat = 0 from rfl] at hx132_0)
                              (try rw [show 0 * 6 = 0 from rfl] at hx132_0)
                              (try rw [Addr.add_zero'] at hx132_0)
                              (try rw [show ((0 : Int)).toNat = 0 from rfl] at hx132_1)
                              (try rw [show 0 * 6 = 0 from rfl] at hx132_1)
                              (try rw [Addr.add_zero'] at hx132_1)
                              (try rw [show ((0 : Int)).toNat = 0 from rfl] at hx132_2)
                              (try rw [show 0 * 6 = 0 from rfl] at hx132_2)
                              (try rw [Addr.add_zero'] at hx132_2)
                              (try rw [show ((0 : Int)).toNat = 0 from rfl] at hx132_3)
                              (try rw [show 0 * 6 = 0 from rfl] at hx132_3)
                              (try rw [Addr.add_zero'] at hx132_3)
                              (try rw [show ((0 : Int)).toNat = 0 from rfl] at hx132_4)
                              (try rw [show 0 * 6 = 0 from rfl] at hx132_4)
                              (try rw [Addr.add_zero'] at hx132_4)
                              (try rw [show ((0 : Int)).toNat = 0 from rfl] at hx132_5)
                              (try rw [show 0 * 6 = 0 from rfl] at hx132_5)
                              (try rw [Addr.add_zero'] at hx132_5)
                              replace hx132_0 := (HB.out.cell (World.block_lt_of_cell? w _ hx132_0)).trans hx132_0
                              replace hx132_1 := (HB.out.cell (World.block_lt_of_cell? w _ hx132_1)).trans hx132_1
                              replace hx132_2 := (HB.out.cell (World.block_lt_of_cell? w _ hx132_2)).trans hx132_2
                              replace hx132_3 := (HB.out.cell (World.block_lt_of_cell? w _ hx132_3)).trans hx132_3
                              replace hx132_4 := (HB.out.cell (World.block_lt_of_cell? w _ hx132_4)).trans hx132_4
                              replace hx132_5 := (HB.out.cell (World.block_lt_of_cell? w _ hx132_5)).trans hx132_5
                              have HR132_5 := Aside0.mk hi132_5
                              have HC132_5 := Aside0.mk hl132_5
                              clear hi132_5 hl132_5
                              replace p132 := eq_true p132
                              replace q132 := eq_true q132
                              go_wp2_with (first | ((with_reducible refine gate_dst (N := 4) rfl ?_); (try (refine gate_guard (by rfl) ?_; dsimp only)); refine box_event ?hg (N := 4) ?hd (cs := #[.int .i64 0, .bool false, .string (⟨#[]⟩ : ByteArray), .bool false, .string (⟨#[]⟩ : ByteArray), .slice none 0 0]) (t := 28) ?hr ?_; (case hd => rfl); (case hg => rfl); (case hr => first | (go_simp; done) | (go_simp; rfl)); intro gb133 hg w91 hbox hb; have n0_ := Aside0.mk (blk_below (g := gb121) (o := .cells #[.int .i64 a0_0, .int .i64 a0_1, .int .i64 a0_2, .int .i64 a0_3, .int .i64 a0_4, .int .i64 a0_5, .slice (some ad132) l0_6.length c0_6] 30 (0, 0)) (by (with_reducible repeat (first | refine blk_drewN ?_ _ | refine blk_drew ?_ | refine blk_alloc ?_ _)); exact BK121.out) hb); have n1_ := Aside0.mk (below_step (by repeat (first | (with_reducible first | exact HB.out | apply below_alloc | apply pw_below_drewN | apply below_drew1 | refine below_set ?_ GE121.out) | exact HB.out)) hb); have n2_ := Aside0.mk (hbox); have n3_ := Aside0.mk ((by rw [hg]; exact (below_size (by repeat (first | (with_reducible first | exact HB.out | apply below_alloc | apply pw_below_drewN | apply below_drew1 | refine below_set ?_ GE121.out) | exact HB.out))) : w.heap.size ≤ gb133)); have n4_ := Aside0.mk ((by rw [hg]; exact (below_size (by repeat (first | (with_reducible first | exact HB.out | apply below_alloc | apply pw_below_drewN | apply below_drew1 | refine below_set ?_ GE121.out) | exact HB.out))) : w.heap.size ≤ gb133)); have n5_ := Aside0.mk ((by rw [hg]; exact Nat.ne_of_lt (blk_lt (g := gb121) (o := .cells #[.int .i64 a0_0, .int .i64 a0_1, .int .i64 a0_2, .int .i64 a0_3, .int .i64 a0_4, .int .i64 a0_5, .slice (some ad132) l0_6.length c0_6] 30 (0, 0)) (by (with_reducible repeat (first | refine blk_drewN ?_ _ | refine blk_drew ?_ | refine blk_alloc ?_ _)); exact BK121.out)) : gb121 ≠ gb133)); have n6_ := Aside0.mk ((by rw [hg]; exact Nat.ne_of_gt (blk_lt (g := gb121) (o := .cells #[.int .i64 a0_0, .int .i64 a0_1, .int .i64 a0_2, .int .i64 a0_3, .int .i64 a0_4, .int .i64 a0_5, .slice (some ad132) l0_6.length c0_6] 30 (0, 0)) (by (with_reducible repeat (first | refine blk_drewN ?_ _ | refine blk_drew ?_ | refine blk_alloc ?_ _)); exact BK121.out)) : gb133 ≠ gb121)); clear BK121; clear HB; have BK121 := n0_; have HB := n1_; have BK133 := n2_; have GW133 := n3_; have GE133 := n4_; have NB121_133 := n5_; have NB133_121 := n6_; clear n0_ n1_ n2_ n3_ n4_ n5_ n6_; clear hb hbox hg; have hnb92 := NB133_121.out; have hnc92 := NB121_133.out; have hcz93_0 : w91.cell? ⟨gb133, 0, none⟩ = some (.int .i64 0) := (blk_cell BK133.out 0).trans rfl; have hcz93_1 : w91.cell? ⟨gb133, 1, none⟩ = some (.bool false) := (blk_cell BK133.out 1).trans rfl; have hcz93_2 : w91.cell? ⟨gb133, 2, none⟩ = some (.string (⟨#[]⟩ : ByteArray)) := (blk_cell BK133.out 2).trans rfl; have hcz93_3 : w91.cell? ⟨gb133, 3, none⟩ = some (.bool false) := (blk_cell BK133.out 3).trans rfl; have hcz93_4 : w91.cell? ⟨gb133, 4, none⟩ = some (.string (⟨#[]⟩ : ByteArray)) := (blk_cell BK133.out 4).trans rfl; have hcz93_5 : w91.cell? ⟨gb133, 5, none⟩ = some (.slice none 0 0) := (blk_cell BK133.out 5).trans rfl; have hfz93_0 := blk_frozen BK133.out 0; have hfz93_1 := blk_frozen BK133.out 1; have hfz93_2 := blk_frozen BK133.out 2; have hfz93_3 := blk_frozen BK133.out 3; have hfz93_4 := blk_frozen BK133.out 4; have hfz93_5 := blk_frozen BK133.out 5; have hcz94_0 : w91.cell? ⟨gb121, 0, none⟩ = some (.int .i64 a0_0) := (blk_cell BK121.out 0).trans rfl; have hcz94_1 : w91.cell? ⟨gb121, 1, none⟩ = some (.int .i64 a0_1) := (blk_cell BK121.out 1).trans rfl; have hcz94_2 : w91.cell? ⟨gb121, 2, none⟩ = some (.int .i64 a0_2) := (blk_cell BK121.out 2).trans rfl; have hcz94_3 : w91.cell? ⟨gb121, 3, none⟩ = some (.int .i64 a0_3) := (blk_cell BK121.out 3).trans rfl; have hcz94_4 : w91.cell? ⟨gb121, 4, none⟩ = some (.int .i64 a0_4) := (blk_cell BK121.out 4).trans rfl; have hcz94_5 : w91.cell? ⟨gb121, 5, none⟩ = some (.int .i64 a0_5) := (blk_cell BK121.out 5).trans rfl; have hcz94_6 : w91.cell? ⟨gb121, 6, none⟩ = some (.slice (some ad132) l0_6.length c0_6) := (blk_cell BK121.out 6).trans rfl; have hfz94_0 := blk_frozen BK121.out 0; have hfz94_1 := blk_frozen BK121.out 1; have hfz94_2 := blk_frozen BK121.out 2; have hfz94_3 := blk_frozen BK121.out 3; have hfz94_4 := blk_frozen BK121.out 4; have hfz94_5 := blk_frozen BK121.out 5; have hfz94_6 := blk_frozen BK121.out 6))
                              go_ret
                              exact ⟨by first | rfl | (simp [errW_none, errW_some] <;> rfl) | (simp [*, errW_none, errW_some] <;> rfl), by repeat (first | (with_reducible first | exact HB.out | apply below_alloc | apply pw_below_drewN | apply below_drew1 | refine below_set ?_ GE121.out | refine below_set ?_ GE133.out) | exact HB.out)⟩
                        · rw [if_neg c76] at H
                          have c76b0 : (((rd_T28 l0_6 0).f2).toList == ([97, 98, 111, 114, 116] : List UInt8)) = false := beq_eq_false_iff_ne.mpr c76
                          have c76b1 : (((rd_T28 l0_6 0).f2).toList != ([97, 98, 111, 114, 116] : List UInt8)) = true := bne_iff_ne.mpr c76
                          obtain rfl := Option.some.inj H
                          have hcz95_0 : wc.cell? ⟨gb121, 0, none⟩ = some (.int .i64 a0_0) := (blk_cell BK121.out 0).trans rfl
                          have hcz95_1 : wc.cell? ⟨gb121, 1, none⟩ = some (.int .i64 a0_1) := (blk_cell BK121.out 1).trans rfl
                          have hcz95_2 : wc.cell? ⟨gb121, 2, none⟩ = some (.int .i64 a0_2) := (blk_cell BK121.out 2).trans rfl
                          have hcz95_3 : wc.cell? ⟨gb121, 3, none⟩ = some (.int .i64 a0_3) := (blk_cell BK121.out 3).trans rfl
                          have hcz95_4 : wc.cell? ⟨gb121, 4, none⟩ = some (.int .i64 a0_4) := (blk_cell BK121.out 4).trans rfl
                          have hcz95_5 : wc.cell? ⟨gb121, 5, none⟩ = some (.int .i64 a0_5) := (blk_cell BK121.out 5).trans rfl
                          have hcz95_6 : wc.cell? ⟨gb121, 6, none⟩ = some (.slice A0_6 l0_6.length c0_6) := (blk_cell BK121.out 6).trans rfl
                          have hfz95_0 := blk_frozen BK121.out 0
                          have hfz95_1 := blk_frozen BK121.out 1
                          have hfz95_2 := blk_frozen BK121.out 2
                          have hfz95_3 := blk_frozen BK121.out 3
                          have hfz95_4 := blk_frozen BK121.out 4
                          have hfz95_5 := blk_frozen BK121.out 5
                          have hfz95_6 := blk_frozen BK121.out 6
                          have p132 : 0 ≤ (0 : Int) := (by omega)
                          have q132 : 0 < (l0_6.length : Int) := of_decide_eq_true (by first | (with_reducible assumption) | assumption)
                          obtain ⟨ad132, A132_5, c132_5, e132, hx132_0, hx132_1, hx132_2, hx132_3, hx132_4, hx132_5, hl132_5, hi132_5⟩ := at_T28 HR0_6.out 0 p132 q132
                          (try rw [← Nbq55.out] at hx132_1)
                          (try rw [← Nbq55.out] at hx132_3)
                          cases e132
                          have qi132 : (0 < l0_6.length) = True := eq_true (by omega)
                          (try rw [show ((0 : Int)).toNat = 0 from rfl] at hx132_0)
                          (try rw [show 0 * 6 = 0 from rfl] at hx132_0)
                          (try rw [Addr.add_zero'] at hx132_0)
                          (try rw [show ((0 : Int)).toNat = 0 from rfl] at hx132_1)
                          (try rw [show 0 * 6 = 0 from rfl] at hx132_1)
                          (try rw [Addr.add_zero'] at hx132_1)
                          (try rw [show ((0 : Int)).toNat = 0 from rfl] at hx132_2)
                          (try rw [show 0 * 6 = 0 from rfl] at hx132_2)
                          (try rw [Addr.add_zero'] at hx132_2)
                          (try rw [show ((0 : Int)).toNat = 0 from rfl] at hx132_3)
                          (try rw [show 0 * 6 = 0 from rfl] at hx132_3)
                          (try rw [Addr.add_zero'] at hx132_3)
                          (try rw [show ((0 : Int)).toNat = 0 from rfl] at hx132_4)
                          (try rw [show 0 * 6 = 0 from rfl] at hx132_4)
                          (try rw [Addr.add_zero'] at hx132_4)
                          (try rw [show ((0 : Int)).toNat = 0 from rfl] at hx132_5)
                          (try rw [show 0 * 6 = 0 from rfl] at hx132_5)
                          (try rw [Addr.add_zero'] at hx132_5)
                          replace hx132_0 := (HB.out.cell (World.block_lt_of_cell? w _ hx132_0)).trans hx132_0
                          replace hx132_1 := (HB.out.cell (World.block_lt_of_cell? w _ hx132_1)).trans hx132_1
                          replace hx132_2 := (HB.out.cell (World.block_lt_of_cell? w _ hx132_2)).trans hx132_2
                          replace hx132_3 := (HB.out.cell (World.block_lt_of_cell? w _ hx132_3)).trans hx132_3
                          replace hx132_4 := (HB.out.cell (World.block_lt_of_cell? w _ hx132_4)).trans hx132_4
                          replace hx132_5 := (HB.out.cell (World.block_lt_of_cell? w _ hx132_5)).trans hx132_5
                          have HR132_5 := Aside0.mk hi132_5
                          have HC132_5 := Aside0.mk hl132_5
                          clear hi132_5 hl132_5
                          replace p132 := eq_true p132
                          replace q132 := eq_true q132
                          go_wp2_with (first | ((with_reducible refine gate_dst (N := 4) rfl ?_); (try (refine gate_guard (by rfl) ?_; dsimp only)); refine box_event ?hg (N := 4) ?hd (cs := #[.int .i64 0, .bool false, .string (⟨#[]⟩ : ByteArray), .bool false, .string (⟨#[]⟩ : ByteArray), .slice none 0 0]) (t := 28) ?hr ?_; (case hd => rfl); (case hg => rfl); (case hr => first | (go_simp; done) | (go_simp; rfl)); intro gb133 hg w96 hbox hb; have n0_ := Aside0.mk (blk_below (g := gb121) (o := .cells #[.int .i64 a0_0, .int .i64 a0_1, .int .i64 a0_2, .int .i64 a0_3, .int .i64 a0_4, .int .i64 a0_5, .slice (some ad132) l0_6.length c0_6] 30 (0, 0)) (by (with_reducible repeat (first | refine blk_drewN ?_ _ | refine blk_drew ?_ | refine blk_alloc ?_ _)); exact BK121.out) hb); have n1_ := Aside0.mk (below_step (by repeat (first | (with_reducible first | exact HB.out | apply below_alloc | apply pw_below_drewN | apply below_drew1 | refine below_set ?_ GE121.out) | exact HB.out)) hb); have n2_ := Aside0.mk (hbox); have n3_ := Aside0.mk ((by rw [hg]; exact (below_size (by repeat (first | (with_reducible first | exact HB.out | apply below_alloc | apply pw_below_drewN | apply below_drew1 | refine below_set ?_ GE121.out) | exact HB.out))) : w.heap.size ≤ gb133)); have n4_ := Aside0.mk ((by rw [hg]; exact (below_size (by repeat (first | (with_reducible first | exact HB.out | apply below_alloc | apply pw_below_drewN | apply below_drew1 | refine below_set ?_ GE121.out) | exact HB.out))) : w.heap.size ≤ gb133)); have n5_ := Aside0.mk ((by rw [hg]; exact Nat.ne_of_lt (blk_lt (g := gb121) (o := .cells #[.int .i64 a0_0, .int .i64 a0_1, .int .i64 a0_2, .int .i64 a0_3, .int .i64 a0_4, .int .i64 a0_5, .slice (some ad132) l0_6.length c0_6] 30 (0, 0)) (by (with_reducible repeat (first | refine blk_drewN ?_ _ | refine blk_drew ?_ | refine blk_alloc ?_ _)); exact BK121.out)) : gb121 ≠ gb133)); have n6_ := Aside0.mk ((by rw [hg]; exact Nat.ne_of_gt (blk_lt (g := gb121) (o := .cells #[.int .i64 a0_0, .int .i64 a0_1, .int .i64 a0_2, .int .i64 a0_3, .int .i64 a0_4, .int .i64 a0_5, .slice (some ad132) l0_6.length c0_6] 30 (0, 0)) (by (with_reducible repeat (first | refine blk_drewN ?_ _ | refine blk_drew ?_ | refine blk_alloc ?_ _)); exact BK121.out)) : gb133 ≠ gb121)); clear BK121; clear HB; have BK121 := n0_; have HB := n1_; have BK133 := n2_; have GW133 := n3_; have GE133 := n4_; have NB121_133 := n5_; have NB133_121 := n6_; clear n0_ n1_ n2_ n3_ n4_ n5_ n6_; clear hb hbox hg; have hnb97 := NB133_121.out; have hnc97 := NB121_133.out; have hcz98_0 : w96.cell? ⟨gb133, 0, none⟩ = some (.int .i64 0) := (blk_cell BK133.out 0).trans rfl; have hcz98_1 : w96.cell? ⟨gb133, 1, none⟩ = some (.bool false) := (blk_cell BK133.out 1).trans rfl; have hcz98_2 : w96.cell? ⟨gb133, 2, none⟩ = some (.string (⟨#[]⟩ : ByteArray)) := (blk_cell BK133.out 2).trans rfl; have hcz98_3 : w96.cell? ⟨gb133, 3, none⟩ = some (.bool false) := (blk_cell BK133.out 3).trans rfl; have hcz98_4 : w96.cell? ⟨gb133, 4, none⟩ = some (.string (⟨#[]⟩ : ByteArray)) := (blk_cell BK133.out 4).trans rfl; have hcz98_5 : w96.cell? ⟨gb133, 5, none⟩ = some (.slice none 0 0) := (blk_cell BK133.out 5).trans rfl; have hfz98_0 := blk_frozen BK133.out 0; have hfz98_1 := blk_frozen BK133.out 1; have hfz98_2 := blk_frozen BK133.out 2; have hfz98_3 := blk_frozen BK133.out 3; have hfz98_4 := blk_frozen BK133.out 4; have hfz98_5 := blk_frozen BK133.out 5; have hcz99_0 : w96.cell? ⟨gb121, 0, none⟩ = some (.int .i64 a0_0) := (blk_cell BK121.out 0).trans rfl; have hcz99_1 : w96.cell? ⟨gb121, 1, none⟩ = some (.int .i64 a0_1) := (blk_cell BK121.out 1).trans rfl; have hcz99_2 : w96.cell? ⟨gb121, 2, none⟩ = some (.int .i64 a0_2) := (blk_cell BK121.out 2).trans rfl; have hcz99_3 : w96.cell? ⟨gb121, 3, none⟩ = some (.int .i64 a0_3) := (blk_cell BK121.out 3).trans rfl; have hcz99_4 : w96.cell? ⟨gb121, 4, none⟩ = some (.int .i64 a0_4) := (blk_cell BK121.out 4).trans rfl; have hcz99_5 : w96.cell? ⟨gb121, 5, none⟩ = some (.int .i64 a0_5) := (blk_cell BK121.out 5).trans rfl; have hcz99_6 : w96.cell? ⟨gb121, 6, none⟩ = some (.slice (some ad132) l0_6.length c0_6) := (blk_cell BK121.out 6).trans rfl; have hfz99_0 := blk_frozen BK121.out 0; have hfz99_1 := blk_frozen BK121.out 1; have hfz99_2 := blk_frozen BK121.out 2; have hfz99_3 := blk_frozen BK121.out 3; have hfz99_4 := blk_frozen BK121.out 4; have hfz99_5 := blk_frozen BK121.out 5; have hfz99_6 := blk_frozen BK121.out 6))
                          go_ret
                          exact ⟨by first | rfl | (simp [errW_none, errW_some] <;> rfl) | (simp [*, errW_none, errW_some] <;> rfl), by repeat (first | (with_reducible first | exact HB.out | apply below_alloc | apply pw_below_drewN | apply below_drew1 | refine below_set ?_ GE121.out | refine below_set ?_ GE133.out) | exact HB.out)⟩
                    · replace c56 := Bool.eq_false_iff.mpr c56
                      subst c56
                      have H1 : (some false) = some r := by rw [if_neg (show ¬ (false = true) by decide)] at H; exact H
                      clear H
                      have H := H1
                      clear H1
                      obtain rfl := Option.some.inj H
                      have hcz100_0 : wc.cell? ⟨gb121, 0, none⟩ = some (.int .i64 a0_0) := (blk_cell BK121.out 0).trans rfl
                      have hcz100_1 : wc.cell? ⟨gb121, 1, none⟩ = some (.int .i64 a0_1) := (blk_cell BK121.out 1).trans rfl
                      have hcz100_2 : wc.cell? ⟨gb121, 2, none⟩ = some (.int .i64 a0_2) := (blk_cell BK121.out 2).trans rfl
                      have hcz100_3 : wc.cell? ⟨gb121, 3, none⟩ = some (.int .i64 a0_3) := (blk_cell BK121.out 3).trans rfl
                      have hcz100_4 : wc.cell? ⟨gb121, 4, none⟩ = some (.int .i64 a0_4) := (blk_cell BK121.out 4).trans rfl
                      have hcz100_5 : wc.cell? ⟨gb121, 5, none⟩ = some (.int .i64 a0_5) := (blk_cell BK121.out 5).trans rfl
                      have hcz100_6 : wc.cell? ⟨gb121, 6, none⟩ = some (.slice A0_6 l0_6.length c0_6) := (blk_cell BK121.out 6).trans rfl
                      have hfz100_0 := blk_frozen BK121.out 0
                      have hfz100_1 := blk_frozen BK121.out 1
                      have hfz100_2 := blk_frozen BK121.out 2
                      have hfz100_3 := blk_frozen BK121.out 3
                      have hfz100_4 := blk_frozen BK121.out 4
                      have hfz100_5 := blk_frozen BK121.out 5
                      have hfz100_6 := blk_frozen BK121.out 6
                      have p132 : 0 ≤ (0 : Int) := (by omega)
                      have q132 : 0 < (l0_6.length : Int) := of_decide_eq_true (by first | (with_reducible assumption) | assumption)
                      obtain ⟨ad132, A132_5, c132_5, e132, hx132_0, hx132_1, hx132_2, hx132_3, hx132_4, hx132_5, hl132_5, hi132_5⟩ := at_T28 HR0_6.out 0 p132 q132
                      (try rw [← Nbq55.out] at hx132_1)
                      (try rw [← Nbq55.out] at hx132_3)
                      cases e132
                      have qi132 : (0 < l0_6.length) = True := eq_true (by omega)
                      (try rw [show ((0 : Int)).toNat = 0 from rfl] at hx132_0)
                      (try rw [show 0 * 6 = 0 from rfl] at hx132_0)
                      (try rw [Addr.add_zero'] at hx132_0)
                      (try rw [show ((0 : Int)).toNat = 0 from rfl] at hx132_1)
                      (try rw [show 0 * 6 = 0 from rfl] at hx132_1)
                      (try rw [Addr.add_zero'] at hx132_1)
                      (try rw [show ((0 : Int)).toNat = 0 from rfl] at hx132_2)
                      (try rw [show 0 * 6 = 0 from rfl] at hx132_2)
                      (try rw [Addr.add_zero'] at hx132_2)
                      (try rw [show ((0 : Int)).toNat = 0 from rfl] at hx132_3)
                      (try rw [show 0 * 6 = 0 from rfl] at hx132_3)
                      (try rw [Addr.add_zero'] at hx132_3)
                      (try rw [show ((0 : Int)).toNat = 0 from rfl] at hx132_4)
                      (try rw [show 0 * 6 = 0 from rfl] at hx132_4)
                      (try rw [Addr.add_zero'] at hx132_4)
                      (try rw [show ((0 : Int)).toNat = 0 from rfl] at hx132_5)
                      (try rw [show 0 * 6 = 0 from rfl] at hx132_5)
                      (try rw [Addr.add_zero'] at hx132_5)
                      replace hx132_0 := (HB.out.cell (World.block_lt_of_cell? w _ hx132_0)).trans hx132_0
                      replace hx132_1 := (HB.out.cell (World.block_lt_of_cell? w _ hx132_1)).trans hx132_1
                      replace hx132_2 := (HB.out.cell (World.block_lt_of_cell? w _ hx132_2)).trans hx132_2
                      replace hx132_3 := (HB.out.cell (World.block_lt_of_cell? w _ hx132_3)).trans hx132_3
                      replace hx132_4 := (HB.out.cell (World.block_lt_of_cell? w _ hx132_4)).trans hx132_4
                      replace hx132_5 := (HB.out.cell (World.block_lt_of_cell? w _ hx132_5)).trans hx132_5
                      have HR132_5 := Aside0.mk hi132_5
                      have HC132_5 := Aside0.mk hl132_5
                      clear hi132_5 hl132_5
                      replace p132 := eq_true p132
                      replace q132 := eq_true q132
                      go_wp2_with (first | ((with_reducible refine gate_dst (N := 4) rfl ?_); (try (refine gate_guard (by rfl) ?_; dsimp only)); refine box_event ?hg (N := 4) ?hd (cs := #[.int .i64 0, .bool false, .string (⟨#[]⟩ : ByteArray), .bool false, .string (⟨#[]⟩ : ByteArray), .slice none 0 0]) (t := 28) ?hr ?_; (case hd => rfl); (case hg => rfl); (case hr => first | (go_simp; done) | (go_simp; rfl)); intro gb133 hg w101 hbox hb; have n0_ := Aside0.mk (blk_below (g := gb121) (o := .cells #[.int .i64 a0_0, .int .i64 a0_1, .int .i64 a0_2, .int .i64 a0_3, .int .i64 a0_4, .int .i64 a0_5, .slice (some ad132) l0_6.length c0_6] 30 (0, 0)) (by (with_reducible repeat (first | refine blk_drewN ?_ _ | refine blk_drew ?_ | refine blk_alloc ?_ _)); exact BK121.out) hb); have n1_ := Aside0.mk (below_step (by repeat (first | (with_reducible first | exact HB.out | apply below_alloc | apply pw_below_drewN | apply below_drew1 | refine below_set ?_ GE121.out) | exact HB.out)) hb); have n2_ := Aside0.mk (hbox); have n3_ := Aside0.mk ((by rw [hg]; exact (below_size (by repeat (first | (with_reducible first | exact HB.out | apply below_alloc | apply pw_below_drewN | apply below_drew1 | refine below_set ?_ GE121.out) | exact HB.out))) : w.heap.size ≤ gb133)); have n4_ := Aside0.mk ((by rw [hg]; exact (below_size (by repeat (first | (with_reducible first | exact HB.out | apply below_alloc | apply pw_below_drewN | apply below_drew1 | refine below_set ?_ GE121.out) | exact HB.out))) : w.heap.size ≤ gb133)); have n5_ := Aside0.mk ((by rw [hg]; exact Nat.ne_of_lt (blk_lt (g := gb121) (o := .cells #[.int .i64 a0_0, .int .i64 a0_1, .int .i64 a0_2, .int .i64 a0_3, .int .i64 a0_4, .int .i64 a0_5, .slice (some ad132) l0_6.length c0_6] 30 (0, 0)) (by (with_reducible repeat (first | refine blk_drewN ?_ _ | refine blk_drew ?_ | refine blk_alloc ?_ _)); exact BK121.out)) : gb121 ≠ gb133)); have n6_ := Aside0.mk ((by rw [hg]; exact Nat.ne_of_gt (blk_lt (g := gb121) (o := .cells #[.int .i64 a0_0, .int .i64 a0_1, .int .i64 a0_2, .int .i64 a0_3, .int .i64 a0_4, .int .i64 a0_5, .slice (some ad132) l0_6.length c0_6] 30 (0, 0)) (by (with_reducible repeat (first | refine blk_drewN ?_ _ | refine blk_drew ?_ | refine blk_alloc ?_ _)); exact BK121.out)) : gb133 ≠ gb121)); clear BK121; clear HB; have BK121 := n0_; have HB := n1_; have BK133 := n2_; have GW133 := n3_; have GE133 := n4_; have NB121_133 := n5_; have NB133_121 := n6_; clear n0_ n1_ n2_ n3_ n4_ n5_ n6_; clear hb hbox hg; have hnb102 := NB133_121.out; have hnc102 := NB121_133.out; have hcz103_0 : w101.cell? ⟨gb133, 0, none⟩ = some (.int .i64 0) := (blk_cell BK133.out 0).trans rfl; have hcz103_1 : w101.cell? ⟨gb133, 1, none⟩ = some (.bool false) := (blk_cell BK133.out 1).trans rfl; have hcz103_2 : w101.cell? ⟨gb133, 2, none⟩ = some (.string (⟨#[]⟩ : ByteArray)) := (blk_cell BK133.out 2).trans rfl; have hcz103_3 : w101.cell? ⟨gb133, 3, none⟩ = some (.bool false) := (blk_cell BK133.out 3).trans rfl; have hcz103_4 : w101.cell? ⟨gb133, 4, none⟩ = some (.string (⟨#[]⟩ : ByteArray)) := (blk_cell BK133.out 4).trans rfl; have hcz103_5 : w101.cell? ⟨gb133, 5, none⟩ = some (.slice none 0 0) := (blk_cell BK133.out 5).trans rfl; have hfz103_0 := blk_frozen BK133.out 0; have hfz103_1 := blk_frozen BK133.out 1; have hfz103_2 := blk_frozen BK133.out 2; have hfz103_3 := blk_frozen BK133.out 3; have hfz103_4 := blk_frozen BK133.out 4; have hfz103_5 := blk_frozen BK133.out 5; have hcz104_0 : w101.cell? ⟨gb121, 0, none⟩ = some (.int .i64 a0_0) := (blk_cell BK121.out 0).trans rfl; have hcz104_1 : w101.cell? ⟨gb121, 1, none⟩ = some (.int .i64 a0_1) := (blk_cell BK121.out 1).trans rfl; have hcz104_2 : w101.cell? ⟨gb121, 2, none⟩ = some (.int .i64 a0_2) := (blk_cell BK121.out 2).trans rfl; have hcz104_3 : w101.cell? ⟨gb121, 3, none⟩ = some (.int .i64 a0_3) := (blk_cell BK121.out 3).trans rfl; have hcz104_4 : w101.cell? ⟨gb121, 4, none⟩ = some (.int .i64 a0_4) := (blk_cell BK121.out 4).trans rfl; have hcz104_5 : w101.cell? ⟨gb121, 5, none⟩ = some (.int .i64 a0_5) := (blk_cell BK121.out 5).trans rfl; have hcz104_6 : w101.cell? ⟨gb121, 6, none⟩ = some (.slice (some ad132) l0_6.length c0_6) := (blk_cell BK121.out 6).trans rfl; have hfz104_0 := blk_frozen BK121.out 0; have hfz104_1 := blk_frozen BK121.out 1; have hfz104_2 := blk_frozen BK121.out 2; have hfz104_3 := blk_frozen BK121.out 3; have hfz104_4 := blk_frozen BK121.out 4; have hfz104_5 := blk_frozen BK121.out 5; have hfz104_6 := blk_frozen BK121.out 6))
                      go_ret
                      exact ⟨by first | rfl | (simp [errW_none, errW_some] <;> rfl) | (simp [*, errW_none, errW_some] <;> rfl), by repeat (first | (with_reducible first | exact HB.out | apply below_alloc | apply pw_below_drewN | apply below_drew1 | refine below_set ?_ GE121.out | refine below_set ?_ GE133.out) | exact HB.out)⟩
                  · rw [if_neg c54] at H
                    have c54b0 : ((l0_6.length : Int) == 1) = false := beq_eq_false_iff_ne.mpr c54
                    have c54b1 : ((l0_6.length : Int) != 1) = true := bne_iff_ne.mpr c54
                    obtain rfl := Option.some.inj H
                    have hcz105_0 : wc.cell? ⟨gb121, 0, none⟩ = some (.int .i64 a0_0) := (blk_cell BK121.out 0).trans rfl
                    have hcz105_1 : wc.cell? ⟨gb121, 1, none⟩ = some (.int .i64 a0_1) := (blk_cell BK121.out 1).trans rfl
                    have hcz105_2 : wc.cell? ⟨gb121, 2, none⟩ = some (.int .i64 a0_2) := (blk_cell BK121.out 2).trans rfl
                    have hcz105_3 : wc.cell? ⟨gb121, 3, none⟩ = some (.int .i64 a0_3) := (blk_cell BK121.out 3).trans rfl
                    have hcz105_4 : wc.cell? ⟨gb121, 4, none⟩ = some (.int .i64 a0_4) := (blk_cell BK121.out 4).trans rfl
                    have hcz105_5 : wc.cell? ⟨gb121, 5, none⟩ = some (.int .i64 a0_5) := (blk_cell BK121.out 5).trans rfl
                    have hcz105_6 : wc.cell? ⟨gb121, 6, none⟩ = some (.slice A0_6 l0_6.length c0_6) := (blk_cell BK121.out 6).trans rfl
                    have hfz105_0 := blk_frozen BK121.out 0
                    have hfz105_1 := blk_frozen BK121.out 1
                    have hfz105_2 := blk_frozen BK121.out 2
                    have hfz105_3 := blk_frozen BK121.out 3
                    have hfz105_4 := blk_frozen BK121.out 4
                    have hfz105_5 := blk_frozen BK121.out 5
                    have hfz105_6 := blk_frozen BK121.out 6
                    have p132 : 0 ≤ (0 : Int) := (by omega)
                    have q132 : 0 < (l0_6.length : Int) := of_decide_eq_true (by first | (with_reducible assumption) | assumption)
                    obtain ⟨ad132, A132_5, c132_5, e132, hx132_0, hx132_1, hx132_2, hx132_3, hx132_4, hx132_5, hl132_5, hi132_5⟩ := at_T28 HR0_6.out 0 p132 q132
                    cases e132
                    have qi132 : (0 < l0_6.length) = True := eq_true (by omega)
                    (try rw [show ((0 : Int)).toNat = 0 from rfl] at hx132_0)
                    (try rw [show 0 * 6 = 0 from rfl] at hx132_0)
                    (try rw [Addr.add_zero'] at hx132_0)
                    (try rw [show ((0 : Int)).toNat = 0 from rfl] at hx132_1)
                    (try rw [show 0 * 6 = 0 from rfl] at hx132_1)
                    (try rw [Addr.add_zero'] at hx132_1)
                    (try rw [show ((0 : Int)).toNat = 0 from rfl] at hx132_2)
                    (try rw [show 0 * 6 = 0 from rfl] at hx132_2)
                    (try rw [Addr.add_zero'] at hx132_2)
                    (try rw [show ((0 : Int)).toNat = 0 from rfl] at hx132_3)
                    (try rw [show 0 * 6 = 0 from rfl] at hx132_3)
                    (try rw [Addr.add_zero'] at hx132_3)
                    (try rw [show ((0 : Int)).toNat = 0 from rfl] at hx132_4)
                    (try rw [show 0 * 6 = 0 from rfl] at hx132_4)
                    (try rw [Addr.add_zero'] at hx132_4)
                    (try rw [show ((0 : Int)).toNat = 0 from rfl] at hx132_5)
                    (try rw [show 0 * 6 = 0 from rfl] at hx132_5)
                    (try rw [Addr.add_zero'] at hx132_5)
                    replace hx132_0 := (HB.out.cell (World.block_lt_of_cell? w _ hx132_0)).trans hx132_0
                    replace hx132_1 := (HB.out.cell (World.block_lt_of_cell? w _ hx132_1)).trans hx132_1
                    replace hx132_2 := (HB.out.cell (World.block_lt_of_cell? w _ hx132_2)).trans hx132_2
                    replace hx132_3 := (HB.out.cell (World.block_lt_of_cell? w _ hx132_3)).trans hx132_3
                    replace hx132_4 := (HB.out.cell (World.block_lt_of_cell? w _ hx132_4)).trans hx132_4
                    replace hx132_5 := (HB.out.cell (World.block_lt_of_cell? w _ hx132_5)).trans hx132_5
                    have HR132_5 := Aside0.mk hi132_5
                    have HC132_5 := Aside0.mk hl132_5
                    clear hi132_5 hl132_5
                    replace p132 := eq_true p132
                    replace q132 := eq_true q132
                    go_wp2_with (first | ((with_reducible refine gate_dst (N := 4) rfl ?_); (try (refine gate_guard (by rfl) ?_; dsimp only)); refine box_event ?hg (N := 4) ?hd (cs := #[.int .i64 0, .bool false, .string (⟨#[]⟩ : ByteArray), .bool false, .string (⟨#[]⟩ : ByteArray), .slice none 0 0]) (t := 28) ?hr ?_; (case hd => rfl); (case hg => rfl); (case hr => first | (go_simp; done) | (go_simp; rfl)); intro gb133 hg w106 hbox hb; have n0_ := Aside0.mk (blk_below (g := gb121) (o := .cells #[.int .i64 a0_0, .int .i64 a0_1, .int .i64 a0_2, .int .i64 a0_3, .int .i64 a0_4, .int .i64 a0_5, .slice (some ad132) l0_6.length c0_6] 30 (0, 0)) (by (with_reducible repeat (first | refine blk_drewN ?_ _ | refine blk_drew ?_ | refine blk_alloc ?_ _)); exact BK121.out) hb); have n1_ := Aside0.mk (below_step (by repeat (first | (with_reducible first | exact HB.out | apply below_alloc | apply pw_below_drewN | apply below_drew1 | refine below_set ?_ GE121.out) | exact HB.out)) hb); have n2_ := Aside0.mk (hbox); have n3_ := Aside0.mk ((by rw [hg]; exact (below_size (by repeat (first | (with_reducible first | exact HB.out | apply below_alloc | apply pw_below_drewN | apply below_drew1 | refine below_set ?_ GE121.out) | exact HB.out))) : w.heap.size ≤ gb133)); have n4_ := Aside0.mk ((by rw [hg]; exact (below_size (by repeat (first | (with_reducible first | exact HB.out | apply below_alloc | apply pw_below_drewN | apply below_drew1 | refine below_set ?_ GE121.out) | exact HB.out))) : w.heap.size ≤ gb133)); have n5_ := Aside0.mk ((by rw [hg]; exact Nat.ne_of_lt (blk_lt (g := gb121) (o := .cells #[.int .i64 a0_0, .int .i64 a0_1, .int .i64 a0_2, .int .i64 a0_3, .int .i64 a0_4, .int .i64 a0_5, .slice (some ad132) l0_6.length c0_6] 30 (0, 0)) (by (with_reducible repeat (first | refine blk_drewN ?_ _ | refine blk_drew ?_ | refine blk_alloc ?_ _)); exact BK121.out)) : gb121 ≠ gb133)); have n6_ := Aside0.mk ((by rw [hg]; exact Nat.ne_of_gt (blk_lt (g := gb121) (o := .cells #[.int .i64 a0_0, .int .i64 a0_1, .int .i64 a0_2, .int .i64 a0_3, .int .i64 a0_4, .int .i64 a0_5, .slice (some ad132) l0_6.length c0_6] 30 (0, 0)) (by (with_reducible repeat (first | refine blk_drewN ?_ _ | refine blk_drew ?_ | refine blk_alloc ?_ _)); exact BK121.out)) : gb133 ≠ gb121)); clear BK121; clear HB; have BK121 := n0_; have HB := n1_; have BK133 := n2_; have GW133 := n3_; have GE133 := n4_; have NB121_133 := n5_; have NB133_121 := n6_; clear n0_ n1_ n2_ n3_ n4_ n5_ n6_; clear hb hbox hg; have hnb107 := NB133_121.out; have hnc107 := NB121_133.out; have hcz108_0 : w106.cell? ⟨gb133, 0, none⟩ = some (.int .i64 0) := (blk_cell BK133.out 0).trans rfl; have hcz108_1 : w106.cell? ⟨gb133, 1, none⟩ = some (.bool false) := (blk_cell BK133.out 1).trans rfl; have hcz108_2 : w106.cell? ⟨gb133, 2, none⟩ = some (.string (⟨#[]⟩ : ByteArray)) := (blk_cell BK133.out 2).trans rfl; have hcz108_3 : w106.cell? ⟨gb133, 3, none⟩ = some (.bool false) := (blk_cell BK133.out 3).trans rfl; have hcz108_4 : w106.cell? ⟨gb133, 4, none⟩ = some (.string (⟨#[]⟩ : ByteArray)) := (blk_cell BK133.out 4).trans rfl; have hcz108_5 : w106.cell? ⟨gb133, 5, none⟩ = some (.slice none 0 0) := (blk_cell BK133.out 5).trans rfl; have hfz108_0 := blk_frozen BK133.out 0; have hfz108_1 := blk_frozen BK133.out 1; have hfz108_2 := blk_frozen BK133.out 2; have hfz108_3 := blk_frozen BK133.out 3; have hfz108_4 := blk_frozen BK133.out 4; have hfz108_5 := blk_frozen BK133.out 5; have hcz109_0 : w106.cell? ⟨gb121, 0, none⟩ = some (.int .i64 a0_0) := (blk_cell BK121.out 0).trans rfl; have hcz109_1 : w106.cell? ⟨gb121, 1, none⟩ = some (.int .i64 a0_1) := (blk_cell BK121.out 1).trans rfl; have hcz109_2 : w106.cell? ⟨gb121, 2, none⟩ = some (.int .i64 a0_2) := (blk_cell BK121.out 2).trans rfl; have hcz109_3 : w106.cell? ⟨gb121, 3, none⟩ = some (.int .i64 a0_3) := (blk_cell BK121.out 3).trans rfl; have hcz109_4 : w106.cell? ⟨gb121, 4, none⟩ = some (.int .i64 a0_4) := (blk_cell BK121.out 4).trans rfl; have hcz109_5 : w106.cell? ⟨gb121, 5, none⟩ = some (.int .i64 a0_5) := (blk_cell BK121.out 5).trans rfl; have hcz109_6 : w106.cell? ⟨gb121, 6, none⟩ = some (.slice (some ad132) l0_6.length c0_6) := (blk_cell BK121.out 6).trans rfl; have hfz109_0 := blk_frozen BK121.out 0; have hfz109_1 := blk_frozen BK121.out 1; have hfz109_2 := blk_frozen BK121.out 2; have hfz109_3 := blk_frozen BK121.out 3; have hfz109_4 := blk_frozen BK121.out 4; have hfz109_5 := blk_frozen BK121.out 5; have hfz109_6 := blk_frozen BK121.out 6))
                    go_ret
                    exact ⟨by first | rfl | (simp [errW_none, errW_some] <;> rfl) | (simp [*, errW_none, errW_some] <;> rfl), by repeat (first | (with_reducible first | exact HB.out | apply below_alloc | apply pw_below_drewN | apply below_drew1 | refine below_set ?_ GE121.out | refine below_set ?_ GE133.out) | exact HB.out)⟩
end Go.Proofs.Ytkfacigicohfkaa.QLim
