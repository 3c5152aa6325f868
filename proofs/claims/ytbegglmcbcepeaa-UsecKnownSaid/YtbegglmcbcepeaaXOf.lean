/- The contract of clepsydraref01.Of. -/
import Derived.Test.YtbegglmcbcepeaaB0
namespace Go.Proofs.Ytbegglmcbcepeaa.All
open Go.RowKit Go.Proofs.YtbegglmcbcepeaaW.PrintWords Go.Proofs.YtbegglmcbcepeaaW.PrintLast Go.Proofs.YtbegglmcbcepeaaW.PrintMore
set_option linter.unusedVariables false
set_option linter.unusedSimpArgs false

def absU (n : Int) : Int := if n < 0 then IntKind.u64.wrap (-IntKind.u64.wrap n) else IntKind.u64.wrap n
def clepsydraref01_Of.f (a0 : Int) : Option (Bool × Int × Int × Int × Int × Int) := some (decide (a0 < 0), Go.bits .and .u64 (absU a0) 4294967295, absU a0 / 4294967296, 0, 0, 0)
set_option maxHeartbeats 2000000 in
set_option maxRecDepth 100000 in
theorem clepsydraref01_Of.calls (a0 : Int) (r1 : Bool) (r2 : Int) (r3 : Int) (r4 : Int) (r5 : Int) (r6 : Int) (w : World) (h : clepsydraref01_Of.f a0 = some (r1, r2, r3, r4, r5, r6)) :
    Calls Try.prog 13 #[.int .i64 a0] w fun e w' => e = .returned (.agg #[.bool r1, .int .u64 r2, .int .u64 r3, .int .u64 r4, .int .u64 r5, .int .u64 r6]) ∧ Below w.heap.size w w' := by
  have hu28 := Try.underlying28
  unfold clepsydraref01_Of.f absU at h
  have HB := Aside0.mk (Below.refl w.heap.size w)
  by_cases c : a0 < 0
  · have cb : decide (a0 < 0) = true := decide_eq_true c
    simp only [if_pos c, cb, Option.some.injEq, Prod.mk.injEq] at h
    obtain ⟨rfl, rfl, rfl, rfl, rfl, rfl⟩ := h
    go_enter Try.func13, Try.ntmps13
    go_wp2
    refine bodyPost_ret (results_cell_row rfl _ _ w.heap.size 28 _ (0, 0) _ rfl (blk_new w _) Try.underlying28 rfl (by kernel_rfl)) rfl ?_
    exact ⟨rfl, below_alloc (Below.refl _ _) _⟩
  · have cb : decide (a0 < 0) = false := decide_eq_false c
    simp only [if_neg c, cb, Option.some.injEq, Prod.mk.injEq] at h
    obtain ⟨rfl, rfl, rfl, rfl, rfl, rfl⟩ := h
    go_enter Try.func13, Try.ntmps13
    go_wp2
    refine bodyPost_ret (results_cell_row rfl _ _ w.heap.size 28 _ (0, 0) _ rfl (blk_new w _) Try.underlying28 rfl (by kernel_rfl)) rfl ?_
    exact ⟨rfl, below_alloc (Below.refl _ _) _⟩
end Go.Proofs.Ytbegglmcbcepeaa.All
