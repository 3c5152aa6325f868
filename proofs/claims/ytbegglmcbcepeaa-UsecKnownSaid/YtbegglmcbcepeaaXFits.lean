/- The contract of clepsydraref01.Fits. -/
import Derived.Test.YtbegglmcbcepeaaXOf
namespace Go.Proofs.Ytbegglmcbcepeaa.All
open Go.RowKit Go.Proofs.YtbegglmcbcepeaaW.PrintWords Go.Proofs.YtbegglmcbcepeaaW.PrintLast Go.Proofs.YtbegglmcbcepeaaW.PrintMore
set_option linter.unusedVariables false
set_option linter.unusedSimpArgs false

def uF (d0 d1 : Int) : Int := IntKind.u64.wrap (IntKind.u64.wrap (d1 * 4294967296) + d0)
def fitsR (m : Bool) (d0 d1 d2 d3 d4 : Int) : Int × Bool :=
  if 0 < d2 ∨ 0 < d3 ∨ 0 < d4 then (0, false) else
    if m = true then (if uF d0 d1 ≤ 9223372036854775808 then (wrap64 (IntKind.u64.wrap (-uF d0 d1)), true) else (0, false))
    else (if uF d0 d1 < 9223372036854775808 then (wrap64 (uF d0 d1), true) else (0, false))
set_option maxHeartbeats 2000000 in
set_option maxRecDepth 100000 in
theorem Fits_big (m : Bool) (d0 d1 d2 d3 d4 : Int) (w : World) (c : 0 < d2 ∨ 0 < d3 ∨ 0 < d4) :
    Calls Try.prog 14 #[.agg #[.bool m, .int .u64 d0, .int .u64 d1, .int .u64 d2, .int .u64 d3, .int .u64 d4]] w fun e w' => e = .returned (.tuple #[.int .i64 0, .bool false]) ∧ Below w.heap.size w w' := by
  by_cases c2 : 0 < d2
  · have b2 : decide (0 < d2) = true := decide_eq_true c2
    clear c
    go_enter Try.func14, Try.ntmps14
    go_wp2
    refine bodyPost_ret (results_tmp2 rfl _ _ _) rfl ?_
    exact ⟨rfl, by repeat (first | apply pw_below_drewN | apply below_drew1 | apply below_alloc | exact Below.refl _ _)⟩
  · have b2 : decide (0 < d2) = false := decide_eq_false c2
    by_cases c3 : 0 < d3
    · have b3 : decide (0 < d3) = true := decide_eq_true c3
      clear c
      go_enter Try.func14, Try.ntmps14
      go_wp2
      refine bodyPost_ret (results_tmp2 rfl _ _ _) rfl ?_
      exact ⟨rfl, by repeat (first | apply pw_below_drewN | apply below_drew1 | apply below_alloc | exact Below.refl _ _)⟩
    · have b3 : decide (0 < d3) = false := decide_eq_false c3
      have b4 : decide (0 < d4) = true := decide_eq_true (by omega)
      clear c
      go_enter Try.func14, Try.ntmps14
      go_wp2
      refine bodyPost_ret (results_tmp2 rfl _ _ _) rfl ?_
      exact ⟨rfl, by repeat (first | apply pw_below_drewN | apply below_drew1 | apply below_alloc | exact Below.refl _ _)⟩
set_option maxHeartbeats 2000000 in
set_option maxRecDepth 100000 in
theorem Fits_pos_yes (d0 d1 d2 d3 d4 : Int) (w : World) (c2 : ¬ 0 < d2) (c3 : ¬ 0 < d3) (c4 : ¬ 0 < d4) (c : uF d0 d1 < 9223372036854775808) :
    Calls Try.prog 14 #[.agg #[.bool false, .int .u64 d0, .int .u64 d1, .int .u64 d2, .int .u64 d3, .int .u64 d4]] w fun e w' => e = .returned (.tuple #[.int .i64 (wrap64 (uF d0 d1)), .bool true]) ∧ Below w.heap.size w w' := by
  have b2 : decide (0 < d2) = false := decide_eq_false c2
  have b3 : decide (0 < d3) = false := decide_eq_false c3
  have b4 : decide (0 < d4) = false := decide_eq_false c4
  unfold uF at *
  have cb := decide_eq_true c
  go_enter Try.func14, Try.ntmps14
  go_wp2
  refine bodyPost_ret (results_tmp2 rfl _ _ _) rfl ?_
  exact ⟨rfl, by repeat (first | apply pw_below_drewN | apply below_drew1 | apply below_alloc | exact Below.refl _ _)⟩
set_option maxHeartbeats 2000000 in
set_option maxRecDepth 100000 in
theorem Fits_neg_yes (d0 d1 d2 d3 d4 : Int) (w : World) (c2 : ¬ 0 < d2) (c3 : ¬ 0 < d3) (c4 : ¬ 0 < d4) (c : uF d0 d1 ≤ 9223372036854775808) :
    Calls Try.prog 14 #[.agg #[.bool true, .int .u64 d0, .int .u64 d1, .int .u64 d2, .int .u64 d3, .int .u64 d4]] w fun e w' => e = .returned (.tuple #[.int .i64 (wrap64 (IntKind.u64.wrap (-uF d0 d1))), .bool true]) ∧ Below w.heap.size w w' := by
  have b2 : decide (0 < d2) = false := decide_eq_false c2
  have b3 : decide (0 < d3) = false := decide_eq_false c3
  have b4 : decide (0 < d4) = false := decide_eq_false c4
  unfold uF at *
  have cb := decide_eq_true c
  go_enter Try.func14, Try.ntmps14
  go_wp2
  refine bodyPost_ret (results_tmp2 rfl _ _ _) rfl ?_
  exact ⟨rfl, by repeat (first | apply pw_below_drewN | apply below_drew1 | apply below_alloc | exact Below.refl _ _)⟩
set_option maxHeartbeats 2000000 in
set_option maxRecDepth 100000 in
theorem Fits_pos_no (d0 d1 d2 d3 d4 : Int) (w : World) (c2 : ¬ 0 < d2) (c3 : ¬ 0 < d3) (c4 : ¬ 0 < d4) (c : ¬ uF d0 d1 < 9223372036854775808) :
    Calls Try.prog 14 #[.agg #[.bool false, .int .u64 d0, .int .u64 d1, .int .u64 d2, .int .u64 d3, .int .u64 d4]] w fun e w' => e = .returned (.tuple #[.int .i64 (0), .bool false]) ∧ Below w.heap.size w w' := by
  have b2 : decide (0 < d2) = false := decide_eq_false c2
  have b3 : decide (0 < d3) = false := decide_eq_false c3
  have b4 : decide (0 < d4) = false := decide_eq_false c4
  unfold uF at *
  have cb := decide_eq_false c
  go_enter Try.func14, Try.ntmps14
  go_wp2
  refine bodyPost_ret (results_tmp2 rfl _ _ _) rfl ?_
  exact ⟨rfl, by repeat (first | apply pw_below_drewN | apply below_drew1 | apply below_alloc | exact Below.refl _ _)⟩
set_option maxHeartbeats 2000000 in
set_option maxRecDepth 100000 in
theorem Fits_neg_no (d0 d1 d2 d3 d4 : Int) (w : World) (c2 : ¬ 0 < d2) (c3 : ¬ 0 < d3) (c4 : ¬ 0 < d4) (c : ¬ uF d0 d1 ≤ 9223372036854775808) :
    Calls Try.prog 14 #[.agg #[.bool true, .int .u64 d0, .int .u64 d1, .int .u64 d2, .int .u64 d3, .int .u64 d4]] w fun e w' => e = .returned (.tuple #[.int .i64 (0), .bool false]) ∧ Below w.heap.size w w' := by
  have b2 : decide (0 < d2) = false := decide_eq_false c2
  have b3 : decide (0 < d3) = false := decide_eq_false c3
  have b4 : decide (0 < d4) = false := decide_eq_false c4
  unfold uF at *
  have cb := decide_eq_false c
  go_enter Try.func14, Try.ntmps14
  go_wp2
  refine bodyPost_ret (results_tmp2 rfl _ _ _) rfl ?_
  exact ⟨rfl, by repeat (first | apply pw_below_drewN | apply below_drew1 | apply below_alloc | exact Below.refl _ _)⟩
theorem fits_all (m : Bool) (d0 d1 d2 d3 d4 : Int) (w : World) :
    Calls Try.prog 14 #[.agg #[.bool m, .int .u64 d0, .int .u64 d1, .int .u64 d2, .int .u64 d3, .int .u64 d4]] w fun e w' => e = .returned (.tuple #[.int .i64 (fitsR m d0 d1 d2 d3 d4).1, .bool (fitsR m d0 d1 d2 d3 d4).2]) ∧ Below w.heap.size w w' := by
  unfold fitsR
  by_cases c : 0 < d2 ∨ 0 < d3 ∨ 0 < d4
  · rw [if_pos c]; exact Fits_big m d0 d1 d2 d3 d4 w c
  · rw [if_neg c]
    have c2 : ¬ 0 < d2 := fun h => c (.inl h)
    have c3 : ¬ 0 < d3 := fun h => c (.inr (.inl h))
    have c4 : ¬ 0 < d4 := fun h => c (.inr (.inr h))
    cases m
    · rw [if_neg (by decide)]
      by_cases h : uF d0 d1 < 9223372036854775808
      · rw [if_pos h]; exact Fits_pos_yes d0 d1 d2 d3 d4 w c2 c3 c4 h
      · rw [if_neg h]; exact Fits_pos_no d0 d1 d2 d3 d4 w c2 c3 c4 h
    · rw [if_pos rfl]
      by_cases h : uF d0 d1 ≤ 9223372036854775808
      · rw [if_pos h]; exact Fits_neg_yes d0 d1 d2 d3 d4 w c2 c3 c4 h
      · rw [if_neg h]; exact Fits_neg_no d0 d1 d2 d3 d4 w c2 c3 c4 h
def clepsydraref01_Fits.f (a0_0 : Bool) (a0_1 : Int) (a0_2 : Int) (a0_3 : Int) (a0_4 : Int) (a0_5 : Int) : Option (Int × Bool) := some (fitsR a0_0 a0_1 a0_2 a0_3 a0_4 a0_5)
theorem clepsydraref01_Fits.calls (a0_0 : Bool) (a0_1 : Int) (a0_2 : Int) (a0_3 : Int) (a0_4 : Int) (a0_5 : Int) (r1 : Int) (r2 : Bool) (w : World) (h : clepsydraref01_Fits.f a0_0 a0_1 a0_2 a0_3 a0_4 a0_5 = some (r1, r2)) :
    Calls Try.prog 14 #[.agg #[.bool a0_0, .int .u64 a0_1, .int .u64 a0_2, .int .u64 a0_3, .int .u64 a0_4, .int .u64 a0_5]] w fun e w' => e = .returned (.tuple #[.int .i64 r1, .bool r2]) ∧ Below w.heap.size w w' := by
  have h' := Option.some.inj h
  obtain rfl : _ = r1 := congrArg Prod.fst h'
  obtain rfl : _ = r2 := congrArg Prod.snd h'
  exact fits_all a0_0 a0_1 a0_2 a0_3 a0_4 a0_5 w
end Go.Proofs.Ytbegglmcbcepeaa.All
