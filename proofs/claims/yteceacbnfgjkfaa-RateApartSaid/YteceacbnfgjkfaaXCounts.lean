/- The contract of rate.counts, in the form in which the printed texts take it. -/
import Derived.Test.YteceacbnfgjkfaaA0
import Derived.Test.YteceacbnfgjkfaaXCnt
namespace Go.Proofs.Yteceacbnfgjkfaa.All
open Go.RowKit Go.Proofs.YteceacbnfgjkfaaW.PrintWords Go.Proofs.YteceacbnfgjkfaaW.PrintLast Go.Proofs.YteceacbnfgjkfaaW.PrintMore

def rate_counts.f (_k : Nat) (l0 : List Int) (a1 : Int) (a2 : Int) (a3 : Int) : Option (List Int) :=
  if 1 ≤ a3 ∧ a3 ≤ 9223372036854775807 ∧ l0.length * 8 ≤ 140737488355328 then some (Cnt.countsOf l0 a1 a2 a3) else none
theorem rate_counts.mono : ∀ a0 a1 a2 a3 k, LeO (rate_counts.f k a0 a1 a2 a3) (rate_counts.f (k + 1) a0 a1 a2 a3) := fun _ _ _ _ _ _ h => h
theorem rate_counts.calls (k : Nat) (A0 : Option Addr) (c0 : Nat) (l0 : List Int) (a1 : Int) (a2 : Int) (a3 : Int) (r : List Int) (w : World) (hr0 : Kd.C (Kd.int .i64) w A0 l0.length l0) (hc0 : l0.length ≤ c0) (h : rate_counts.f k l0 a1 a2 a3 = some r) :
    Calls Try.prog 14 #[.slice A0 l0.length c0, .int .i64 a1, .int .i64 a2, .int .i64 a3] w fun e w' => ∃ v0_ : Value, e = .returned (v0_) ∧ Kd.Q (Kd.int .i64) 2 w' w.heap.size (fun _ => True) v0_ r ∧ Below w.heap.size w w' := by
  unfold rate_counts.f at h
  by_cases hh : 1 ≤ a3 ∧ a3 ≤ 9223372036854775807 ∧ l0.length * 8 ≤ 140737488355328
  · rw [if_pos hh] at h
    obtain rfl := Option.some.inj h
    refine (Cnt.counts_calls A0 c0 l0 a1 a2 a3 w (Kd.reads_of_C hr0) hc0 hh.2.2 hh.1 hh.2.1).mono ?_
    rintro e w' ⟨v', rfl, hown, hb⟩
    refine ⟨v', rfl, Kd.Q_of_R ⟨fun _ _ => trivial, _, hown, ?_⟩, hb⟩
    exact Kd.reps_scalar _
  · rw [if_neg hh] at h; cases h

end Go.Proofs.Yteceacbnfgjkfaa.All
