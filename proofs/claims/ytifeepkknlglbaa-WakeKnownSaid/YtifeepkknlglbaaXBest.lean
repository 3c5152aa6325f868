/- The contracts of wake.Best and wake.Ask, in the form in which the printed texts take them. -/
import Derived.Test.YtifeepkknlglbaaA0
import Derived.Test.YtifeepkknlglbaaXEnds
namespace Go.Proofs.Ytifeepkknlglbaa.All
open Go.RowKit Go.Proofs.YtifeepkknlglbaaW.PrintWords Go.Proofs.YtifeepkknlglbaaW.PrintLast Go.Proofs.YtifeepkknlglbaaW.PrintMore

def wake_Best.f (l0 : List (S34)) (a1 : Bool) (a2 : Int) : Option (Int) := some (Ends.bestOf l0 a1 a2)
theorem wake_Best.calls (A0 : Option Addr) (c0 : Nat) (l0 : List (S34)) (a1 : Bool) (a2 : Int) (r : Int) (w : World) (hr0 : Kd.C k34 w A0 l0.length l0) (hc0 : l0.length ≤ c0) (h : wake_Best.f l0 a1 a2 = some r) :
    Calls Try.prog 11 #[.slice A0 l0.length c0, .bool a1, .int .i64 a2] w fun e w' => e = .returned (.int .i64 r) ∧ Below w.heap.size w w' := by
  obtain rfl : Ends.bestOf l0 a1 a2 = r := Option.some.inj h
  have _ := hc0
  exact Ends.Best_calls A0 c0 l0 a1 a2 w hr0
def wake_Ask.f (l0 : List (S34)) (a1_0 : Int) (a1_1 : Int) : Option (Int × Int) := some (Ends.bestOf l0 true a1_0, Ends.bestOf l0 false a1_1)
theorem wake_Ask.calls (A0 : Option Addr) (c0 : Nat) (l0 : List (S34)) (a1_0 : Int) (a1_1 : Int) (r1 : Int) (r2 : Int) (w : World) (hr0 : Kd.C k34 w A0 l0.length l0) (hc0 : l0.length ≤ c0) (h : wake_Ask.f l0 a1_0 a1_1 = some (r1, r2)) :
    Calls Try.prog 9 #[.slice A0 l0.length c0, .agg #[.int .i64 a1_0, .int .i64 a1_1]] w fun e w' => e = .returned (.tuple #[.int .i64 r1, .int .i64 r2]) ∧ Below w.heap.size w w' := by
  have h' := Option.some.inj h
  obtain rfl : Ends.bestOf l0 true a1_0 = r1 := congrArg Prod.fst h'
  obtain rfl : Ends.bestOf l0 false a1_1 = r2 := congrArg Prod.snd h'
  have _ := hc0
  exact Ends.Ask_calls A0 c0 l0 a1_0 a1_1 w hr0

end Go.Proofs.Ytifeepkknlglbaa.All
