/-
  No cell of these rows narrows 'for every input' (looked for: loops, veiled, ifaces, maps, wideKeys, modest, calm, conditions, laid).
  DERIVED. THE GIVEN ROWS OF THIS SEAT. 5 by the template 'for every input the law returns true; each argument reads behind the call as it read before'; 0 by the template 'total and deterministic' (their statements: YtifeepkknlglbaaTotals.lean).
  GIVEN WITH THE SEED: the statements are not yours to turn. If you find one false, say at which input.
  Laid BY PROGRAM, IN A SANDBOX (cutbox-rows.mjs): the forced cells as the released guide's own fill.sh prints them over the translation fedb937255210ae9… (all of the seat's roots in one cut). By AI agents, Wed Nov 11 2026. No macro, syntax, notation, axiom, sorry.
-/
import Derived.Test.YtifeepkknlglbaaChecked
import GoSem.Claim
import GoSem.ClaimJoined
import GoSem.ClaimMapViews
import Derived.JoinedTies
import Derived.KernelRfl
namespace Go.Proofs.Ytifeepkknlglbaa
/- THE CELL 'sum', in the pinned program and in every row, IS THE sha256 OF THE DUMP (.gsa) THAT YtifeepkknlglbaaProg.lean LOADS. Nothing in Lean hashes anything: it is a label: what it is worth is what the hold of that sum in a sandbox is worth. -/
noncomputable def Try.pinned : Pinned := { name := "ytifeepkknlglbaa", sum := "fedb937255210ae9c290891a503d9d4d85d629488bdd513b4cdc40a3c72f4ad1", checked := Try.checked }
namespace Rows
def none {H : Type} : Left H := { results := [], args := [] }

/-- 'clepsydralaw30.WakeAsk': WHATEVER THE INPUT: true; the input reads as it did. -/
def wakeAskSpec : ChangeSpec := { name := "wakeAsk", fn := fun _ => fun
  | [d1, d2] => { results := [.lit (.bool true)], args := [d1, d2] }
  | _ => none }
def wakeAskRow : OpenClaim := { program := "ytifeepkknlglbaa", sum := "fedb937255210ae9c290891a503d9d4d85d629488bdd513b4cdc40a3c72f4ad1", func := "clepsydra/clepsydralaw30.WakeAsk", spec := "wakeAsk", unfollowed := true, recurses := true, apart := false }
def WakeAskSaid : Prop := wakeAskRow.holds Try.pinned (OpenSpec.ofChange wakeAskSpec)

/-- ITS FALSE NEIGHBOUR: 'it returns false'. Refute it at one input. -/
def wakeAskWrong : ChangeSpec := { name := "wakeAsk", fn := fun _ => fun
  | [d1, d2] => { results := [.lit (.bool false)], args := [d1, d2] }
  | _ => none }
def WakeAskWrongFalsely : Prop := wakeAskRow.holds Try.pinned (OpenSpec.ofChange wakeAskWrong)

/-- 'clepsydralaw30.WakeServes': WHATEVER THE INPUT: true; the input reads as it did. -/
def wakeServesSpec : ChangeSpec := { name := "wakeServes", fn := fun _ => fun
  | [d1, d2, d3, d4] => { results := [.lit (.bool true)], args := [d1, d2, d3, d4] }
  | _ => none }
def wakeServesRow : OpenClaim := { program := "ytifeepkknlglbaa", sum := "fedb937255210ae9c290891a503d9d4d85d629488bdd513b4cdc40a3c72f4ad1", func := "clepsydra/clepsydralaw30.WakeServes", spec := "wakeServes", unfollowed := true, recurses := true, apart := false }
def WakeServesSaid : Prop := wakeServesRow.holds Try.pinned (OpenSpec.ofChange wakeServesSpec)

/-- ITS FALSE NEIGHBOUR: 'it returns false'. Refute it at one input. -/
def wakeServesWrong : ChangeSpec := { name := "wakeServes", fn := fun _ => fun
  | [d1, d2, d3, d4] => { results := [.lit (.bool false)], args := [d1, d2, d3, d4] }
  | _ => none }
def WakeServesWrongFalsely : Prop := wakeServesRow.holds Try.pinned (OpenSpec.ofChange wakeServesWrong)

/-- 'clepsydralaw30.WakeOrder': WHATEVER THE INPUT: true; the input reads as it did. -/
def wakeOrderSpec : ChangeSpec := { name := "wakeOrder", fn := fun _ => fun
  | [d1, d2, d3, d4] => { results := [.lit (.bool true)], args := [d1, d2, d3, d4] }
  | _ => none }
def wakeOrderRow : OpenClaim := { program := "ytifeepkknlglbaa", sum := "fedb937255210ae9c290891a503d9d4d85d629488bdd513b4cdc40a3c72f4ad1", func := "clepsydra/clepsydralaw30.WakeOrder", spec := "wakeOrder", unfollowed := true, recurses := true, apart := false }
def WakeOrderSaid : Prop := wakeOrderRow.holds Try.pinned (OpenSpec.ofChange wakeOrderSpec)

/-- ITS FALSE NEIGHBOUR: 'it returns false'. Refute it at one input. -/
def wakeOrderWrong : ChangeSpec := { name := "wakeOrder", fn := fun _ => fun
  | [d1, d2, d3, d4] => { results := [.lit (.bool false)], args := [d1, d2, d3, d4] }
  | _ => none }
def WakeOrderWrongFalsely : Prop := wakeOrderRow.holds Try.pinned (OpenSpec.ofChange wakeOrderWrong)

/-- 'clepsydralaw30.WakeBoth': WHATEVER THE INPUT: true; the input reads as it did. -/
def wakeBothSpec : ChangeSpec := { name := "wakeBoth", fn := fun _ => fun
  | [d1, d2, d3, d4] => { results := [.lit (.bool true)], args := [d1, d2, d3, d4] }
  | _ => none }
def wakeBothRow : OpenClaim := { program := "ytifeepkknlglbaa", sum := "fedb937255210ae9c290891a503d9d4d85d629488bdd513b4cdc40a3c72f4ad1", func := "clepsydra/clepsydralaw30.WakeBoth", spec := "wakeBoth", unfollowed := true, recurses := true, apart := false }
def WakeBothSaid : Prop := wakeBothRow.holds Try.pinned (OpenSpec.ofChange wakeBothSpec)

/-- ITS FALSE NEIGHBOUR: 'it returns false'. Refute it at one input. -/
def wakeBothWrong : ChangeSpec := { name := "wakeBoth", fn := fun _ => fun
  | [d1, d2, d3, d4] => { results := [.lit (.bool false)], args := [d1, d2, d3, d4] }
  | _ => none }
def WakeBothWrongFalsely : Prop := wakeBothRow.holds Try.pinned (OpenSpec.ofChange wakeBothWrong)

/-- 'clepsydralaw30.WakeKnown': WHATEVER THE INPUT: true; the input reads as it did. -/
def wakeKnownSpec : ChangeSpec := { name := "wakeKnown", fn := fun _ => fun
  | [] => { results := [.lit (.bool true)], args := [] }
  | _ => none }
def wakeKnownRow : OpenClaim := { program := "ytifeepkknlglbaa", sum := "fedb937255210ae9c290891a503d9d4d85d629488bdd513b4cdc40a3c72f4ad1", func := "clepsydra/clepsydralaw30.WakeKnown", spec := "wakeKnown", unfollowed := true, recurses := true, apart := false }
def WakeKnownSaid : Prop := wakeKnownRow.holds Try.pinned (OpenSpec.ofChange wakeKnownSpec)

/-- ITS FALSE NEIGHBOUR: 'it returns false'. Refute it at one input. -/
def wakeKnownWrong : ChangeSpec := { name := "wakeKnown", fn := fun _ => fun
  | [] => { results := [.lit (.bool false)], args := [] }
  | _ => none }
def WakeKnownWrongFalsely : Prop := wakeKnownRow.holds Try.pinned (OpenSpec.ofChange wakeKnownWrong)

/- THE SECOND FORM. 'bulk': how many values and letters a reading holds, each counted each time it is reached (what is shared counts as often as it is met; a slice's spare places count too). A statement '..UptoSaid' is the law's where the arguments, and the package variables that the reading takes, are together of bulk at most 1048576: NARROWER than '..Said'. Prove '..Said' where nothing that the law and all that it calls make is longer than what came in: it says more and counts as full. Else prove '..UptoSaid'. A law counts once. -/
mutual
def uptoBulk {H : Type} : DataW H → Nat
  | .lit (.string bytes) => bytes.length + 1
  | .lit _ => 1
  | .nil => 1
  | .ptr d => uptoBulk d + 1
  | .slice elems spare => uptoBulkAll elems + uptoBulkAll spare + 1
  | .agg parts => uptoBulkAll parts + 1
  | .iface _ d => uptoBulk d + 1
  | .map entries => uptoBulkEntries entries + 1
  | .held _ => 1
def uptoBulkAll {H : Type} : List (DataW H) → Nat
  | [] => 0
  | d :: r => uptoBulk d + uptoBulkAll r
def uptoBulkEntries {H : Type} : List (Lit × DataW H) → Nat
  | [] => 0
  | x :: r => uptoBulkEntry x + uptoBulkEntries r
def uptoBulkEntry {H : Type} : Lit × DataW H → Nat
  | (.string bytes, d) => bytes.length + uptoBulk d + 1
  | (_, d) => uptoBulk d + 1
 end
def uptoSmall : (H : Type) → List (DataW H) → Bool := fun _ ds => decide (uptoBulkAll ds ≤ 1048576)
def OpenSpec.upto (s : _root_.Go.ChangeSpec) : _root_.Go.OpenSpec := { _root_.Go.OpenSpec.ofChange s with cond := some uptoSmall }

/-- 'clepsydralaw30.WakeAsk', WHERE WHAT IT READS IS OF BULK AT MOST 1048576: true; the input reads as it did. -/
def wakeAskUptoRow : OpenClaim := { program := "ytifeepkknlglbaa", sum := "fedb937255210ae9c290891a503d9d4d85d629488bdd513b4cdc40a3c72f4ad1", func := "clepsydra/clepsydralaw30.WakeAsk", spec := "wakeAsk", unfollowed := true, recurses := true, apart := false, narrowed := true }
def WakeAskUptoSaid : Prop := wakeAskUptoRow.holds Try.pinned (OpenSpec.upto wakeAskSpec)

/-- 'clepsydralaw30.WakeServes', WHERE WHAT IT READS IS OF BULK AT MOST 1048576: true; the input reads as it did. -/
def wakeServesUptoRow : OpenClaim := { program := "ytifeepkknlglbaa", sum := "fedb937255210ae9c290891a503d9d4d85d629488bdd513b4cdc40a3c72f4ad1", func := "clepsydra/clepsydralaw30.WakeServes", spec := "wakeServes", unfollowed := true, recurses := true, apart := false, narrowed := true }
def WakeServesUptoSaid : Prop := wakeServesUptoRow.holds Try.pinned (OpenSpec.upto wakeServesSpec)

/-- 'clepsydralaw30.WakeOrder', WHERE WHAT IT READS IS OF BULK AT MOST 1048576: true; the input reads as it did. -/
def wakeOrderUptoRow : OpenClaim := { program := "ytifeepkknlglbaa", sum := "fedb937255210ae9c290891a503d9d4d85d629488bdd513b4cdc40a3c72f4ad1", func := "clepsydra/clepsydralaw30.WakeOrder", spec := "wakeOrder", unfollowed := true, recurses := true, apart := false, narrowed := true }
def WakeOrderUptoSaid : Prop := wakeOrderUptoRow.holds Try.pinned (OpenSpec.upto wakeOrderSpec)

/-- 'clepsydralaw30.WakeBoth', WHERE WHAT IT READS IS OF BULK AT MOST 1048576: true; the input reads as it did. -/
def wakeBothUptoRow : OpenClaim := { program := "ytifeepkknlglbaa", sum := "fedb937255210ae9c290891a503d9d4d85d629488bdd513b4cdc40a3c72f4ad1", func := "clepsydra/clepsydralaw30.WakeBoth", spec := "wakeBoth", unfollowed := true, recurses := true, apart := false, narrowed := true }
def WakeBothUptoSaid : Prop := wakeBothUptoRow.holds Try.pinned (OpenSpec.upto wakeBothSpec)

/-- 'clepsydralaw30.WakeKnown', WHERE WHAT IT READS IS OF BULK AT MOST 1048576: true; the input reads as it did. -/
def wakeKnownUptoRow : OpenClaim := { program := "ytifeepkknlglbaa", sum := "fedb937255210ae9c290891a503d9d4d85d629488bdd513b4cdc40a3c72f4ad1", func := "clepsydra/clepsydralaw30.WakeKnown", spec := "wakeKnown", unfollowed := true, recurses := true, apart := false, narrowed := true }
def WakeKnownUptoSaid : Prop := wakeKnownUptoRow.holds Try.pinned (OpenSpec.upto wakeKnownSpec)

end Rows
end Go.Proofs.Ytifeepkknlglbaa
