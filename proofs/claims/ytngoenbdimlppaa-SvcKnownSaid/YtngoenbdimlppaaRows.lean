/-
  No cell of these rows narrows 'for every input' (looked for: loops, veiled, ifaces, maps, wideKeys, modest, calm, conditions, laid).
  DERIVED. THE GIVEN ROWS OF THIS SEAT. 5 by the template 'for every input the law returns true; each argument reads behind the call as it read before'; 0 by the template 'total and deterministic' (their statements: YtngoenbdimlppaaTotals.lean).
  GIVEN WITH THE SEED: the statements are not yours to turn. If you find one false, say at which input.
  Laid BY PROGRAM, IN A SANDBOX (cutbox-rows.mjs): the forced cells as the released guide's own fill.sh prints them over the translation 1e216f21eb38447a… (all of the seat's roots in one cut). By AI agents, Wed Nov 11 2026. No macro, syntax, notation, axiom, sorry.
-/
import Derived.Test.YtngoenbdimlppaaChecked
import GoSem.Claim
import GoSem.ClaimJoined
import GoSem.ClaimMapViews
import Derived.JoinedTies
import Derived.KernelRfl
namespace Go.Proofs.Ytngoenbdimlppaa
/- THE CELL 'sum', in the pinned program and in every row, IS THE sha256 OF THE DUMP (.gsa) THAT YtngoenbdimlppaaProg.lean LOADS. Nothing in Lean hashes anything: it is a label: what it is worth is what the hold of that sum in a sandbox is worth. -/
noncomputable def Try.pinned : Pinned := { name := "ytngoenbdimlppaa", sum := "1e216f21eb38447a7b2ae2ae0409acc033f50e98bdcf56cc03febf4552042430", checked := Try.checked }
namespace Rows
def none {H : Type} : Left H := { results := [], args := [] }

/-- 'clepsydralaw26.SvcKnown': WHATEVER THE INPUT: true; the input reads as it did. -/
def svcKnownSpec : ChangeSpec := { name := "svcKnown", fn := fun _ => fun
  | [] => { results := [.lit (.bool true)], args := [] }
  | _ => none }
def svcKnownRow : OpenClaim := { program := "ytngoenbdimlppaa", sum := "1e216f21eb38447a7b2ae2ae0409acc033f50e98bdcf56cc03febf4552042430", func := "clepsydra/clepsydralaw26.SvcKnown", spec := "svcKnown", unfollowed := true, recurses := true, plainKeys := false, apart := false }
def SvcKnownSaid : Prop := svcKnownRow.holds Try.pinned (OpenSpec.ofChange svcKnownSpec)

/-- ITS FALSE NEIGHBOUR: 'it returns false'. Refute it at one input. -/
def svcKnownWrong : ChangeSpec := { name := "svcKnown", fn := fun _ => fun
  | [] => { results := [.lit (.bool false)], args := [] }
  | _ => none }
def SvcKnownWrongFalsely : Prop := svcKnownRow.holds Try.pinned (OpenSpec.ofChange svcKnownWrong)

/-- 'clepsydralaw26.SvcEarly': WHATEVER THE INPUT: true; the input reads as it did. -/
def svcEarlySpec : ChangeSpec := { name := "svcEarly", fn := fun _ => fun
  | [d1, d2, d3] => { results := [.lit (.bool true)], args := [d1, d2, d3] }
  | _ => none }
def svcEarlyRow : OpenClaim := { program := "ytngoenbdimlppaa", sum := "1e216f21eb38447a7b2ae2ae0409acc033f50e98bdcf56cc03febf4552042430", func := "clepsydra/clepsydralaw26.SvcEarly", spec := "svcEarly", unfollowed := true, recurses := true, plainKeys := false, apart := false }
def SvcEarlySaid : Prop := svcEarlyRow.holds Try.pinned (OpenSpec.ofChange svcEarlySpec)

/-- ITS FALSE NEIGHBOUR: 'it returns false'. Refute it at one input. -/
def svcEarlyWrong : ChangeSpec := { name := "svcEarly", fn := fun _ => fun
  | [d1, d2, d3] => { results := [.lit (.bool false)], args := [d1, d2, d3] }
  | _ => none }
def SvcEarlyWrongFalsely : Prop := svcEarlyRow.holds Try.pinned (OpenSpec.ofChange svcEarlyWrong)

/-- 'clepsydralaw26.SvcResults': WHATEVER THE INPUT: true; the input reads as it did. -/
def svcResultsSpec : ChangeSpec := { name := "svcResults", fn := fun _ => fun
  | [d1, d2, d3, d4] => { results := [.lit (.bool true)], args := [d1, d2, d3, d4] }
  | _ => none }
def svcResultsRow : OpenClaim := { program := "ytngoenbdimlppaa", sum := "1e216f21eb38447a7b2ae2ae0409acc033f50e98bdcf56cc03febf4552042430", func := "clepsydra/clepsydralaw26.SvcResults", spec := "svcResults", unfollowed := true, recurses := true, plainKeys := false, apart := false }
def SvcResultsSaid : Prop := svcResultsRow.holds Try.pinned (OpenSpec.ofChange svcResultsSpec)

/-- ITS FALSE NEIGHBOUR: 'it returns false'. Refute it at one input. -/
def svcResultsWrong : ChangeSpec := { name := "svcResults", fn := fun _ => fun
  | [d1, d2, d3, d4] => { results := [.lit (.bool false)], args := [d1, d2, d3, d4] }
  | _ => none }
def SvcResultsWrongFalsely : Prop := svcResultsRow.holds Try.pinned (OpenSpec.ofChange svcResultsWrong)

/-- 'clepsydralaw26.SvcStops': WHATEVER THE INPUT: true; the input reads as it did. -/
def svcStopsSpec : ChangeSpec := { name := "svcStops", fn := fun _ => fun
  | [d1, d2, d3, d4] => { results := [.lit (.bool true)], args := [d1, d2, d3, d4] }
  | _ => none }
def svcStopsRow : OpenClaim := { program := "ytngoenbdimlppaa", sum := "1e216f21eb38447a7b2ae2ae0409acc033f50e98bdcf56cc03febf4552042430", func := "clepsydra/clepsydralaw26.SvcStops", spec := "svcStops", unfollowed := true, recurses := true, plainKeys := false, apart := false }
def SvcStopsSaid : Prop := svcStopsRow.holds Try.pinned (OpenSpec.ofChange svcStopsSpec)

/-- ITS FALSE NEIGHBOUR: 'it returns false'. Refute it at one input. -/
def svcStopsWrong : ChangeSpec := { name := "svcStops", fn := fun _ => fun
  | [d1, d2, d3, d4] => { results := [.lit (.bool false)], args := [d1, d2, d3, d4] }
  | _ => none }
def SvcStopsWrongFalsely : Prop := svcStopsRow.holds Try.pinned (OpenSpec.ofChange svcStopsWrong)

/-- 'clepsydralaw26.SvcProcess': WHATEVER THE INPUT: true; the input reads as it did. -/
def svcProcessSpec : ChangeSpec := { name := "svcProcess", fn := fun _ => fun
  | [d1, d2] => { results := [.lit (.bool true)], args := [d1, d2] }
  | _ => none }
def svcProcessRow : OpenClaim := { program := "ytngoenbdimlppaa", sum := "1e216f21eb38447a7b2ae2ae0409acc033f50e98bdcf56cc03febf4552042430", func := "clepsydra/clepsydralaw26.SvcProcess", spec := "svcProcess", unfollowed := true, recurses := true, plainKeys := false, apart := false }
def SvcProcessSaid : Prop := svcProcessRow.holds Try.pinned (OpenSpec.ofChange svcProcessSpec)

/-- ITS FALSE NEIGHBOUR: 'it returns false'. Refute it at one input. -/
def svcProcessWrong : ChangeSpec := { name := "svcProcess", fn := fun _ => fun
  | [d1, d2] => { results := [.lit (.bool false)], args := [d1, d2] }
  | _ => none }
def SvcProcessWrongFalsely : Prop := svcProcessRow.holds Try.pinned (OpenSpec.ofChange svcProcessWrong)

/- THE SECOND FORM. 'bulk': how many values and letters a reading holds, each counted each time it is reached (what is shared counts as often as it is met; a slice's spare places count too). A statement '..UptoSaid' is the law's where the arguments, and the package variables that the reading takes, are together of bulk at most 1048576: NARROWER than '..Said'. Prove '..Said' where nothing that the law and all that it calls make is longer than what came in: it says more and counts as full. Else prove '..UptoSaid'. A law counts once. -/
mutual
def uptoBulk {H : Type} : DataW H → Nat
  | .lit (.string bytes) => bytes.length + 1
  | .lit _ => 1
  | .nil => 1
  | .ptr d => uptoBulk d + 1
  | .slice elems spare => uptoBulkAll elems + uptoBulkAll spare + 1
  | .agg parts => uptoBulkAll parts + 1
  | .iface _ d => uptoBulk d + 1
  | .map entries => uptoBulkEntries entries + 1
  | .held _ => 1
def uptoBulkAll {H : Type} : List (DataW H) → Nat
  | [] => 0
  | d :: r => uptoBulk d + uptoBulkAll r
def uptoBulkEntries {H : Type} : List (Lit × DataW H) → Nat
  | [] => 0
  | x :: r => uptoBulkEntry x + uptoBulkEntries r
def uptoBulkEntry {H : Type} : Lit × DataW H → Nat
  | (.string bytes, d) => bytes.length + uptoBulk d + 1
  | (_, d) => uptoBulk d + 1
 end
def uptoSmall : (H : Type) → List (DataW H) → Bool := fun _ ds => decide (uptoBulkAll ds ≤ 1048576)
def OpenSpec.upto (s : _root_.Go.ChangeSpec) : _root_.Go.OpenSpec := { _root_.Go.OpenSpec.ofChange s with cond := some uptoSmall }

/-- 'clepsydralaw26.SvcKnown', WHERE WHAT IT READS IS OF BULK AT MOST 1048576: true; the input reads as it did. -/
def svcKnownUptoRow : OpenClaim := { program := "ytngoenbdimlppaa", sum := "1e216f21eb38447a7b2ae2ae0409acc033f50e98bdcf56cc03febf4552042430", func := "clepsydra/clepsydralaw26.SvcKnown", spec := "svcKnown", unfollowed := true, recurses := true, plainKeys := false, apart := false, narrowed := true }
def SvcKnownUptoSaid : Prop := svcKnownUptoRow.holds Try.pinned (OpenSpec.upto svcKnownSpec)

/-- 'clepsydralaw26.SvcEarly', WHERE WHAT IT READS IS OF BULK AT MOST 1048576: true; the input reads as it did. -/
def svcEarlyUptoRow : OpenClaim := { program := "ytngoenbdimlppaa", sum := "1e216f21eb38447a7b2ae2ae0409acc033f50e98bdcf56cc03febf4552042430", func := "clepsydra/clepsydralaw26.SvcEarly", spec := "svcEarly", unfollowed := true, recurses := true, plainKeys := false, apart := false, narrowed := true }
def SvcEarlyUptoSaid : Prop := svcEarlyUptoRow.holds Try.pinned (OpenSpec.upto svcEarlySpec)

/-- 'clepsydralaw26.SvcResults', WHERE WHAT IT READS IS OF BULK AT MOST 1048576: true; the input reads as it did. -/
def svcResultsUptoRow : OpenClaim := { program := "ytngoenbdimlppaa", sum := "1e216f21eb38447a7b2ae2ae0409acc033f50e98bdcf56cc03febf4552042430", func := "clepsydra/clepsydralaw26.SvcResults", spec := "svcResults", unfollowed := true, recurses := true, plainKeys := false, apart := false, narrowed := true }
def SvcResultsUptoSaid : Prop := svcResultsUptoRow.holds Try.pinned (OpenSpec.upto svcResultsSpec)

/-- 'clepsydralaw26.SvcStops', WHERE WHAT IT READS IS OF BULK AT MOST 1048576: true; the input reads as it did. -/
def svcStopsUptoRow : OpenClaim := { program := "ytngoenbdimlppaa", sum := "1e216f21eb38447a7b2ae2ae0409acc033f50e98bdcf56cc03febf4552042430", func := "clepsydra/clepsydralaw26.SvcStops", spec := "svcStops", unfollowed := true, recurses := true, plainKeys := false, apart := false, narrowed := true }
def SvcStopsUptoSaid : Prop := svcStopsUptoRow.holds Try.pinned (OpenSpec.upto svcStopsSpec)

/-- 'clepsydralaw26.SvcProcess', WHERE WHAT IT READS IS OF BULK AT MOST 1048576: true; the input reads as it did. -/
def svcProcessUptoRow : OpenClaim := { program := "ytngoenbdimlppaa", sum := "1e216f21eb38447a7b2ae2ae0409acc033f50e98bdcf56cc03febf4552042430", func := "clepsydra/clepsydralaw26.SvcProcess", spec := "svcProcess", unfollowed := true, recurses := true, plainKeys := false, apart := false, narrowed := true }
def SvcProcessUptoSaid : Prop := svcProcessUptoRow.holds Try.pinned (OpenSpec.upto svcProcessSpec)

end Rows
end Go.Proofs.Ytngoenbdimlppaa
