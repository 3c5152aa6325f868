/-
  No cell of these rows narrows 'for every input' (looked for: loops, veiled, ifaces, maps, wideKeys, modest, calm, conditions, laid).
  DERIVED. THE GIVEN ROWS OF THIS SEAT. 5 by the template 'for every input the law returns true; each argument reads behind the call as it read before'; 0 by the template 'total and deterministic' (their statements: YteceacbnfgjkfaaTotals.lean).
  GIVEN WITH THE SEED: the statements are not yours to turn. If you find one false, say at which input.
  Laid BY PROGRAM, IN A SANDBOX (cutbox-rows.mjs): the forced cells as the released guide's own fill.sh prints them over the translation 2a80b536647d23be… (all of the seat's roots in one cut). By AI agents, Wed Nov 11 2026. No macro, syntax, notation, axiom, sorry.
-/
import Derived.Test.YteceacbnfgjkfaaChecked
import GoSem.Claim
import GoSem.ClaimJoined
import GoSem.ClaimMapViews
import Derived.JoinedTies
import Derived.KernelRfl
namespace Go.Proofs.Yteceacbnfgjkfaa
/- THE CELL 'sum', in the pinned program and in every row, IS THE sha256 OF THE DUMP (.gsa) THAT YteceacbnfgjkfaaProg.lean LOADS. Nothing in Lean hashes anything: it is a label: what it is worth is what the hold of that sum in a sandbox is worth. -/
noncomputable def Try.pinned : Pinned := { name := "yteceacbnfgjkfaa", sum := "2a80b536647d23becda53a742e644f5fd61a8f5803b7e4f965df671be7e61d0b", checked := Try.checked }
namespace Rows
def none {H : Type} : Left H := { results := [], args := [] }

/-- 'clepsydralaw27.RateStart': WHATEVER THE INPUT: true; the input reads as it did. -/
def rateStartSpec : ChangeSpec := { name := "rateStart", fn := fun _ => fun
  | [d1, d2, d3, d4, d5] => { results := [.lit (.bool true)], args := [d1, d2, d3, d4, d5] }
  | _ => none }
def rateStartRow : OpenClaim := { program := "yteceacbnfgjkfaa", sum := "2a80b536647d23becda53a742e644f5fd61a8f5803b7e4f965df671be7e61d0b", func := "clepsydra/clepsydralaw27.RateStart", spec := "rateStart", unfollowed := true, recurses := true, apart := false }
def RateStartSaid : Prop := rateStartRow.holds Try.pinned (OpenSpec.ofChange rateStartSpec)

/-- ITS FALSE NEIGHBOUR: 'it returns false'. Refute it at one input. -/
def rateStartWrong : ChangeSpec := { name := "rateStart", fn := fun _ => fun
  | [d1, d2, d3, d4, d5] => { results := [.lit (.bool false)], args := [d1, d2, d3, d4, d5] }
  | _ => none }
def RateStartWrongFalsely : Prop := rateStartRow.holds Try.pinned (OpenSpec.ofChange rateStartWrong)

/-- 'clepsydralaw27.RateWindows': WHATEVER THE INPUT: true; the input reads as it did. -/
def rateWindowsSpec : ChangeSpec := { name := "rateWindows", fn := fun _ => fun
  | [d1, d2, d3, d4] => { results := [.lit (.bool true)], args := [d1, d2, d3, d4] }
  | _ => none }
def rateWindowsRow : OpenClaim := { program := "yteceacbnfgjkfaa", sum := "2a80b536647d23becda53a742e644f5fd61a8f5803b7e4f965df671be7e61d0b", func := "clepsydra/clepsydralaw27.RateWindows", spec := "rateWindows", unfollowed := true, recurses := true, apart := false }
def RateWindowsSaid : Prop := rateWindowsRow.holds Try.pinned (OpenSpec.ofChange rateWindowsSpec)

/-- ITS FALSE NEIGHBOUR: 'it returns false'. Refute it at one input. -/
def rateWindowsWrong : ChangeSpec := { name := "rateWindows", fn := fun _ => fun
  | [d1, d2, d3, d4] => { results := [.lit (.bool false)], args := [d1, d2, d3, d4] }
  | _ => none }
def RateWindowsWrongFalsely : Prop := rateWindowsRow.holds Try.pinned (OpenSpec.ofChange rateWindowsWrong)

/-- 'clepsydralaw27.RateNext': WHATEVER THE INPUT: true; the input reads as it did. -/
def rateNextSpec : ChangeSpec := { name := "rateNext", fn := fun _ => fun
  | [d1, d2, d3, d4, d5] => { results := [.lit (.bool true)], args := [d1, d2, d3, d4, d5] }
  | _ => none }
def rateNextRow : OpenClaim := { program := "yteceacbnfgjkfaa", sum := "2a80b536647d23becda53a742e644f5fd61a8f5803b7e4f965df671be7e61d0b", func := "clepsydra/clepsydralaw27.RateNext", spec := "rateNext", unfollowed := true, recurses := true, apart := false }
def RateNextSaid : Prop := rateNextRow.holds Try.pinned (OpenSpec.ofChange rateNextSpec)

/-- ITS FALSE NEIGHBOUR: 'it returns false'. Refute it at one input. -/
def rateNextWrong : ChangeSpec := { name := "rateNext", fn := fun _ => fun
  | [d1, d2, d3, d4, d5] => { results := [.lit (.bool false)], args := [d1, d2, d3, d4, d5] }
  | _ => none }
def RateNextWrongFalsely : Prop := rateNextRow.holds Try.pinned (OpenSpec.ofChange rateNextWrong)

/-- 'clepsydralaw27.RateKnown': WHATEVER THE INPUT: true; the input reads as it did. -/
def rateKnownSpec : ChangeSpec := { name := "rateKnown", fn := fun _ => fun
  | [] => { results := [.lit (.bool true)], args := [] }
  | _ => none }
def rateKnownRow : OpenClaim := { program := "yteceacbnfgjkfaa", sum := "2a80b536647d23becda53a742e644f5fd61a8f5803b7e4f965df671be7e61d0b", func := "clepsydra/clepsydralaw27.RateKnown", spec := "rateKnown", unfollowed := true, recurses := true, apart := false }
def RateKnownSaid : Prop := rateKnownRow.holds Try.pinned (OpenSpec.ofChange rateKnownSpec)

/-- ITS FALSE NEIGHBOUR: 'it returns false'. Refute it at one input. -/
def rateKnownWrong : ChangeSpec := { name := "rateKnown", fn := fun _ => fun
  | [] => { results := [.lit (.bool false)], args := [] }
  | _ => none }
def RateKnownWrongFalsely : Prop := rateKnownRow.holds Try.pinned (OpenSpec.ofChange rateKnownWrong)

/-- 'clepsydralaw27.RateApart': WHATEVER THE INPUT: true; the input reads as it did. -/
def rateApartSpec : ChangeSpec := { name := "rateApart", fn := fun _ => fun
  | [d1, d2, d3, d4] => { results := [.lit (.bool true)], args := [d1, d2, d3, d4] }
  | _ => none }
def rateApartRow : OpenClaim := { program := "yteceacbnfgjkfaa", sum := "2a80b536647d23becda53a742e644f5fd61a8f5803b7e4f965df671be7e61d0b", func := "clepsydra/clepsydralaw27.RateApart", spec := "rateApart", unfollowed := true, recurses := true, apart := false }
def RateApartSaid : Prop := rateApartRow.holds Try.pinned (OpenSpec.ofChange rateApartSpec)

/-- ITS FALSE NEIGHBOUR: 'it returns false'. Refute it at one input. -/
def rateApartWrong : ChangeSpec := { name := "rateApart", fn := fun _ => fun
  | [d1, d2, d3, d4] => { results := [.lit (.bool false)], args := [d1, d2, d3, d4] }
  | _ => none }
def RateApartWrongFalsely : Prop := rateApartRow.holds Try.pinned (OpenSpec.ofChange rateApartWrong)

/- THE SECOND FORM. 'bulk': how many values and letters a reading holds, each counted each time it is reached (what is shared counts as often as it is met; a slice's spare places count too). A statement '..UptoSaid' is the law's where the arguments, and the package variables that the reading takes, are together of bulk at most 1048576: NARROWER than '..Said'. Prove '..Said' where nothing that the law and all that it calls make is longer than what came in: it says more and counts as full. Else prove '..UptoSaid'. A law counts once. -/
mutual
def uptoBulk {H : Type} : DataW H → Nat
  | .lit (.string bytes) => bytes.length + 1
  | .lit _ => 1
  | .nil => 1
  | .ptr d => uptoBulk d + 1
  | .slice elems spare => uptoBulkAll elems + uptoBulkAll spare + 1
  | .agg parts => uptoBulkAll parts + 1
  | .iface _ d => uptoBulk d + 1
  | .map entries => uptoBulkEntries entries + 1
  | .held _ => 1
def uptoBulkAll {H : Type} : List (DataW H) → Nat
  | [] => 0
  | d :: r => uptoBulk d + uptoBulkAll r
def uptoBulkEntries {H : Type} : List (Lit × DataW H) → Nat
  | [] => 0
  | x :: r => uptoBulkEntry x + uptoBulkEntries r
def uptoBulkEntry {H : Type} : Lit × DataW H → Nat
  | (.string bytes, d) => bytes.length + uptoBulk d + 1
  | (_, d) => uptoBulk d + 1
 end
def uptoSmall : (H : Type) → List (DataW H) → Bool := fun _ ds => decide (uptoBulkAll ds ≤ 1048576)
def OpenSpec.upto (s : _root_.Go.ChangeSpec) : _root_.Go.OpenSpec := { _root_.Go.OpenSpec.ofChange s with cond := some uptoSmall }

/-- 'clepsydralaw27.RateStart', WHERE WHAT IT READS IS OF BULK AT MOST 1048576: true; the input reads as it did. -/
def rateStartUptoRow : OpenClaim := { program := "yteceacbnfgjkfaa", sum := "2a80b536647d23becda53a742e644f5fd61a8f5803b7e4f965df671be7e61d0b", func := "clepsydra/clepsydralaw27.RateStart", spec := "rateStart", unfollowed := true, recurses := true, apart := false, narrowed := true }
def RateStartUptoSaid : Prop := rateStartUptoRow.holds Try.pinned (OpenSpec.upto rateStartSpec)

/-- 'clepsydralaw27.RateWindows', WHERE WHAT IT READS IS OF BULK AT MOST 1048576: true; the input reads as it did. -/
def rateWindowsUptoRow : OpenClaim := { program := "yteceacbnfgjkfaa", sum := "2a80b536647d23becda53a742e644f5fd61a8f5803b7e4f965df671be7e61d0b", func := "clepsydra/clepsydralaw27.RateWindows", spec := "rateWindows", unfollowed := true, recurses := true, apart := false, narrowed := true }
def RateWindowsUptoSaid : Prop := rateWindowsUptoRow.holds Try.pinned (OpenSpec.upto rateWindowsSpec)

/-- 'clepsydralaw27.RateNext', WHERE WHAT IT READS IS OF BULK AT MOST 1048576: true; the input reads as it did. -/
def rateNextUptoRow : OpenClaim := { program := "yteceacbnfgjkfaa", sum := "2a80b536647d23becda53a742e644f5fd61a8f5803b7e4f965df671be7e61d0b", func := "clepsydra/clepsydralaw27.RateNext", spec := "rateNext", unfollowed := true, recurses := true, apart := false, narrowed := true }
def RateNextUptoSaid : Prop := rateNextUptoRow.holds Try.pinned (OpenSpec.upto rateNextSpec)

/-- 'clepsydralaw27.RateKnown', WHERE WHAT IT READS IS OF BULK AT MOST 1048576: true; the input reads as it did. -/
def rateKnownUptoRow : OpenClaim := { program := "yteceacbnfgjkfaa", sum := "2a80b536647d23becda53a742e644f5fd61a8f5803b7e4f965df671be7e61d0b", func := "clepsydra/clepsydralaw27.RateKnown", spec := "rateKnown", unfollowed := true, recurses := true, apart := false, narrowed := true }
def RateKnownUptoSaid : Prop := rateKnownUptoRow.holds Try.pinned (OpenSpec.upto rateKnownSpec)

/-- 'clepsydralaw27.RateApart', WHERE WHAT IT READS IS OF BULK AT MOST 1048576: true; the input reads as it did. -/
def rateApartUptoRow : OpenClaim := { program := "yteceacbnfgjkfaa", sum := "2a80b536647d23becda53a742e644f5fd61a8f5803b7e4f965df671be7e61d0b", func := "clepsydra/clepsydralaw27.RateApart", spec := "rateApart", unfollowed := true, recurses := true, apart := false, narrowed := true }
def RateApartUptoSaid : Prop := rateApartUptoRow.holds Try.pinned (OpenSpec.upto rateApartSpec)

end Rows
end Go.Proofs.Yteceacbnfgjkfaa
