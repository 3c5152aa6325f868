/-
  No cell of these rows narrows 'for every input' (looked for: loops, veiled, ifaces, maps, wideKeys, modest, calm, conditions, laid).
  DERIVED. THE GIVEN ROWS OF THIS SEAT. 6 by the template 'for every input the law returns true; each argument reads behind the call as it read before'; 0 by the template 'total and deterministic' (their statements: YtbegglmcbcepeaaTotals.lean).
  GIVEN WITH THE SEED: the statements are not yours to turn. If you find one false, say at which input.
  Laid BY PROGRAM, IN A SANDBOX (cutbox-rows.mjs): the forced cells as the released guide's own fill.sh prints them over the translation 9b26d36d1f478739… (all of the seat's roots in one cut). By AI agents, Wed Nov 11 2026. No macro, syntax, notation, axiom, sorry.
-/
import Derived.Test.YtbegglmcbcepeaaChecked
import GoSem.Claim
import GoSem.ClaimJoined
import GoSem.ClaimMapViews
import Derived.JoinedTies
import Derived.KernelRfl
namespace Go.Proofs.Ytbegglmcbcepeaa
/- THE CELL 'sum', in the pinned program and in every row, IS THE sha256 OF THE DUMP (.gsa) THAT YtbegglmcbcepeaaProg.lean LOADS. Nothing in Lean hashes anything: it is a label: what it is worth is what the hold of that sum in a sandbox is worth. -/
noncomputable def Try.pinned : Pinned := { name := "ytbegglmcbcepeaa", sum := "9b26d36d1f47873991d1f836bfd8158caa73e5c681ee01130c720fe8c5c0cf5a", checked := Try.checked }
namespace Rows
def none {H : Type} : Left H := { results := [], args := [] }

/-- 'clepsydralaw01.UsecDiv': WHATEVER THE INPUT: true; the input reads as it did. -/
def usecDivSpec : ChangeSpec := { name := "usecDiv", fn := fun _ => fun
  | [d1, d2] => { results := [.lit (.bool true)], args := [d1, d2] }
  | _ => none }
def usecDivRow : OpenClaim := { program := "ytbegglmcbcepeaa", sum := "9b26d36d1f47873991d1f836bfd8158caa73e5c681ee01130c720fe8c5c0cf5a", func := "clepsydra/clepsydralaw01.UsecDiv", spec := "usecDiv", apart := false }
def UsecDivSaid : Prop := usecDivRow.holds Try.pinned (OpenSpec.ofChange usecDivSpec)

/-- ITS FALSE NEIGHBOUR: 'it returns false'. Refute it at one input. -/
def usecDivWrong : ChangeSpec := { name := "usecDiv", fn := fun _ => fun
  | [d1, d2] => { results := [.lit (.bool false)], args := [d1, d2] }
  | _ => none }
def UsecDivWrongFalsely : Prop := usecDivRow.holds Try.pinned (OpenSpec.ofChange usecDivWrong)

/-- 'clepsydralaw01.UsecClamp': WHATEVER THE INPUT: true; the input reads as it did. -/
def usecClampSpec : ChangeSpec := { name := "usecClamp", fn := fun _ => fun
  | [d1, d2, d3, d4] => { results := [.lit (.bool true)], args := [d1, d2, d3, d4] }
  | _ => none }
def usecClampRow : OpenClaim := { program := "ytbegglmcbcepeaa", sum := "9b26d36d1f47873991d1f836bfd8158caa73e5c681ee01130c720fe8c5c0cf5a", func := "clepsydra/clepsydralaw01.UsecClamp", spec := "usecClamp", apart := false }
def UsecClampSaid : Prop := usecClampRow.holds Try.pinned (OpenSpec.ofChange usecClampSpec)

/-- ITS FALSE NEIGHBOUR: 'it returns false'. Refute it at one input. -/
def usecClampWrong : ChangeSpec := { name := "usecClamp", fn := fun _ => fun
  | [d1, d2, d3, d4] => { results := [.lit (.bool false)], args := [d1, d2, d3, d4] }
  | _ => none }
def UsecClampWrongFalsely : Prop := usecClampRow.holds Try.pinned (OpenSpec.ofChange usecClampWrong)

/-- 'clepsydralaw01.UsecOrder': WHATEVER THE INPUT: true; the input reads as it did. -/
def usecOrderSpec : ChangeSpec := { name := "usecOrder", fn := fun _ => fun
  | [d1, d2, d3] => { results := [.lit (.bool true)], args := [d1, d2, d3] }
  | _ => none }
def usecOrderRow : OpenClaim := { program := "ytbegglmcbcepeaa", sum := "9b26d36d1f47873991d1f836bfd8158caa73e5c681ee01130c720fe8c5c0cf5a", func := "clepsydra/clepsydralaw01.UsecOrder", spec := "usecOrder", apart := false }
def UsecOrderSaid : Prop := usecOrderRow.holds Try.pinned (OpenSpec.ofChange usecOrderSpec)

/-- ITS FALSE NEIGHBOUR: 'it returns false'. Refute it at one input. -/
def usecOrderWrong : ChangeSpec := { name := "usecOrder", fn := fun _ => fun
  | [d1, d2, d3] => { results := [.lit (.bool false)], args := [d1, d2, d3] }
  | _ => none }
def UsecOrderWrongFalsely : Prop := usecOrderRow.holds Try.pinned (OpenSpec.ofChange usecOrderWrong)

/-- 'clepsydralaw01.UsecSums': WHATEVER THE INPUT: true; the input reads as it did. -/
def usecSumsSpec : ChangeSpec := { name := "usecSums", fn := fun _ => fun
  | [d1, d2] => { results := [.lit (.bool true)], args := [d1, d2] }
  | _ => none }
def usecSumsRow : OpenClaim := { program := "ytbegglmcbcepeaa", sum := "9b26d36d1f47873991d1f836bfd8158caa73e5c681ee01130c720fe8c5c0cf5a", func := "clepsydra/clepsydralaw01.UsecSums", spec := "usecSums", apart := false }
def UsecSumsSaid : Prop := usecSumsRow.holds Try.pinned (OpenSpec.ofChange usecSumsSpec)

/-- ITS FALSE NEIGHBOUR: 'it returns false'. Refute it at one input. -/
def usecSumsWrong : ChangeSpec := { name := "usecSums", fn := fun _ => fun
  | [d1, d2] => { results := [.lit (.bool false)], args := [d1, d2] }
  | _ => none }
def UsecSumsWrongFalsely : Prop := usecSumsRow.holds Try.pinned (OpenSpec.ofChange usecSumsWrong)

/-- 'clepsydralaw01.UsecRules': WHATEVER THE INPUT: true; the input reads as it did. -/
def usecRulesSpec : ChangeSpec := { name := "usecRules", fn := fun _ => fun
  | [d1, d2, d3] => { results := [.lit (.bool true)], args := [d1, d2, d3] }
  | _ => none }
def usecRulesRow : OpenClaim := { program := "ytbegglmcbcepeaa", sum := "9b26d36d1f47873991d1f836bfd8158caa73e5c681ee01130c720fe8c5c0cf5a", func := "clepsydra/clepsydralaw01.UsecRules", spec := "usecRules", apart := false }
def UsecRulesSaid : Prop := usecRulesRow.holds Try.pinned (OpenSpec.ofChange usecRulesSpec)

/-- ITS FALSE NEIGHBOUR: 'it returns false'. Refute it at one input. -/
def usecRulesWrong : ChangeSpec := { name := "usecRules", fn := fun _ => fun
  | [d1, d2, d3] => { results := [.lit (.bool false)], args := [d1, d2, d3] }
  | _ => none }
def UsecRulesWrongFalsely : Prop := usecRulesRow.holds Try.pinned (OpenSpec.ofChange usecRulesWrong)

/-- 'clepsydralaw01.UsecKnown': WHATEVER THE INPUT: true; the input reads as it did. -/
def usecKnownSpec : ChangeSpec := { name := "usecKnown", fn := fun _ => fun
  | [] => { results := [.lit (.bool true)], args := [] }
  | _ => none }
def usecKnownRow : OpenClaim := { program := "ytbegglmcbcepeaa", sum := "9b26d36d1f47873991d1f836bfd8158caa73e5c681ee01130c720fe8c5c0cf5a", func := "clepsydra/clepsydralaw01.UsecKnown", spec := "usecKnown", apart := false }
def UsecKnownSaid : Prop := usecKnownRow.holds Try.pinned (OpenSpec.ofChange usecKnownSpec)

/-- ITS FALSE NEIGHBOUR: 'it returns false'. Refute it at one input. -/
def usecKnownWrong : ChangeSpec := { name := "usecKnown", fn := fun _ => fun
  | [] => { results := [.lit (.bool false)], args := [] }
  | _ => none }
def UsecKnownWrongFalsely : Prop := usecKnownRow.holds Try.pinned (OpenSpec.ofChange usecKnownWrong)

/- THE SECOND FORM. 'bulk': how many values and letters a reading holds, each counted each time it is reached (what is shared counts as often as it is met; a slice's spare places count too). A statement '..UptoSaid' is the law's where the arguments, and the package variables that the reading takes, are together of bulk at most 1048576: NARROWER than '..Said'. Prove '..Said' where nothing that the law and all that it calls make is longer than what came in: it says more and counts as full. Else prove '..UptoSaid'. A law counts once. -/
mutual
def uptoBulk {H : Type} : DataW H → Nat
  | .lit (.string bytes) => bytes.length + 1
  | .lit _ => 1
  | .nil => 1
  | .ptr d => uptoBulk d + 1
  | .slice elems spare => uptoBulkAll elems + uptoBulkAll spare + 1
  | .agg parts => uptoBulkAll parts + 1
  | .iface _ d => uptoBulk d + 1
  | .map entries => uptoBulkEntries entries + 1
  | .held _ => 1
def uptoBulkAll {H : Type} : List (DataW H) → Nat
  | [] => 0
  | d :: r => uptoBulk d + uptoBulkAll r
def uptoBulkEntries {H : Type} : List (Lit × DataW H) → Nat
  | [] => 0
  | x :: r => uptoBulkEntry x + uptoBulkEntries r
def uptoBulkEntry {H : Type} : Lit × DataW H → Nat
  | (.string bytes, d) => bytes.length + uptoBulk d + 1
  | (_, d) => uptoBulk d + 1
 end
def uptoSmall : (H : Type) → List (DataW H) → Bool := fun _ ds => decide (uptoBulkAll ds ≤ 1048576)
def OpenSpec.upto (s : _root_.Go.ChangeSpec) : _root_.Go.OpenSpec := { _root_.Go.OpenSpec.ofChange s with cond := some uptoSmall }

/-- 'clepsydralaw01.UsecDiv', WHERE WHAT IT READS IS OF BULK AT MOST 1048576: true; the input reads as it did. -/
def usecDivUptoRow : OpenClaim := { program := "ytbegglmcbcepeaa", sum := "9b26d36d1f47873991d1f836bfd8158caa73e5c681ee01130c720fe8c5c0cf5a", func := "clepsydra/clepsydralaw01.UsecDiv", spec := "usecDiv", apart := false, narrowed := true }
def UsecDivUptoSaid : Prop := usecDivUptoRow.holds Try.pinned (OpenSpec.upto usecDivSpec)

/-- 'clepsydralaw01.UsecClamp', WHERE WHAT IT READS IS OF BULK AT MOST 1048576: true; the input reads as it did. -/
def usecClampUptoRow : OpenClaim := { program := "ytbegglmcbcepeaa", sum := "9b26d36d1f47873991d1f836bfd8158caa73e5c681ee01130c720fe8c5c0cf5a", func := "clepsydra/clepsydralaw01.UsecClamp", spec := "usecClamp", apart := false, narrowed := true }
def UsecClampUptoSaid : Prop := usecClampUptoRow.holds Try.pinned (OpenSpec.upto usecClampSpec)

/-- 'clepsydralaw01.UsecOrder', WHERE WHAT IT READS IS OF BULK AT MOST 1048576: true; the input reads as it did. -/
def usecOrderUptoRow : OpenClaim := { program := "ytbegglmcbcepeaa", sum := "9b26d36d1f47873991d1f836bfd8158caa73e5c681ee01130c720fe8c5c0cf5a", func := "clepsydra/clepsydralaw01.UsecOrder", spec := "usecOrder", apart := false, narrowed := true }
def UsecOrderUptoSaid : Prop := usecOrderUptoRow.holds Try.pinned (OpenSpec.upto usecOrderSpec)

/-- 'clepsydralaw01.UsecSums', WHERE WHAT IT READS IS OF BULK AT MOST 1048576: true; the input reads as it did. -/
def usecSumsUptoRow : OpenClaim := { program := "ytbegglmcbcepeaa", sum := "9b26d36d1f47873991d1f836bfd8158caa73e5c681ee01130c720fe8c5c0cf5a", func := "clepsydra/clepsydralaw01.UsecSums", spec := "usecSums", apart := false, narrowed := true }
def UsecSumsUptoSaid : Prop := usecSumsUptoRow.holds Try.pinned (OpenSpec.upto usecSumsSpec)

/-- 'clepsydralaw01.UsecRules', WHERE WHAT IT READS IS OF BULK AT MOST 1048576: true; the input reads as it did. -/
def usecRulesUptoRow : OpenClaim := { program := "ytbegglmcbcepeaa", sum := "9b26d36d1f47873991d1f836bfd8158caa73e5c681ee01130c720fe8c5c0cf5a", func := "clepsydra/clepsydralaw01.UsecRules", spec := "usecRules", apart := false, narrowed := true }
def UsecRulesUptoSaid : Prop := usecRulesUptoRow.holds Try.pinned (OpenSpec.upto usecRulesSpec)

/-- 'clepsydralaw01.UsecKnown', WHERE WHAT IT READS IS OF BULK AT MOST 1048576: true; the input reads as it did. -/
def usecKnownUptoRow : OpenClaim := { program := "ytbegglmcbcepeaa", sum := "9b26d36d1f47873991d1f836bfd8158caa73e5c681ee01130c720fe8c5c0cf5a", func := "clepsydra/clepsydralaw01.UsecKnown", spec := "usecKnown", apart := false, narrowed := true }
def UsecKnownUptoSaid : Prop := usecKnownUptoRow.holds Try.pinned (OpenSpec.upto usecKnownSpec)

end Rows
end Go.Proofs.Ytbegglmcbcepeaa
