/- A map that a call makes: a new entry is put in, an entry is found. -/
import Derived.Test.YtngoenbdimlppaaM1
import Derived.Maps.OwnOps
import Derived.Maps.OwnSet
import Derived.DeepKeys4
namespace Go.Proofs.Ytngoenbdimlppaa.Svc
open Go.RowKit
set_option linter.unusedVariables false
set_option linter.unusedSimpArgs false

theorem run_insert_new {P : Program} {w : World} {t k e : TypeId} (ht : P.underlying t = some (.map k e)) {b : Nat} {es : Array MapEntry} {clock : Nat} (hb : w.heap[b]? = some (.map es clock)) {key val : Value}
    (hc : (Instr.checkKey false 10000 k key).run P w = .ok () w) (hf : (Instr.findKey k key es.toList).run P w = .ok none w) :
    ∃ w', (Instr.mapUpdate t (.map (some b)) key val).run P w = .ok () w' ∧ w'.heap[b]? = some (.map (es.push ⟨key, val, clock⟩) (clock + 1)) ∧ Stp b w w' := by
  refine ⟨{ w with heap := w.heap.setIfInBounds b (.map (es.push ⟨key, val, clock⟩) (clock + 1)) }, ?_, ?_, ?_⟩
  · simp [Instr.mapUpdate, run_underlying ht, Go.MapKept.run_getObj_map hb, hc, hf, Go.MapKept.run_setObj_map _ hb, Result.andThen]
  · have := (Array.getElem?_eq_some_iff.1 hb).1
    simp [this]
  · exact ⟨rfl, rfl, rfl, by simp, fun i hi hg => by simp [Array.getElem?_setIfInBounds, Ne.symm hg]⟩

section
variable {P : Program} (w : World) {ops : Array Oper} {rest : List Oper} {o : Oper} {a : Act} {Q : Exit → Act → World → Prop}
theorem wpList_insert_new (hg : o.guard = none) (m x v : Operand) (t : TypeId) (hop : o.op = Op.insert t m x v) (k e : TypeId) (ht : P.underlying t = some (.map k e)) (b : Nat) (es : Array MapEntry) (clock : Nat)
    (hm : a.eval m = .map (some b)) (hb : w.heap[b]? = some (.map es clock)) (key val : Value) (hx : a.eval x = key) (hv : a.eval v = val)
    (hc : (Instr.checkKey false 10000 k key).run P w = .ok () w) (hf : (Instr.findKey k key es.toList).run P w = .ok none w)
    (hK : ∀ w', w'.heap[b]? = some (.map (es.push ⟨key, val, clock⟩) (clock + 1)) → Stp b w w' → wpList P ops Q rest (a.put o.dst undef) w') :
    wpList P ops Q (o :: rest) a w := by
  refine wpList_plain hg fun K' hK' => ?_
  obtain ⟨w', hrun, r1, r2⟩ := run_insert_new (val := val) ht hb hc hf
  unfold Oper.wp
  simp [execOp, hop, hm, hx, hv, hrun, Result.andThen]
  exact hK' _ _ (hK w' r1 r2)
theorem gate_insert {m x v : Operand} {t : TypeId} (hop : o.op = Op.insert t m x v) (h : wpList P ops Q (o :: rest) a w) : wpList P ops Q (o :: rest) a w := h
theorem run_lookup_found {t k e : TypeId} (ht : P.underlying t = some (.map k e)) {b : Nat} {es : Array MapEntry} {clock : Nat} (hb : w.heap[b]? = some (.map es clock)) {key val : Value} {i : Nat} (ok : Bool)
    (hc : (Instr.checkKey es.isEmpty 10000 k key).run P w = .ok () w) (hf : (Instr.findKey k key es.toList).run P w = .ok (some (i, val)) w) :
    (Instr.lookup t (.map (some b)) key ok).run P w = .ok (if ok then .tuple #[val, .bool true] else val) w := by
  cases ok <;> simp [Instr.lookup, run_underlying ht, Go.MapKept.run_getObj_map hb, hc, hf, Result.andThen]
theorem run_lookup_none {t k e : TypeId} (ht : P.underlying t = some (.map k e)) {b : Nat} {es : Array MapEntry} {clock : Nat} (hb : w.heap[b]? = some (.map es clock)) {key z : Value} (ok : Bool)
    (hc : (Instr.checkKey es.isEmpty 10000 k key).run P w = .ok () w) (hf : (Instr.findKey k key es.toList).run P w = .ok none w) (hz : (zeroValue e).run P w = .ok z w) :
    (Instr.lookup t (.map (some b)) key ok).run P w = .ok (if ok then .tuple #[z, .bool false] else z) w := by
  cases ok <;> simp [Instr.lookup, run_underlying ht, Go.MapKept.run_getObj_map hb, hc, hf, hz, Result.andThen]
end

/-! ### small whole numbers as keys -/
theorem u8_check (w : World) (em : Bool) (x : Int) : (Instr.checkKey em 10000 5 (.int .u8 x)).run Try.prog w = .ok () w :=
  Go.MapKept.run_checkKey (k := .int .u8 x) Try.underlying5 (by simp [MapKept.IsKey]) em 9999
theorem u8_find (w : World) (x : Int) (es : List MapEntry) (r : Option (Nat × Value)) (h : Instr.findNow (.int .u8) (.int .u8 x) es 0 = some r) : (Instr.findKey 5 (.int .u8 x) es).run Try.prog w = .ok r w :=
  Go.MapKept.run_findKey Try.underlying5 h
end Go.Proofs.Ytngoenbdimlppaa.Svc
