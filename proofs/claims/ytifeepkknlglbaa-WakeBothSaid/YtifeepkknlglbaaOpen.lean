/- How a row of windows, and a reading, that came in stand in memory. -/
import Derived.Test.YtifeepkknlglbaaRows
import Derived.Test.YtifeepkknlglbaaPureL
import Derived.ProofKit
import Derived.OpenShut
import Derived.ChangeOld
import Derived.Below
import Derived.SizedLaws
import Derived.Deep.Slices
import Derived.ChangeSame
namespace Go.Proofs.Ytifeepkknlglbaa.Opened
open Go.ChangeShapes Go.WideShapes Go.ChangeAt Go.RowKit
open Go.Proofs.YtifeepkknlglbaaW.PrintWords (Kd)
open Go.Proofs.Ytifeepkknlglbaa.All (S34 S32 k34 k34_mk Fit)

theorem own : ownKnob Try.prog.godebug = none := by kernel_rfl
theorem laidOut : laidOutB Try.prog = true := by kernel_rfl
theorem cells34 : Try.prog.cellsOf 34 = 3 := by kernel_rfl
theorem cells32 : Try.prog.cellsOf 32 = 2 := by kernel_rfl
theorem cells2 : Try.prog.cellsOf 2 = 1 := by kernel_rfl
theorem cells4 : Try.prog.cellsOf 4 = 1 := by kernel_rfl

variable {H : Type} {enc : TypeId × Value → H} {W : World} {base : Nat} {sp : Nat → Bool} {held : Bool}

theorem open34 {n : Nat} {cs : List Value} {x : DataW H × List MemPlace} (h : DataW.trod enc Try.prog W base sp held n 34 cs = some x) :
    ∃ y : S34, cs = [.bool y.f0, .int .i64 y.f1.f0, .int .i64 y.f1.f1] ∧ Fit y := by
  obtain ⟨y0, y1, m, _, hl, h0, h1⟩ := trod_struct2 Try.underlying34 h
  rw [cells34] at hl
  obtain ⟨c0, c1, c2, rfl⟩ : ∃ c0 c1 c2, cs = [c0, c1, c2] := by
    match cs, hl with
    | [c0, c1, c2], _ => exact ⟨c0, c1, c2, rfl⟩
  simp only [cells4, cells32, List.drop_zero, List.drop_succ_cons, List.take_succ_cons, List.take_zero] at h0 h1
  obtain ⟨b, e0, _⟩ := DataW.trod_bool Try.underlying4 h0
  obtain ⟨z0, z1, m1, _, _, g0, g1⟩ := trod_struct2 Try.underlying32 h1
  simp only [cells2, List.drop_zero, List.drop_succ_cons, List.take_succ_cons, List.take_zero] at g0 g1
  obtain ⟨a, e1, _, wa⟩ := DataW.trod_int Try.underlying2 g0
  obtain ⟨c, e2, _, wc⟩ := DataW.trod_int Try.underlying2 g1
  simp only [List.cons.injEq, and_true] at e0 e1 e2
  subst e0 e1 e2
  exact ⟨⟨b, ⟨a, c⟩⟩, rfl, bounds_i64 wa, bounds_i64 wc⟩

theorem open22 {a : Option Addr} {len cap : Nat} {d : DataW H} {p : List MemPlace} (h : DataW.Trod enc Try.prog W base sp held 22 (.slice a len cap) d p) :
    ∃ xs : List S34, len = xs.length ∧ len ≤ cap ∧ Kd.C k34 W a len xs ∧ ∀ x ∈ xs, Fit x := by
  obtain ⟨fuel, hf⟩ := h
  rcases Go.Deep.open_slice Try.underlying22 hf with ⟨hcs, _⟩ | ⟨ad, len', cap', m, n, D, Pl, hcs, _, hl, hm, hmm, _, hx⟩
  · simp [Value.cells] at hcs
    obtain ⟨rfl, rfl, rfl⟩ := hcs
    exact ⟨[], rfl, Nat.le_refl _, ⟨rfl, by omega, fun h => absurd h (Nat.lt_irrefl 0)⟩, by simp⟩
  · simp [Value.cells] at hcs
    obtain ⟨rfl, rfl, rfl⟩ := hcs
    have hlm : len ≤ m := by rw [hmm]; split <;> omega
    have hY : ∀ i : Nat, ∃ y : S34, i < len → (∀ j u, [Value.bool y.f0, .int .i64 y.f1.f0, .int .i64 y.f1.f1][j]? = some u → W.cell? (ad.add (i * 3 + j)) = some u) ∧ Fit y := by
      intro i
      by_cases hi : i < len
      · obtain ⟨cs', h1, h2⟩ := hx i (by omega)
        obtain ⟨y, rfl, hfit⟩ := open34 h2
        rw [cells34] at h1
        obtain ⟨_, _, hc⟩ := World.cells?_some h1
        refine ⟨y, fun _ => ⟨fun j u hju => ?_, hfit⟩⟩
        have hj : j < 3 := by
          have := (List.getElem?_eq_some_iff.1 hju).1
          simpa using this
        have := hc j hj
        rw [Addr.add_add] at this
        rw [this, hju]
      · exact ⟨⟨false, ⟨0, 0⟩⟩, fun h => absurd h hi⟩
    obtain ⟨Y, hY⟩ := Classical.axiomOfChoice hY
    refine ⟨(List.range len).map Y, by simp, hl, ⟨by simp, by unfold maxLen at hm; omega, fun _ => ⟨ad, rfl, fun j q hj => ?_⟩⟩, fun x hx => ?_⟩
    · rw [List.getElem?_map, Option.map_eq_some_iff] at hj
      obtain ⟨i, hi, rfl⟩ := hj
      obtain ⟨hi1, hi2⟩ := List.getElem?_eq_some_iff.1 hi
      simp at hi1 hi2
      subst hi2
      exact ⟨_, rfl, k34_mk W (Y j), fun i u hu => (hY j hi1).1 i u hu⟩
    · obtain ⟨i, hi, rfl⟩ := List.mem_map.1 hx
      exact (hY i (List.mem_range.1 hi)).2

theorem open_window {v : Value} {d : DataW H} {p : List MemPlace} {r : Reach} {b0 : Nat} (hv : Value.okWide Try.prog W r b0 34 v) (h : DataW.Trod enc Try.prog W base sp held 34 v d p) :
    ∃ y : S34, v = .agg #[.bool y.f0, .int .i64 y.f1.f0, .int .i64 y.f1.f1] ∧ Fit y := by
  obtain ⟨cs, rfl, hsz⟩ := okWide_struct Try.underlying34 hv
  obtain ⟨fuel, hf⟩ := h
  obtain ⟨y, e, hfit⟩ := open34 hf
  refine ⟨y, ?_, hfit⟩
  have e' : cs.toList = _ := e
  rw [show cs = cs.toList.toArray by simp, e']

theorem open_reading {v : Value} {d : DataW H} {p : List MemPlace} {r : Reach} {b0 : Nat} (hv : Value.okWide Try.prog W r b0 24 v) (h : DataW.Trod enc Try.prog W base sp held 24 v d p) :
    ∃ a b : Int, v = .agg #[.int .i64 a, .int .i64 b] ∧ (-9223372036854775808 ≤ a ∧ a ≤ 9223372036854775807) ∧ -9223372036854775808 ≤ b ∧ b ≤ 9223372036854775807 := by
  obtain ⟨cs, rfl, hsz⟩ := okWide_struct Try.underlying24 hv
  obtain ⟨fuel, hf⟩ := h
  obtain ⟨z0, z1, m1, _, hl, g0, g1⟩ := trod_struct2 Try.underlying24 hf
  obtain ⟨c0, c1, e⟩ : ∃ c0 c1, cs = #[c0, c1] := by
    have h2 : Try.prog.cellsOf 24 = 2 := by kernel_rfl
    rw [h2] at hsz
    obtain ⟨l⟩ := cs
    match l, hsz with
    | [c0, c1], _ => exact ⟨c0, c1, rfl⟩
  subst e
  simp only [Value.cells, cells2, List.drop_zero, List.drop_succ_cons, List.take_succ_cons, List.take_zero] at g0 g1
  obtain ⟨a, e1, _, wa⟩ := DataW.trod_int Try.underlying2 g0
  obtain ⟨c, e2, _, wc⟩ := DataW.trod_int Try.underlying2 g1
  simp only [List.cons.injEq, and_true] at e1 e2
  subst e1 e2
  exact ⟨a, c, rfl, bounds_i64 wa, bounds_i64 wc⟩
end Go.Proofs.Ytifeepkknlglbaa.Opened
