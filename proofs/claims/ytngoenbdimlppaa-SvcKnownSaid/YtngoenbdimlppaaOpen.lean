/- How a file, and a row of calls, that came in stand in memory. -/
import Derived.Test.YtngoenbdimlppaaRows
import Derived.Test.YtngoenbdimlppaaMd
import Derived.ProofKit
import Derived.OpenShut
import Derived.ChangeOld
import Derived.Below
import Derived.SizedLaws
import Derived.Deep.Slices
import Derived.ChangeSame
namespace Go.Proofs.Ytngoenbdimlppaa.Opened
open Go.ChangeShapes Go.WideShapes Go.ChangeAt Go.RowKit
open Go.Proofs.YtngoenbdimlppaaW.PrintWords (Kd)
open Go.Proofs.Ytngoenbdimlppaa.All (S25 k25 k25_mk S76 k76 k76_mk)
open Go.Proofs.Ytngoenbdimlppaa.Svc
set_option maxRecDepth 100000

theorem own : ownKnob Try.prog.godebug = none := by kernel_rfl
theorem laidOut : laidOutB Try.prog = true := by kernel_rfl
theorem bounds_u32 {n : Int} (h : (Lit.int .u32 n).wf = true) : 0 ≤ n ∧ n ≤ 4294967295 := by
  simp [Lit.wf, IntKind.min, IntKind.max, IntKind.signed, IntKind.bits] at h
  omega
variable {H : Type} {enc : TypeId × Value → H} {W : World} {base : Nat} {sp : Nat → Bool} {held : Bool}

/-- The cells read as a datum of the type. -/
def Rd (enc : TypeId × Value → H) (W : World) (base : Nat) (sp : Nat → Bool) (held : Bool) (t : TypeId) (cs : List Value) : Prop := ∃ n z, DataW.trod enc Try.prog W base sp held n t cs = some z
theorem Rd.field {t : TypeId} {fs : Array Field} {cs : List Value} (ht : Try.prog.underlying t = some (.struct fs)) (h : Rd enc W base sp held t cs) :
    cs.length = Try.prog.cellsOf t ∧ ∀ (i : Nat) (f : Field), fs[i]? = some f → Rd enc W base sp held f.type ((cs.drop f.offset).take (Try.prog.cellsOf f.type)) := by
  obtain ⟨n, x, h⟩ := h
  obtain ⟨xs, m, _, _, hl, hn, hf⟩ := DataW.trod_struct ht h
  refine ⟨hl, fun i f hi => ?_⟩
  have hlt : i < xs.length := by rw [hn]; exact (Array.getElem?_eq_some_iff.1 hi).1
  exact ⟨m, xs[i], by rw [hf i f hi, List.getElem?_eq_getElem hlt]⟩
theorem Rd.u8 {c : Value} (h : Rd enc W base sp held 5 [c]) : ∃ n, c = .int .u8 n ∧ 0 ≤ n ∧ n ≤ 255 := by
  obtain ⟨m, z, h⟩ := h
  obtain ⟨n, e, _, w⟩ := DataW.trod_int Try.underlying5 h
  have e := List.cons.inj e
  exact ⟨n, e.1, bounds_u8 w⟩
theorem Rd.i64 {c : Value} (h : Rd enc W base sp held 2 [c]) : ∃ n, c = .int .i64 n ∧ R64 n := by
  obtain ⟨m, z, h⟩ := h
  obtain ⟨n, e, _, w⟩ := DataW.trod_int Try.underlying2 h
  have e := List.cons.inj e
  exact ⟨n, e.1, bounds_i64 w⟩
theorem Rd.int {c : Value} (h : Rd enc W base sp held 3 [c]) : ∃ n, c = .int .i64 n ∧ R64 n := by
  obtain ⟨m, z, h⟩ := h
  obtain ⟨n, e, _, w⟩ := DataW.trod_int Try.underlying3 h
  have e := List.cons.inj e
  exact ⟨n, e.1, bounds_i64 w⟩
theorem Rd.u32 {c : Value} (h : Rd enc W base sp held 23 [c]) : ∃ n, c = .int .u32 n ∧ 0 ≤ n ∧ n ≤ 4294967295 := by
  obtain ⟨m, z, h⟩ := h
  obtain ⟨n, e, _, w⟩ := DataW.trod_int Try.underlying23 h
  have e := List.cons.inj e
  exact ⟨n, e.1, bounds_u32 w⟩
theorem Rd.bool {c : Value} (h : Rd enc W base sp held 4 [c]) : ∃ b, c = .bool b := by
  obtain ⟨m, z, h⟩ := h
  obtain ⟨b, e, _⟩ := DataW.trod_bool Try.underlying4 h
  exact ⟨b, (List.cons.inj e).1⟩
theorem Rd.str {c : Value} (h : Rd enc W base sp held 9 [c]) : ∃ s, c = .string s ∧ s.size ≤ maxLen := by
  obtain ⟨m, z, h⟩ := h
  obtain ⟨s, e, _, w⟩ := DataW.trod_string Try.underlying9 h
  exact ⟨s, (List.cons.inj e).1, w⟩
theorem Rd.sl {c : Value} (h : Rd enc W base sp held 27 [c]) : ∃ s : SV, c = .slice s.a s.n s.c ∧ s.n ≤ s.c ∧ s.c ≤ maxLen := by
  obtain ⟨m, z, h⟩ := h
  rcases Go.Deep.open_slice Try.underlying27 h with ⟨hcs, _⟩ | ⟨ad, len', cap', m, n, D, Pl, hcs, _, hl, hm, _⟩
  · exact ⟨⟨none, 0, 0⟩, (List.cons.inj hcs).1, Nat.le_refl _, Nat.zero_le _⟩
  · exact ⟨⟨some ad, len', cap'⟩, (List.cons.inj hcs).1, hl, hm⟩
theorem Rd.calls {cs : List Value} (h : Rd enc W base sp held 25 cs) : ∃ y : S25, cs = [.int .u8 y.f0, .int .i64 y.f1, .int .u32 y.f2] ∧ Fit25 y := by
  obtain ⟨hl, hf⟩ := Rd.field Try.underlying25 h
  have hl3 : cs.length = 3 := hl.trans (by kernel_rfl)
  obtain ⟨c0, c1, c2, rfl⟩ : ∃ c0 c1 c2, cs = [c0, c1, c2] := by
    match cs, hl3 with
    | [c0, c1, c2], _ => exact ⟨c0, c1, c2, rfl⟩
  have h0 : Rd enc W base sp held 5 (([c0, c1, c2].drop 0).take (Try.prog.cellsOf 5)) := hf 0 _ rfl
  have h1 : Rd enc W base sp held 3 (([c0, c1, c2].drop 1).take (Try.prog.cellsOf 3)) := hf 1 _ rfl
  have h2 : Rd enc W base sp held 23 (([c0, c1, c2].drop 2).take (Try.prog.cellsOf 23)) := hf 2 _ rfl
  rw [show Try.prog.cellsOf 5 = 1 by kernel_rfl] at h0
  rw [show Try.prog.cellsOf 3 = 1 by kernel_rfl] at h1
  rw [show Try.prog.cellsOf 23 = 1 by kernel_rfl] at h2
  obtain ⟨a, rfl, a1, a2⟩ := Rd.u8 h0
  obtain ⟨b, rfl, _⟩ := Rd.int h1
  obtain ⟨c, rfl, c1, c2⟩ := Rd.u32 h2
  exact ⟨⟨a, b, c⟩, rfl, a1, a2, c1, c2⟩
theorem Rd.trigs {cs : List Value} (h : Rd enc W base sp held 76 cs) : ∃ y : S76, cs = [.int .u8 y.f0, .int .i64 y.f1, .string y.f2] := by
  obtain ⟨hl, hf⟩ := Rd.field Try.underlying76 h
  have hl3 : cs.length = 3 := hl.trans (by kernel_rfl)
  obtain ⟨c0, c1, c2, rfl⟩ : ∃ c0 c1 c2, cs = [c0, c1, c2] := by
    match cs, hl3 with
    | [c0, c1, c2], _ => exact ⟨c0, c1, c2, rfl⟩
  have h0 : Rd enc W base sp held 5 (([c0, c1, c2].drop 0).take (Try.prog.cellsOf 5)) := hf 0 _ rfl
  have h1 : Rd enc W base sp held 2 (([c0, c1, c2].drop 1).take (Try.prog.cellsOf 2)) := hf 1 _ rfl
  have h2 : Rd enc W base sp held 9 (([c0, c1, c2].drop 2).take (Try.prog.cellsOf 9)) := hf 2 _ rfl
  rw [show Try.prog.cellsOf 5 = 1 by kernel_rfl] at h0
  rw [show Try.prog.cellsOf 2 = 1 by kernel_rfl] at h1
  rw [show Try.prog.cellsOf 9 = 1 by kernel_rfl] at h2
  obtain ⟨a, rfl, a1, a2⟩ := Rd.u8 h0
  obtain ⟨b, rfl, _⟩ := Rd.i64 h1
  obtain ⟨c, rfl, _⟩ := Rd.str h2
  exact ⟨⟨a, b, c⟩, rfl⟩

theorem Rd.row25 {a : Option Addr} {len cap : Nat} (h : Rd enc W base sp held 26 [.slice a len cap]) :
    ∃ xs : List S25, len = xs.length ∧ len ≤ cap ∧ cap ≤ maxLen ∧ Kd.C k25 W a len xs ∧ ∀ x ∈ xs, Fit25 x := by
  obtain ⟨fuel, z, hf⟩ := h
  rcases Go.Deep.open_slice Try.underlying26 hf with ⟨hcs, _⟩ | ⟨ad, len', cap', m, n, D, Pl, hcs, _, hl, hm, hmm, _, hx⟩
  · simp at hcs
    obtain ⟨rfl, rfl, rfl⟩ := hcs
    exact ⟨[], rfl, Nat.le_refl _, Nat.zero_le _, ⟨rfl, by omega, fun h => absurd h (Nat.lt_irrefl 0)⟩, by simp⟩
  · simp at hcs
    obtain ⟨rfl, rfl, rfl⟩ := hcs
    have hlm : len ≤ m := by rw [hmm]; split <;> omega
    have hY : ∀ i : Nat, ∃ y : S25, i < len → (∀ j u, [.int .u8 y.f0, .int .i64 y.f1, .int .u32 y.f2][j]? = some u → W.cell? (ad.add (i * 3 + j)) = some u) ∧ Fit25 y := by
      intro i
      by_cases hi : i < len
      · obtain ⟨cs', h1, h2⟩ := hx i (by omega)
        obtain ⟨y, rfl, hfit⟩ := Rd.calls ⟨_, _, h2⟩
        rw [show Try.prog.cellsOf 25 = 3 by kernel_rfl] at h1
        obtain ⟨_, _, hc⟩ := World.cells?_some h1
        have hcell : ∀ j u, [.int .u8 y.f0, .int .i64 y.f1, .int .u32 y.f2][j]? = some u → W.cell? (ad.add (i * 3 + j)) = some u := fun j u hju => by
          have hj : j < 3 := by
            have := (List.getElem?_eq_some_iff.1 hju).1
            simpa using this
          have := hc j hj
          rw [Addr.add_add] at this
          rw [this, hju]
        exact ⟨y, fun _ => ⟨hcell, hfit⟩⟩
      · exact ⟨⟨0, 0, 0⟩, fun h => absurd h hi⟩
    obtain ⟨Y, hY⟩ := Classical.axiomOfChoice hY
    refine ⟨(List.range len).map Y, by simp, hl, hm, ⟨by simp, by unfold maxLen at hm; omega, fun _ => ⟨ad, rfl, fun j q hj => ?_⟩⟩, fun x hx => ?_⟩
    · rw [List.getElem?_map, Option.map_eq_some_iff] at hj
      obtain ⟨i, hi, rfl⟩ := hj
      obtain ⟨hi1, hi2⟩ := List.getElem?_eq_some_iff.1 hi
      simp at hi1 hi2
      subst hi2
      exact ⟨_, rfl, k25_mk W (Y j), fun i u hu => (hY j hi1).1 i u hu⟩
    · obtain ⟨i, hi, rfl⟩ := List.mem_map.1 hx
      exact (hY i (List.mem_range.1 hi)).2

theorem Rd.row76 {a : Option Addr} {len cap : Nat} (h : Rd enc W base sp held 32 [.slice a len cap]) :
    ∃ xs : List S76, len = xs.length ∧ len ≤ cap ∧ cap ≤ maxLen ∧ Kd.C k76 W a len xs := by
  obtain ⟨fuel, z, hf⟩ := h
  rcases Go.Deep.open_slice Try.underlying32 hf with ⟨hcs, _⟩ | ⟨ad, len', cap', m, n, D, Pl, hcs, _, hl, hm, hmm, _, hx⟩
  · simp at hcs
    obtain ⟨rfl, rfl, rfl⟩ := hcs
    exact ⟨[], rfl, Nat.le_refl _, Nat.zero_le _, ⟨rfl, by omega, fun h => absurd h (Nat.lt_irrefl 0)⟩⟩
  · simp at hcs
    obtain ⟨rfl, rfl, rfl⟩ := hcs
    have hlm : len ≤ m := by rw [hmm]; split <;> omega
    have hY : ∀ i : Nat, ∃ y : S76, i < len → (∀ j u, [.int .u8 y.f0, .int .i64 y.f1, .string y.f2][j]? = some u → W.cell? (ad.add (i * 3 + j)) = some u) := by
      intro i
      by_cases hi : i < len
      · obtain ⟨cs', h1, h2⟩ := hx i (by omega)
        obtain ⟨y, rfl⟩ := Rd.trigs ⟨_, _, h2⟩
        rw [show Try.prog.cellsOf 76 = 3 by kernel_rfl] at h1
        obtain ⟨_, _, hc⟩ := World.cells?_some h1
        have hcell : ∀ j u, [.int .u8 y.f0, .int .i64 y.f1, .string y.f2][j]? = some u → W.cell? (ad.add (i * 3 + j)) = some u := fun j u hju => by
          have hj : j < 3 := by
            have := (List.getElem?_eq_some_iff.1 hju).1
            simpa using this
          have := hc j hj
          rw [Addr.add_add] at this
          rw [this, hju]
        exact ⟨y, fun _ => hcell⟩
      · exact ⟨⟨0, 0, ⟨#[]⟩⟩, fun h => absurd h hi⟩
    obtain ⟨Y, hY⟩ := Classical.axiomOfChoice hY
    refine ⟨(List.range len).map Y, by simp, hl, hm, ⟨by simp, by unfold maxLen at hm; omega, fun _ => ⟨ad, rfl, fun j q hj => ?_⟩⟩⟩
    · rw [List.getElem?_map, Option.map_eq_some_iff] at hj
      obtain ⟨i, hi, rfl⟩ := hj
      obtain ⟨hi1, hi2⟩ := List.getElem?_eq_some_iff.1 hi
      simp at hi1 hi2
      subst hi2
      exact ⟨_, rfl, k76_mk W (Y j), fun i u hu => hY j hi1 i u hu⟩

theorem Rd.shape32 {c : Value} (h : Rd enc W base sp held 32 [c]) : ∃ s : SV, c = .slice s.a s.n s.c := by
  obtain ⟨m, z, h⟩ := h
  rcases Go.Deep.open_slice Try.underlying32 h with ⟨hcs, _⟩ | ⟨ad, len', cap', m, n, D, Pl, hcs, _⟩
  · exact ⟨⟨none, 0, 0⟩, (List.cons.inj hcs).1⟩
  · exact ⟨⟨some ad, len', cap'⟩, (List.cons.inj hcs).1⟩
set_option maxHeartbeats 2000000 in
theorem Rd.file {cs : List Value} (h : Rd enc W base sp held 36 cs) : ∃ F : FV, cs = (fc F).toList ∧ FileOK F ∧ ∃ xs : List S76, F.tr.n = xs.length ∧ F.tr.n ≤ F.tr.c ∧ F.tr.c ≤ maxLen ∧ Kd.C k76 W F.tr.a F.tr.n xs := by
  obtain ⟨hl, hf⟩ := Rd.field Try.underlying36 h
  have hl25 : cs.length = 25 := hl.trans (by kernel_rfl)
  obtain ⟨c0, c1, c2, c3, c4, c5, c6, c7, c8, c9, c10, c11, c12, c13, c14, c15, c16, c17, c18, c19, c20, c21, c22, c23, c24, rfl⟩ : ∃ c0 c1 c2 c3 c4 c5 c6 c7 c8 c9 c10 c11 c12 c13 c14 c15 c16 c17 c18 c19 c20 c21 c22 c23 c24, cs = [c0, c1, c2, c3, c4, c5, c6, c7, c8, c9, c10, c11, c12, c13, c14, c15, c16, c17, c18, c19, c20, c21, c22, c23, c24] := by
    match cs, hl25 with
    | [c0, c1, c2, c3, c4, c5, c6, c7, c8, c9, c10, c11, c12, c13, c14, c15, c16, c17, c18, c19, c20, c21, c22, c23, c24], _ => exact ⟨c0, c1, c2, c3, c4, c5, c6, c7, c8, c9, c10, c11, c12, c13, c14, c15, c16, c17, c18, c19, c20, c21, c22, c23, c24, rfl⟩
  have k0 : Rd enc W base sp held 5 (([c0, c1, c2, c3, c4, c5, c6, c7, c8, c9, c10, c11, c12, c13, c14, c15, c16, c17, c18, c19, c20, c21, c22, c23, c24].drop 0).take (Try.prog.cellsOf 5)) := hf 0 _ rfl
  rw [show Try.prog.cellsOf 5 = 1 by kernel_rfl] at k0
  have ku : Rd enc W base sp held 29 (([c0, c1, c2, c3, c4, c5, c6, c7, c8, c9, c10, c11, c12, c13, c14, c15, c16, c17, c18, c19, c20, c21, c22, c23, c24].drop 1).take (Try.prog.cellsOf 29)) := hf 1 _ rfl
  rw [show Try.prog.cellsOf 29 = 10 by kernel_rfl] at ku
  have ks : Rd enc W base sp held 31 (([c0, c1, c2, c3, c4, c5, c6, c7, c8, c9, c10, c11, c12, c13, c14, c15, c16, c17, c18, c19, c20, c21, c22, c23, c24].drop 11).take (Try.prog.cellsOf 31)) := hf 2 _ rfl
  rw [show Try.prog.cellsOf 31 = 7 by kernel_rfl] at ks
  have kt : Rd enc W base sp held 34 (([c0, c1, c2, c3, c4, c5, c6, c7, c8, c9, c10, c11, c12, c13, c14, c15, c16, c17, c18, c19, c20, c21, c22, c23, c24].drop 18).take (Try.prog.cellsOf 34)) := hf 3 _ rfl
  rw [show Try.prog.cellsOf 34 = 7 by kernel_rfl] at kt
  replace ku : Rd enc W base sp held 29 [c1, c2, c3, c4, c5, c6, c7, c8, c9, c10] := ku
  replace ks : Rd enc W base sp held 31 [c11, c12, c13, c14, c15, c16, c17] := ks
  replace kt : Rd enc W base sp held 34 [c18, c19, c20, c21, c22, c23, c24] := kt
  obtain ⟨_, hu⟩ := Rd.field Try.underlying29 ku
  obtain ⟨_, hs⟩ := Rd.field Try.underlying31 ks
  obtain ⟨_, ht⟩ := Rd.field Try.underlying34 kt
  clear hf hl hl25 h ku ks kt
  have u0 : Rd enc W base sp held 27 (([c1, c2, c3, c4, c5, c6, c7, c8, c9, c10].drop 0).take (Try.prog.cellsOf 27)) := hu 0 _ rfl
  rw [show Try.prog.cellsOf 27 = 1 by kernel_rfl] at u0
  have u1 : Rd enc W base sp held 27 (([c1, c2, c3, c4, c5, c6, c7, c8, c9, c10].drop 1).take (Try.prog.cellsOf 27)) := hu 1 _ rfl
  rw [show Try.prog.cellsOf 27 = 1 by kernel_rfl] at u1
  have u2 : Rd enc W base sp held 27 (([c1, c2, c3, c4, c5, c6, c7, c8, c9, c10].drop 2).take (Try.prog.cellsOf 27)) := hu 2 _ rfl
  rw [show Try.prog.cellsOf 27 = 1 by kernel_rfl] at u2
  have u3 : Rd enc W base sp held 27 (([c1, c2, c3, c4, c5, c6, c7, c8, c9, c10].drop 3).take (Try.prog.cellsOf 27)) := hu 3 _ rfl
  rw [show Try.prog.cellsOf 27 = 1 by kernel_rfl] at u3
  have u4 : Rd enc W base sp held 27 (([c1, c2, c3, c4, c5, c6, c7, c8, c9, c10].drop 4).take (Try.prog.cellsOf 27)) := hu 4 _ rfl
  rw [show Try.prog.cellsOf 27 = 1 by kernel_rfl] at u4
  have u5 : Rd enc W base sp held 27 (([c1, c2, c3, c4, c5, c6, c7, c8, c9, c10].drop 5).take (Try.prog.cellsOf 27)) := hu 5 _ rfl
  rw [show Try.prog.cellsOf 27 = 1 by kernel_rfl] at u5
  have u6 : Rd enc W base sp held 27 (([c1, c2, c3, c4, c5, c6, c7, c8, c9, c10].drop 6).take (Try.prog.cellsOf 27)) := hu 6 _ rfl
  rw [show Try.prog.cellsOf 27 = 1 by kernel_rfl] at u6
  have u7 : Rd enc W base sp held 4 (([c1, c2, c3, c4, c5, c6, c7, c8, c9, c10].drop 7).take (Try.prog.cellsOf 4)) := hu 7 _ rfl
  rw [show Try.prog.cellsOf 4 = 1 by kernel_rfl] at u7
  have u8 : Rd enc W base sp held 2 (([c1, c2, c3, c4, c5, c6, c7, c8, c9, c10].drop 8).take (Try.prog.cellsOf 2)) := hu 8 _ rfl
  rw [show Try.prog.cellsOf 2 = 1 by kernel_rfl] at u8
  have u9 : Rd enc W base sp held 2 (([c1, c2, c3, c4, c5, c6, c7, c8, c9, c10].drop 9).take (Try.prog.cellsOf 2)) := hu 9 _ rfl
  rw [show Try.prog.cellsOf 2 = 1 by kernel_rfl] at u9
  have s0 : Rd enc W base sp held 5 (([c11, c12, c13, c14, c15, c16, c17].drop 0).take (Try.prog.cellsOf 5)) := hs 0 _ rfl
  rw [show Try.prog.cellsOf 5 = 1 by kernel_rfl] at s0
  have s1 : Rd enc W base sp held 4 (([c11, c12, c13, c14, c15, c16, c17].drop 1).take (Try.prog.cellsOf 4)) := hs 1 _ rfl
  rw [show Try.prog.cellsOf 4 = 1 by kernel_rfl] at s1
  have s2 : Rd enc W base sp held 5 (([c11, c12, c13, c14, c15, c16, c17].drop 2).take (Try.prog.cellsOf 5)) := hs 2 _ rfl
  rw [show Try.prog.cellsOf 5 = 1 by kernel_rfl] at s2
  have s3 : Rd enc W base sp held 2 (([c11, c12, c13, c14, c15, c16, c17].drop 3).take (Try.prog.cellsOf 2)) := hs 3 _ rfl
  rw [show Try.prog.cellsOf 2 = 1 by kernel_rfl] at s3
  have s4 : Rd enc W base sp held 2 (([c11, c12, c13, c14, c15, c16, c17].drop 4).take (Try.prog.cellsOf 2)) := hs 4 _ rfl
  rw [show Try.prog.cellsOf 2 = 1 by kernel_rfl] at s4
  have s5 : Rd enc W base sp held 2 (([c11, c12, c13, c14, c15, c16, c17].drop 5).take (Try.prog.cellsOf 2)) := hs 5 _ rfl
  rw [show Try.prog.cellsOf 2 = 1 by kernel_rfl] at s5
  have s6 : Rd enc W base sp held 27 (([c11, c12, c13, c14, c15, c16, c17].drop 6).take (Try.prog.cellsOf 27)) := hs 6 _ rfl
  rw [show Try.prog.cellsOf 27 = 1 by kernel_rfl] at s6
  have t0 : Rd enc W base sp held 32 (([c18, c19, c20, c21, c22, c23, c24].drop 0).take (Try.prog.cellsOf 32)) := ht 0 _ rfl
  rw [show Try.prog.cellsOf 32 = 1 by kernel_rfl] at t0
  have t1 : Rd enc W base sp held 2 (([c18, c19, c20, c21, c22, c23, c24].drop 1).take (Try.prog.cellsOf 2)) := ht 1 _ rfl
  rw [show Try.prog.cellsOf 2 = 1 by kernel_rfl] at t1
  have t2 : Rd enc W base sp held 2 (([c18, c19, c20, c21, c22, c23, c24].drop 2).take (Try.prog.cellsOf 2)) := ht 2 _ rfl
  rw [show Try.prog.cellsOf 2 = 1 by kernel_rfl] at t2
  have t3 : Rd enc W base sp held 4 (([c18, c19, c20, c21, c22, c23, c24].drop 3).take (Try.prog.cellsOf 4)) := ht 3 _ rfl
  rw [show Try.prog.cellsOf 4 = 1 by kernel_rfl] at t3
  have t4 : Rd enc W base sp held 4 (([c18, c19, c20, c21, c22, c23, c24].drop 4).take (Try.prog.cellsOf 4)) := ht 4 _ rfl
  rw [show Try.prog.cellsOf 4 = 1 by kernel_rfl] at t4
  have t5 : Rd enc W base sp held 4 (([c18, c19, c20, c21, c22, c23, c24].drop 5).take (Try.prog.cellsOf 4)) := ht 5 _ rfl
  rw [show Try.prog.cellsOf 4 = 1 by kernel_rfl] at t5
  have t6 : Rd enc W base sp held 9 (([c18, c19, c20, c21, c22, c23, c24].drop 6).take (Try.prog.cellsOf 9)) := ht 6 _ rfl
  rw [show Try.prog.cellsOf 9 = 1 by kernel_rfl] at t6
  obtain ⟨v0, rfl, _⟩ := Rd.u8 k0
  obtain ⟨vu0, rfl, _⟩ := Rd.sl u0
  obtain ⟨vu1, rfl, _⟩ := Rd.sl u1
  obtain ⟨vu2, rfl, _⟩ := Rd.sl u2
  obtain ⟨vu3, rfl, _⟩ := Rd.sl u3
  obtain ⟨vu4, rfl, _⟩ := Rd.sl u4
  obtain ⟨vu5, rfl, _⟩ := Rd.sl u5
  obtain ⟨vu6, rfl, _⟩ := Rd.sl u6
  obtain ⟨vu7, rfl⟩ := Rd.bool u7
  obtain ⟨vu8, rfl, rvu8⟩ := Rd.i64 u8
  obtain ⟨vu9, rfl, rvu9⟩ := Rd.i64 u9
  obtain ⟨vs0, rfl, _⟩ := Rd.u8 s0
  obtain ⟨vs1, rfl⟩ := Rd.bool s1
  obtain ⟨vs2, rfl, _⟩ := Rd.u8 s2
  obtain ⟨vs3, rfl, rvs3⟩ := Rd.i64 s3
  obtain ⟨vs4, rfl, rvs4⟩ := Rd.i64 s4
  obtain ⟨vs5, rfl, rvs5⟩ := Rd.i64 s5
  obtain ⟨vs6, rfl, _⟩ := Rd.sl s6
  obtain ⟨vt0, rfl⟩ := Rd.shape32 t0
  obtain ⟨xs, e1, e2, e3, e4⟩ := Rd.row76 t0
  obtain ⟨vt1, rfl, rvt1⟩ := Rd.i64 t1
  obtain ⟨vt2, rfl, rvt2⟩ := Rd.i64 t2
  obtain ⟨vt3, rfl⟩ := Rd.bool t3
  obtain ⟨vt4, rfl⟩ := Rd.bool t4
  obtain ⟨vt5, rfl⟩ := Rd.bool t5
  obtain ⟨vt6, rfl, _⟩ := Rd.str t6
  exact ⟨⟨v0, vu0, vu1, vu2, vu3, vu4, vu5, vu6, vu7, vu8, vu9, vs0, vs1, vs2, vs3, vs4, vs5, vs6, vt0, vt1, vt2, vt3, vt4, vt5, vt6⟩, rfl, ⟨rvs3, rvs4, rvs5⟩, xs, e1, e2, e3, e4⟩

theorem open_file {v : Value} {d : DataW H} {p : List MemPlace} {r : Reach} {b0 : Nat} (hv : Value.okWide Try.prog W r b0 36 v) (h : DataW.Trod enc Try.prog W base sp held 36 v d p) :
    ∃ F : FV, v = .agg (fc F) ∧ FileOK F ∧ ∃ xs : List S76, F.tr.n = xs.length ∧ F.tr.n ≤ F.tr.c ∧ F.tr.c ≤ maxLen ∧ Kd.C k76 W F.tr.a F.tr.n xs := by
  obtain ⟨cs, rfl, hsz⟩ := okWide_struct Try.underlying36 hv
  obtain ⟨fuel, hf⟩ := h
  obtain ⟨F, e, hF⟩ := Rd.file ⟨_, _, hf⟩
  have e' : cs.toList = _ := e
  exact ⟨F, by rw [show cs = cs.toList.toArray by simp, e'], hF⟩
theorem open_row {a : Option Addr} {len cap : Nat} {d : DataW H} {p : List MemPlace} (h : DataW.Trod enc Try.prog W base sp held 26 (.slice a len cap) d p) :
    ∃ xs : List S25, len = xs.length ∧ len ≤ cap ∧ cap ≤ maxLen ∧ Kd.C k25 W a len xs ∧ ∀ x ∈ xs, Fit25 x := by
  obtain ⟨fuel, hf⟩ := h
  exact Rd.row25 ⟨_, _, hf⟩
end Go.Proofs.Ytngoenbdimlppaa.Opened
