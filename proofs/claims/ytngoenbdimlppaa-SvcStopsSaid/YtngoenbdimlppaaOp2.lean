/- A file that came in, with the bounds of its small numbers and of its list of triggers. -/
import Derived.Test.YtngoenbdimlppaaOpen
import Derived.Test.YtngoenbdimlppaaN5
namespace Go.Proofs.Ytngoenbdimlppaa.Opened
open Go.ChangeShapes Go.WideShapes Go.ChangeAt Go.RowKit
open Go.Proofs.YtngoenbdimlppaaW.PrintWords (Kd)
open Go.Proofs.Ytngoenbdimlppaa.All (S25 k25 k25_mk S76 k76 k76_mk)
open Go.Proofs.Ytngoenbdimlppaa.Svc
set_option maxRecDepth 100000
variable {H : Type} {enc : TypeId × Value → H} {W : World} {base : Nat} {sp : Nat → Bool} {held : Bool}

/-- A part of a struct, and its weights. -/
theorem part {t : TypeId} {fs : Array Field} {fuel : Nat} {cs : List Value} {x : DataW H × List MemPlace} (ht : Try.prog.underlying t = some (.struct fs)) (h : DataW.trod enc Try.prog W base sp held fuel t cs = some x)
    (i : Nat) (f : Field) (hi : fs[i]? = some f) :
    ∃ m y, DataW.trod enc Try.prog W base sp held m f.type ((cs.drop f.offset).take (Try.prog.cellsOf f.type)) = some y ∧ ∀ n ∈ y.1.weights Try.prog f.type, n ∈ x.1.weights Try.prog t := by
  obtain ⟨xs, m, _, rfl, _, hn, hf⟩ := DataW.trod_struct ht h
  have hlt : i < xs.length := by rw [hn]; exact (Array.getElem?_eq_some_iff.1 hi).1
  refine ⟨m, xs[i], by rw [hf i f hi, List.getElem?_eq_getElem hlt], fun k hk => ?_⟩
  simp only [DataW.weights, ht]
  exact DataW.weights_mem_each (j := i) (by simp [hi]) (by simp [List.getElem?_eq_getElem hlt]) k hk

theorem part_u8 {n : Int} {fuel : Nat} {x : DataW H × List MemPlace} (h : DataW.trod enc Try.prog W base sp held fuel 5 [.int .u8 n] = some x) : 0 ≤ n ∧ n ≤ 255 := by
  obtain ⟨k, e, hk⟩ := Rd.u8 ⟨_, _, h⟩
  cases e
  exact hk
theorem part_tr {s : SV} {fuel : Nat} {x : DataW H × List MemPlace} (h : DataW.trod enc Try.prog W base sp held fuel 32 [.slice s.a s.n s.c] = some x) (hw : ∀ n ∈ x.1.weights Try.prog 32, n ≤ reachBytes) :
    s.n * 32 ≤ 140737488355328 := by
  rcases Go.Deep.open_slice Try.underlying32 h with ⟨hcs, _⟩ | ⟨ad, len', cap', m, n, D, Pl, hcs, _, hl, hm, hmm, rfl, hx⟩
  · have := (List.cons.inj hcs).1
    simp only [Value.slice.injEq] at this
    omega
  · have := (List.cons.inj hcs).1
    simp only [Value.slice.injEq] at this
    obtain ⟨_, e, _⟩ := this
    have h2 := hw ((((List.range len').map D).length + ((List.range (m - len')).map fun j => D (len' + j)).length) * Try.prog.bytesOf 76) (by simp [DataW.weights, Try.underlying32])
    rw [show Try.prog.bytesOf 76 = 32 by kernel_rfl] at h2
    simp only [List.length_map, List.length_range, reachBytes] at h2
    omega

theorem open_file2 {v : Value} {d : DataW H} {p : List MemPlace} {r : Reach} {b0 : Nat} (hv : Value.okWide Try.prog W r b0 36 v) (h : DataW.Trod enc Try.prog W base sp held 36 v d p) (hw : ∀ n ∈ d.weights Try.prog 36, n ≤ reachBytes) :
    ∃ F : FV, v = .agg (fc F) ∧ FileIn W F := by
  obtain ⟨F, rfl, hF, xs, h1, h2, h3, h4⟩ := open_file hv h
  obtain ⟨fuel, hf⟩ := h
  refine ⟨F, rfl, ?_⟩
  obtain ⟨m0, y0, k0, _⟩ := part Try.underlying36 hf 0 _ rfl
  obtain ⟨m2, y2, k2, _⟩ := part Try.underlying36 hf 2 _ rfl
  obtain ⟨m3, y3, k3, w3⟩ := part Try.underlying36 hf 3 _ rfl
  replace k0 : DataW.trod enc Try.prog W base sp held m0 5 (((fc F).toList.drop 0).take (Try.prog.cellsOf 5)) = some y0 := k0
  rw [show Try.prog.cellsOf 5 = 1 by kernel_rfl] at k0
  replace k2 : DataW.trod enc Try.prog W base sp held m2 31 (((fc F).toList.drop 11).take (Try.prog.cellsOf 31)) = some y2 := k2
  rw [show Try.prog.cellsOf 31 = 7 by kernel_rfl] at k2
  replace k3 : DataW.trod enc Try.prog W base sp held m3 34 (((fc F).toList.drop 18).take (Try.prog.cellsOf 34)) = some y3 := k3
  rw [show Try.prog.cellsOf 34 = 7 by kernel_rfl] at k3
  obtain ⟨n0, z0, j0, _⟩ := part Try.underlying31 k2 0 _ rfl
  obtain ⟨n2, z2, j2, _⟩ := part Try.underlying31 k2 2 _ rfl
  obtain ⟨n3, z3, j3, v3⟩ := part Try.underlying34 k3 0 _ rfl
  replace j0 : DataW.trod enc Try.prog W base sp held n0 5 (((((fc F).toList.drop 11).take 7).drop 0).take (Try.prog.cellsOf 5)) = some z0 := j0
  rw [show Try.prog.cellsOf 5 = 1 by kernel_rfl] at j0
  replace j2 : DataW.trod enc Try.prog W base sp held n2 5 (((((fc F).toList.drop 11).take 7).drop 2).take (Try.prog.cellsOf 5)) = some z2 := j2
  rw [show Try.prog.cellsOf 5 = 1 by kernel_rfl] at j2
  replace j3 : DataW.trod enc Try.prog W base sp held n3 32 (((((fc F).toList.drop 18).take 7).drop 0).take (Try.prog.cellsOf 32)) = some z3 := j3
  rw [show Try.prog.cellsOf 32 = 1 by kernel_rfl] at j3
  have b3 := part_tr (s := F.tr) j3 fun n hn => hw n (w3 n (v3 n hn))
  exact ⟨hF, part_u8 k0, part_u8 j0, part_u8 j2, xs, h4, h1, by omega⟩
theorem open_file3 {v : Value} {d : DataW H} {p : List MemPlace} {r : Reach} {b0 : Nat} {ts : List TypeId} {ds : List (DataW H)} (hsz : (DataW.weightsEach Try.prog ts ds).all (· ≤ reachBytes) = true) (j : Nat) (ht : ts[j]? = some 36) (hd : ds[j]? = some d)
    (hv : Value.okWide Try.prog W r b0 36 v) (h : DataW.Trod enc Try.prog W base sp held 36 v d p) : ∃ F : FV, v = .agg (fc F) ∧ FileIn W F :=
  open_file2 hv h fun n hn => by simpa using List.all_eq_true.1 hsz n (DataW.weights_mem_each ht hd n hn)
end Go.Proofs.Ytngoenbdimlppaa.Opened
