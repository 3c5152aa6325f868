/- A region that draws its order, whose last operation waits for all the others: the region without it, then it. -/
import Derived.Deep.RegionHeld3
namespace Go.Proofs.Ytngoenbdimlppaa.Svc
open Go
set_option linter.unusedVariables false
set_option linter.unusedSimpArgs false

/-- Q, but N at the end. -/
def Qn (Q : Exit → Act → World → Prop) (N : Act → World → Prop) : Exit → Act → World → Prop
  | .normal, a, w => N a w
  | e, a, w => Q e a w
section
variable {P : Program} {ops : Array Oper} {o : Oper} {Q : Exit → Act → World → Prop} {N : Act → World → Prop} {md : Region.Mode}
theorem opwp_qn {o : Oper} {a : Act} {w : World} {K : Act → World → Prop} (hh : o.wp P a w K (Qn Q N)) : o.wp P a w K Q := by
  unfold Oper.wp at *
  generalize (execOp a.eval o).run P w = r at *
  cases r with
  | ok n w' => cases n <;> simp only [Oper.upon] at hh ⊢ <;> exact hh
  | halt x w' => cases x <;> simp only [Oper.upon] at hh ⊢ <;> exact hh

/-- The edges of the region go down. -/
def Region.downB (md : Region.Mode) (ops : Array Oper) : Bool :=
  (List.range ops.size).all fun j => ((ops[j]?).map (fun o => o.guard.isNone && o.after.all fun e => !Region.binds md e || decide (e.on < j))).getD true
/-- The operation waits for all n. -/
def Region.lastB (md : Region.Mode) (o : Oper) (n : Nat) : Bool :=
  o.guard.isNone && (o.after.all fun e => !Region.binds md e || decide (e.on < n)) && (List.range n).all fun k => o.after.any fun e => Region.binds md e && e.on == k

theorem down_spec (h : Region.downB md ops = true) {j : Nat} {oj : Oper} (hj : ops[j]? = some oj) : oj.guard = none ∧ ∀ e ∈ oj.after, Region.binds md e = true → e.on < j := by
  have hlt : j < ops.size := (Array.getElem?_eq_some_iff.1 hj).1
  have := List.all_eq_true.1 h j (List.mem_range.2 hlt)
  rw [hj] at this
  simp only [Option.map_some, Option.getD_some, Bool.and_eq_true, Option.isNone_iff_eq_none] at this
  refine ⟨this.1, fun e he hb => ?_⟩
  have h2 := Array.all_eq_true'.1 this.2 e he
  simpa [hb] using h2
theorem last_spec {n : Nat} (h : Region.lastB md o n = true) : o.guard = none ∧ (∀ e ∈ o.after, Region.binds md e = true → e.on < n) ∧ ∀ k, k < n → ∃ e ∈ o.after, Region.binds md e = true ∧ e.on = k := by
  unfold Region.lastB at h
  simp only [Bool.and_eq_true, Option.isNone_iff_eq_none] at h
  refine ⟨h.1.1, fun e he hb => ?_, fun k hk => ?_⟩
  · have h2 := Array.all_eq_true'.1 h.1.2 e he
    simpa [hb] using h2
  · have h2 := List.all_eq_true.1 h.2 k (List.mem_range.2 hk)
    obtain ⟨e, he, hb⟩ := Array.any_eq_true'.1 h2
    simp only [Bool.and_eq_true, beq_iff_eq] at hb
    exact ⟨e, he, hb.1, hb.2⟩

theorem getD_push (L : Array Bool) (k : Nat) : (L.push false).getD k false = L.getD k false := by
  rcases Nat.lt_trichotomy k L.size with h | h | h
  · simp [Array.getElem?_push_lt, h]
  · subst h; simp
  · have h1 : (L.push false)[k]? = none := Array.getElem?_eq_none (by simp; omega)
    simp [h1, Array.getElem?_eq_none (Nat.le_of_lt h)]
theorem getD_push_lt {L : Array Bool} {k : Nat} (h : k < L.size) (d : Bool) : (L.push false).getD k d = L.getD k d := by
  simp [Array.getElem?_push_lt, h]
theorem set_push {L : Array Bool} {k : Nat} (h : k < L.size) : (L.push false).setIfInBounds k true = (L.setIfInBounds k true).push false := by
  refine Array.ext_getElem? fun j => ?_
  simp only [Array.getElem?_setIfInBounds, Array.getElem?_push, Array.size_push, Array.size_setIfInBounds]
  by_cases e : k = j
  · subst e
    have h1 : k ≠ L.size := by omega
    have h2 : k < L.size + 1 := by omega
    simp [h, h1, h2]
  · simp [e]
theorem push_lt {j : Nat} (h : j < ops.size) : (ops.push o)[j]? = ops[j]? := by
  simp [Array.getElem?_push_lt, h]

theorem ready_push {L : Array Bool} (hL : L.size = ops.size) {j : Nat} (hj : j < ops.size) : j ∈ Region.ready md (ops.push o) (L.push false) ↔ j ∈ Region.ready md ops L := by
  rw [mem_ready, mem_ready, push_lt hj, getD_push_lt (by omega)]
  simp only [getD_push]
theorem ready_last {L : Array Bool} (hL : L.size = ops.size) (hl : Region.lastB md o ops.size = true) : ops.size ∈ Region.ready md (ops.push o) (L.push false) ↔ ∀ k, k < ops.size → L.getD k false = true := by
  obtain ⟨_, h1, h2⟩ := last_spec hl
  rw [mem_ready]
  constructor
  · intro ⟨_, oj, hoj, hall⟩ k hk
    have : oj = o := by simpa using hoj.symm
    subst this
    obtain ⟨e, he, hb, rfl⟩ := h2 k hk
    have := hall e he hb
    rwa [getD_push] at this
  · intro h
    refine ⟨by simp [← hL], o, by simp, fun e he hb => ?_⟩
    rw [getD_push]
    exact h _ (h1 e he hb)
theorem ready_all {L : Array Bool} (hL : L.size = ops.size) (h : ∀ k, k < ops.size → L.getD k false = true) : Region.ready md ops L = [] := by
  refine List.eq_nil_iff_forall_not_mem.2 fun j hj => ?_
  obtain ⟨h0, oj, hoj, _⟩ := mem_ready.1 hj
  have hlt : j < ops.size := (Array.getElem?_eq_some_iff.1 hoj).1
  have := h j hlt
  have hlt' : j < L.size := by omega
  simp [hlt'] at h0 this
  rw [h0] at this; cases this
theorem all_ready {L : Array Bool} (hL : L.size = ops.size) (hd : Region.downB md ops = true) (h : Region.ready md ops L = []) : ∀ k, k < ops.size → L.getD k false = true := by
  intro k
  induction k using Nat.strongRecOn with
  | _ k ih =>
    intro hk
    by_cases hc : L.getD k false = true
    · exact hc
    exfalso
    have hlt : k < L.size := by omega
    have : k ∈ Region.ready md ops L := by
      rw [mem_ready]
      refine ⟨by simp [hlt] at hc ⊢; exact hc, ops[k], by simp [hk], fun e he hb => ?_⟩
      have := (down_spec hd (j := k) (oj := ops[k]) (by simp [hk])).2 e he hb
      exact ih e.on this (by omega)
    rw [h] at this; cases this
theorem ready_end {L : Array Bool} (hL : L.size = ops.size) (h : ∀ k, k < ops.size → L.getD k false = true) : Region.ready md (ops.push o) ((L.push false).setIfInBounds ops.size true) = [] := by
  refine ready_all (by simp [hL]) fun k hk => ?_
  by_cases e : ops.size = k
  · subst e; simp [← hL]
  · rw [getD_set_ne false e, getD_push]
    exact h k (by simp at hk; omega)

theorem wpOp_lift {i : Nat} {a : Act} {w : World} {K K' : Act → World → Prop} (hd : Region.downB md ops = true) (hi : i < ops.size) (hK : ∀ a w, K a w → K' a w) (h : wpOp P ops (Qn Q N) i K a w) : wpOp P (ops.push o) Q i K' a w := by
  have hoi : ops[i]? = some ops[i] := by simp [hi]
  have hg := (down_spec hd hoi).1
  unfold wpOp at *
  rw [push_lt hi]
  rw [hoi] at h ⊢
  simp only [Region.wanted, hg] at h ⊢
  exact h.imp (fun h => opwp_qn (Oper.wp_mono hK h)) id

theorem wpAny_last (hd : Region.downB md ops = true) (hl : Region.lastB md o ops.size = true) : ∀ (fuel : Nat) (L : Array Bool) (a : Act) (w : World), L.size = ops.size →
    wpAny P md ops (Qn Q fun a w => o.wp P a w (fun a w => Q .normal a w) Q) fuel L a w → wpAny P md (ops.push o) Q (fuel + 1) (L.push false) a w := by
  have hg := (last_spec hl).1
  have hend : ∀ (fuel : Nat) (L : Array Bool) (a : Act) (w : World), L.size = ops.size → (∀ k, k < ops.size → L.getD k false = true) → o.wp P a w (fun a w => Q .normal a w) Q →
      wpOp P (ops.push o) Q ops.size (wpAny P md (ops.push o) Q fuel ((L.push false).setIfInBounds ops.size true)) a w := by
    intro fuel L a w hL hall hN
    unfold wpOp
    rw [show (ops.push o)[ops.size]? = some o by simp]
    simp only [Region.wanted, hg]
    refine Or.inl (Oper.wp_mono (fun a w hq => ?_) hN)
    cases fuel with
    | zero => exact ⟨ready_end hL hall, hq⟩
    | succ fuel => exact ⟨fun _ => hq, by rw [ready_end hL hall]; simp⟩
  intro fuel
  induction fuel with
  | zero =>
    intro L a w hL H
    have hall := all_ready hL hd H.1
    have hn := (ready_last (o := o) hL hl).2 hall
    refine ⟨fun h0 => (by rw [h0] at hn; cases hn), fun i hi => ?_⟩
    have hlt : i < ops.size + 1 := by
      obtain ⟨_, oj, hoj, _⟩ := mem_ready.1 hi
      have := (Array.getElem?_eq_some_iff.1 hoj).1
      simpa using this
    by_cases e : i = ops.size
    · subst e; exact hend 0 L a w hL hall H.2
    · have := (ready_push (o := o) hL (by omega)).1 hi
      rw [H.1] at this; cases this
  | succ fuel ih =>
    intro L a w hL H
    have hne : Region.ready md (ops.push o) (L.push false) ≠ [] := by
      intro h0
      by_cases hr : Region.ready md ops L = []
      · have hn := (ready_last (o := o) hL hl).2 (all_ready hL hd hr)
        rw [h0] at hn; cases hn
      · obtain ⟨j, hj⟩ := List.exists_mem_of_ne_nil _ hr
        have hjl : j < ops.size := by
          obtain ⟨_, oj, hoj, _⟩ := mem_ready.1 hj
          exact (Array.getElem?_eq_some_iff.1 hoj).1
        have := (ready_push (o := o) hL hjl).2 hj
        rw [h0] at this; cases this
    refine ⟨fun h0 => absurd h0 hne, fun i hi => ?_⟩
    have hlt : i < ops.size + 1 := by
      obtain ⟨_, oj, hoj, _⟩ := mem_ready.1 hi
      have := (Array.getElem?_eq_some_iff.1 hoj).1
      simpa using this
    by_cases e : i = ops.size
    · subst e
      have hall := (ready_last hL hl).1 hi
      exact hend (fuel + 1) L a w hL hall (H.1 (ready_all hL hall))
    · have hi' := (ready_push (o := o) hL (by omega)).1 hi
      rw [set_push (by omega)]
      exact wpOp_lift hd (by omega) (fun a w hh => ih _ a w (by simp [hL]) hh) (H.2 i hi')

/-- A region that draws, whose last operation waits for all the others. -/
theorem wp_region_last {id : Nat} {a : Act} {w : World} (hm : P.follows .mixedOrders = true) (hd : Region.downB .any ops = true) (hl : Region.lastB .any o ops.size = true) {S : World → Prop} (hS : S w.drew)
    (h : S w.drew → wpAnyH P .any ops (Qn Q fun a w => o.wp P a w (fun a w => Q .normal a w) Q) S ops.size (Array.replicate ops.size false) a w.drew) : (Code.region id (ops.push o) true).wp P Q a w :=
  wp_region_any hm (by
    have := wpAny_last (o := o) hd hl ops.size (Array.replicate ops.size false) a w.drew (by simp) (wpAny_of_held _ _ _ _ (h hS))
    rw [show (Array.replicate ops.size false).push false = Array.replicate (ops.push o).size false by simp [Array.replicate_succ]] at this
    rw [show (ops.push o).size = ops.size + 1 by simp]
    simpa using this)
/-- The same, of a region that is written out. -/
theorem wp_region_pop {id : Nat} {full : Array Oper} {a : Act} {w : World} (hb : full.back? = some o) (hm : P.follows .mixedOrders = true) (hd : Region.downB .any full.pop = true) (hl : Region.lastB .any o full.pop.size = true) {S : World → Prop} (hS : S w.drew)
    (h : S w.drew → wpAnyH P .any full.pop (Qn Q fun a w => o.wp P a w (fun a w => Q .normal a w) Q) S full.pop.size (Array.replicate full.pop.size false) a w.drew) : (Code.region id full true).wp P Q a w := by
  have hne : full.size ≠ 0 := by
    intro h0
    have : full = #[] := Array.eq_empty_of_size_eq_zero h0
    subst this; simp at hb
  obtain ⟨bs, c, rfl⟩ := Array.eq_push_of_size_ne_zero hne
  have : c = o := by simpa using hb
  subst this
  simp only [Array.pop_push] at hd hl h
  exact wp_region_last hm hd hl hS h
end
end Go.Proofs.Ytngoenbdimlppaa.Svc
