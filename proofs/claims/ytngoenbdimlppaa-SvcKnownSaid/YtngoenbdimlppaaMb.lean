/- Plain laws of the machine: what holds of its state behind any call. -/
import Derived.Test.YtngoenbdimlppaaM8
namespace Go.Proofs.Ytngoenbdimlppaa.Svc
open Go.RowKit
set_option linter.unusedVariables false
set_option linter.unusedSimpArgs false

/-- What holds of a machine's state. -/
structure Inv (s : MS) : Prop where
  st : s.st = 1 ∨ s.st = 2 ∨ s.st = 3 ∨ s.st = 4 ∨ s.st = 5
  r2 : s.st = 2 → s.runs = true
  r4 : s.st = 4 → s.runs = true
  n1 : s.st = 1 → s.runs = false
  n5 : s.st = 5 → s.runs = false
  d3 : s.st = 3 → s.due = 9223372036854775807

/-- What a call tells of processes (r: had it one ahead of it). -/
def Prof (F : FV) (r : Bool) (o : OV) (s' : MS) : Prop :=
  (o.sp = false ∧ o.ki = false ∧ s'.runs = r ∧ (r = true → s'.st ≠ 1 ∧ s'.st ≠ 5) ∧ (r = false → s'.st ≠ 4)) ∨
  (o.sp = true ∧ o.ki = false ∧ r = false ∧ F.kind = 1 ∧ s'.runs = true ∧ (s'.st = 2 ∨ s'.st = 3)) ∨
  (o.sp = false ∧ o.ki = true ∧ r = true ∧ s'.runs = true ∧ s'.st = 4) ∨
  (o.sp = false ∧ o.ki = true ∧ r = true ∧ s'.runs = false ∧ s'.st = 5)

theorem inv_new : Inv newS := ⟨.inl rfl, by decide, by decide, fun _ => rfl, by decide, by decide⟩
theorem endSt_cases (code : Int) : endSt code = 1 ∨ endSt code = 5 := by unfold endSt; split <;> simp
theorem inv_run (s : MS) (h : Inv s) (hr : s.runs = true) : s.st = 2 ∨ s.st = 3 ∨ s.st = 4 := by
  rcases h.st with h1 | h1 | h1 | h1 | h1
  · have := h.n1 h1; rw [hr] at this; cases this
  · exact .inl h1
  · exact .inr (.inl h1)
  · exact .inr (.inr h1)
  · have := h.n5 h1; rw [hr] at this; cases this
theorem inv_due (s : MS) (h : Inv s) (hd : s.due ≠ 9223372036854775807) : s.st = 1 ∨ s.st = 2 ∨ s.st = 4 ∨ s.st = 5 := by
  rcases h.st with h1 | h1 | h1 | h1 | h1
  · exact .inl h1
  · exact .inr (.inl h1)
  · exact absurd (h.d3 h1) hd
  · exact .inr (.inr (.inl h1))
  · exact .inr (.inr (.inr h1))
theorem stay (F : FV) (s : MS) (h : Inv s) (a : Bool) (re : Int) : Prof F s.runs ⟨false, false, a, re⟩ s := by
  refine .inl ⟨rfl, rfl, rfl, fun hr => ?_, fun hr h4 => ?_⟩
  · rcases inv_run s h hr with h1 | h1 | h1 <;> omega
  · have := h.r4 h4; rw [hr] at this; cases this

theorem inv_start (F : FV) (s : MS) (now : Int) (h : Inv s) : Inv (startV F s now).2 ∧ Prof F s.runs (startV F s now).1.1 (startV F s now).2 := by
  unfold startV
  by_cases c4 : s.st = 4
  · rw [if_pos c4]; exact ⟨h, stay F s h _ _⟩
  rw [if_neg c4]
  by_cases c2 : s.st = 2
  · rw [if_pos c2]; exact ⟨h, stay F s h _ _⟩
  rw [if_neg c2]
  by_cases c3 : s.st = 3
  · rw [if_pos c3]; exact ⟨h, stay F s h _ _⟩
  rw [if_neg c3]
  have hr : s.runs = false := by
    rcases h.st with h1 | h1 | h1 | h1 | h1
    · exact h.n1 h1
    · exact absurd h1 c2
    · exact absurd h1 c3
    · exact absurd h1 c4
    · exact h.n5 h1
  unfold beginV toS
  split
  · rename_i hk
    split
    · split
      · exact ⟨⟨by simp, by simp, by simp, by simp, by simp, by simp⟩, .inl ⟨rfl, rfl, rfl, by simp, by simp⟩⟩
      · exact ⟨⟨by simp, by simp, by simp, by simp, by simp, by simp⟩, .inr (.inl ⟨rfl, rfl, hr, hk, rfl, by simp⟩)⟩
    · split
      · exact ⟨⟨by simp, by simp, by simp, by simp, by simp, by simp⟩, .inr (.inl ⟨rfl, rfl, hr, hk, rfl, by simp⟩)⟩
      · exact ⟨⟨by simp, by simp, by simp, by simp, by simp, by simp⟩, .inr (.inl ⟨rfl, rfl, hr, hk, rfl, by simp⟩)⟩
  · exact ⟨⟨by simp, by simp, by simp, by simp, by simp, by simp⟩, .inl ⟨rfl, rfl, rfl, by simp, by simp⟩⟩

theorem inv_stop (F : FV) (s : MS) (now : Int) (h : Inv s) : Inv (stopV F s now).2 ∧ Prof F s.runs (stopV F s now).1 (stopV F s now).2 := by
  unfold stopV
  by_cases c4 : s.st = 4
  · rw [if_pos c4]
    have h' : Inv { s with late := false } := ⟨h.st, h.r2, h.r4, h.n1, h.n5, h.d3⟩
    exact ⟨h', stay F _ h' _ _⟩
  rw [if_neg c4]
  cases hr : s.runs
  · rw [if_neg (by decide)]
    exact ⟨⟨by simp [toS], by simp [toS], by simp [toS], by simp [toS, hr], by simp [toS], by simp [toS]⟩, .inl ⟨rfl, rfl, hr, by simp, by simp [toS]⟩⟩
  · rw [if_pos rfl]
    exact ⟨⟨by simp [killS], by simp [killS], by simp [killS, hr], by simp [killS], by simp [killS], by simp [killS]⟩, .inr (.inr (.inl ⟨rfl, rfl, rfl, hr, rfl⟩))⟩

theorem inv_end (F : FV) (s : MS) (code now : Int) : Inv (endS F { s with runs := false } code now) := by
  rcases endSt_cases code with e | e <;> exact ⟨by simp [endS, e], by simp [endS, e], by simp [endS, e], by simp [endS], by simp [endS], by simp [endS, e]⟩
theorem inv_exit (F : FV) (s : MS) (code now : Int) (h : Inv s) : Inv (exitV F s code now).2 ∧ Prof F false (exitV F s code now).1 (exitV F s code now).2 := by
  have prof : ∀ (a b : Bool) (re : Int), Prof F false ⟨false, false, a, re⟩ (endS F { s with runs := false } code now) := fun a b re =>
    .inl ⟨rfl, rfl, rfl, by simp, fun _ => by rcases endSt_cases code with e | e <;> simp [endS, e]⟩
  have tos : ∀ st, st = 1 ∨ st = 3 ∨ st = 5 → Inv (toS { s with runs := false } st) ∧ ∀ (a : Bool) (re : Int), Prof F false ⟨false, false, a, re⟩ (toS { s with runs := false } st) := fun st hst => by
    rcases hst with rfl | rfl | rfl <;> exact ⟨⟨by simp [toS], by simp [toS], by simp [toS], by simp [toS], by simp [toS], by simp [toS]⟩, fun a re => .inl ⟨rfl, rfl, rfl, by simp, by simp [toS]⟩⟩
  unfold exitV
  cases hr : s.runs
  · rw [if_neg (by decide)]
    exact ⟨h, .inl ⟨rfl, rfl, hr, by simp, fun _ h4 => by have := h.r4 h4; rw [hr] at this; cases this⟩⟩
  · rw [if_pos rfl]
    split
    · unfold failsV
      split
      · split
        · split
          · exact ⟨(tos 3 (by simp)).1, (tos 3 (by simp)).2 _ _⟩
          · exact ⟨(tos 1 (by simp)).1, (tos 1 (by simp)).2 _ _⟩
        · exact ⟨inv_end F s code now, prof _ false _⟩
      · exact ⟨inv_end F s code now, prof _ false _⟩
    · split
      · exact ⟨inv_end F s code now, prof _ false _⟩
      · unfold goneV
        split
        · exact ⟨(tos 5 (by simp)).1, (tos 5 (by simp)).2 _ _⟩
        · exact ⟨(tos 1 (by simp)).1, (tos 1 (by simp)).2 _ _⟩

theorem inv_tick (F : FV) (s : MS) (now : Int) (h : Inv s) : Inv (tickV F s now).2 ∧ Prof F s.runs (tickV F s now).1 (tickV F s now).2 := by
  unfold tickV
  split
  · exact ⟨h, stay F s h _ _⟩
  split
  · exact ⟨h, stay F s h _ _⟩
  rename_i hd _
  by_cases c2 : s.st = 2
  · rw [if_pos c2]
    have hr := h.r2 c2
    unfold begunV
    split
    · exact ⟨⟨by simp [toS], by simp [toS], by simp [toS], by simp [toS], by simp [toS], by simp [toS]⟩, .inl ⟨rfl, rfl, rfl, by simp [toS], by simp [hr]⟩⟩
    · exact ⟨⟨by simp, by simp, by simp [hr], by simp, by simp, by simp⟩, .inr (.inr (.inl ⟨rfl, rfl, hr, hr, rfl⟩))⟩
  rw [if_neg c2]
  by_cases c4 : s.st = 4
  · rw [if_pos c4]
    exact ⟨⟨by simp [lostV], by simp [lostV], by simp [lostV], by simp [lostV], by simp [lostV], by simp [lostV]⟩, .inr (.inr (.inr ⟨rfl, rfl, h.r4 c4, rfl, rfl⟩))⟩
  rw [if_neg c4]
  have h' : Inv { s with due := 9223372036854775807 } := ⟨h.st, h.r2, h.r4, h.n1, h.n5, fun _ => rfl⟩
  exact ⟨h', stay F _ h' _ _⟩
end Go.Proofs.Ytngoenbdimlppaa.Svc
