/- The contract of civil.Long: how many days a month has. -/
import Derived.Lib.Hide
import Derived.Test.YtgeclcepfcfekaaA1
namespace Go.Proofs.Ytgeclcepfcfekaa.LongP
open Go.RowKit
open Go.Proofs.YtgeclcepfcfekaaW.PrintWords (Drawn0)

def leapB (y : Int) : Bool := decide (y % 4 = 0) && (decide (y % 100 ≠ 0) || decide (y % 400 = 0))
theorem leap_calls (y : Int) (w : World) (h1 : 1 ≤ y) (h2 : y ≤ 9999) : Calls Try.prog 24 #[.int .i64 y] w fun e w' => e = .returned (.bool (leapB y)) ∧ w' = w := by
  by_cases c4 : y % 4 = 0
  · by_cases c100 : y % 100 = 0
    · by_cases c400 : y % 400 = 0
      · have hr : leapB y = true := by unfold leapB; simp [c4, c400]
        have HR := Lib.hid hr
        have b4 : (y % 4 == 0) = true := by simpa using c4
        have b100 : (y % 100 != 0) = false := by simpa using c100
        have b400 : (y % 400 == 0) = true := by simpa using c400
        clear hr c4 c100 c400
        go_enter Try.func24, Try.ntmps24
        go_wp2
        go_ret
        exact ⟨by rw [HR.out]; rfl, rfl⟩
      · have hr : leapB y = false := by unfold leapB; simp [c100, c400]
        have HR := Lib.hid hr
        have b4 : (y % 4 == 0) = true := by simpa using c4
        have b100 : (y % 100 != 0) = false := by simpa using c100
        have b400 : (y % 400 == 0) = false := by simpa using c400
        clear hr c4 c100 c400
        go_enter Try.func24, Try.ntmps24
        go_wp2
        go_ret
        exact ⟨by rw [HR.out]; rfl, rfl⟩
    · have hr : leapB y = true := by unfold leapB; simp [c4, c100]
      have HR := Lib.hid hr
      have b4 : (y % 4 == 0) = true := by simpa using c4
      have b100 : (y % 100 != 0) = true := by simpa using c100
      clear hr c4 c100
      go_enter Try.func24, Try.ntmps24
      go_wp2
      go_ret
      exact ⟨by rw [HR.out]; rfl, rfl⟩
  · have hr : leapB y = false := by unfold leapB; simp [c4]
    have HR := Lib.hid hr
    have b4 : (y % 4 == 0) = false := by simpa using c4
    clear hr c4
    go_enter Try.func24, Try.ntmps24
    go_wp2
    go_ret
    exact ⟨by rw [HR.out]; rfl, rfl⟩

/-- How many days a month has. -/
def longS (y m : Int) : Int :=
  if y < 1 ∨ 9999 < y ∨ m < 1 ∨ 12 < m then 0 else if m = 2 then (if leapB y = true then 29 else 28) else if m = 4 ∨ m = 6 ∨ m = 9 ∨ m = 11 then 30 else 31

theorem long_out (y m : Int) (w : World) (h : y < 1 ∨ 9999 < y ∨ m < 1 ∨ 12 < m) : Calls Try.prog 13 #[.int .i64 y, .int .i64 m] w fun e w' => e = .returned (.int .i64 0) ∧ w' = w := by
  by_cases h1 : y < 1
  · clear h
    go_enter Try.func13, Try.ntmps13
    go_wp2
    go_ret
    exact ⟨rfl, rfl⟩
  · by_cases h2 : 9999 < y
    · clear h
      go_enter Try.func13, Try.ntmps13
      go_wp2
      go_ret
      exact ⟨rfl, rfl⟩
    · by_cases h3 : m < 1
      · clear h
        go_enter Try.func13, Try.ntmps13
        go_wp2
        go_ret
        exact ⟨rfl, rfl⟩
      · have h4 : 12 < m := by omega
        clear h
        go_enter Try.func13, Try.ntmps13
        go_wp2
        go_ret
        exact ⟨rfl, rfl⟩
theorem long_feb (y : Int) (b : Bool) (w : World) (h1 : 1 ≤ y) (h2 : y ≤ 9999) (hb : leapB y = b) : Calls Try.prog 13 #[.int .i64 y, .int .i64 2] w fun e w' => e = .returned (.int .i64 (if b = true then 29 else 28)) ∧ w' = w := by
  have hl := leap_calls y w h1 h2
  rw [hb] at hl
  have HL := Lib.hid hl
  clear hl hb
  have hix : ∀ w : World, (Instr.index 51 (.agg #[.int .i64 31, .int .i64 28, .int .i64 31, .int .i64 30, .int .i64 31, .int .i64 30, .int .i64 31, .int .i64 31, .int .i64 30, .int .i64 31, .int .i64 30, .int .i64 31]) (.int .i64 1)).run Try.prog w = .ok (.int .i64 28) w := fun _ => by kernel_rfl
  cases b
  · go_enter Try.func13, Try.ntmps13
    go_wp2_with (go_at_call 24; refine HL.out.mono ?_; rintro e w' ⟨rfl, rfl⟩)
    go_ret
    exact ⟨rfl, rfl⟩
  · go_enter Try.func13, Try.ntmps13
    go_wp2_with (go_at_call 24; refine HL.out.mono ?_; rintro e w' ⟨rfl, rfl⟩)
    go_ret
    exact ⟨rfl, rfl⟩
theorem long_1 (y : Int) (w : World) (h1 : 1 ≤ y) (h2 : y ≤ 9999) : Calls Try.prog 13 #[.int .i64 y, .int .i64 1] w fun e w' => e = .returned (.int .i64 31) ∧ w' = w := by
  have hix : ∀ w : World, (Instr.index 51 (.agg #[.int .i64 31, .int .i64 28, .int .i64 31, .int .i64 30, .int .i64 31, .int .i64 30, .int .i64 31, .int .i64 31, .int .i64 30, .int .i64 31, .int .i64 30, .int .i64 31]) (.int .i64 0)).run Try.prog w = .ok (.int .i64 31) w := fun _ => by kernel_rfl
  go_enter Try.func13, Try.ntmps13
  go_wp2
  go_ret
  exact ⟨rfl, rfl⟩
theorem long_3 (y : Int) (w : World) (h1 : 1 ≤ y) (h2 : y ≤ 9999) : Calls Try.prog 13 #[.int .i64 y, .int .i64 3] w fun e w' => e = .returned (.int .i64 31) ∧ w' = w := by
  have hix : ∀ w : World, (Instr.index 51 (.agg #[.int .i64 31, .int .i64 28, .int .i64 31, .int .i64 30, .int .i64 31, .int .i64 30, .int .i64 31, .int .i64 31, .int .i64 30, .int .i64 31, .int .i64 30, .int .i64 31]) (.int .i64 2)).run Try.prog w = .ok (.int .i64 31) w := fun _ => by kernel_rfl
  go_enter Try.func13, Try.ntmps13
  go_wp2
  go_ret
  exact ⟨rfl, rfl⟩
theorem long_4 (y : Int) (w : World) (h1 : 1 ≤ y) (h2 : y ≤ 9999) : Calls Try.prog 13 #[.int .i64 y, .int .i64 4] w fun e w' => e = .returned (.int .i64 30) ∧ w' = w := by
  have hix : ∀ w : World, (Instr.index 51 (.agg #[.int .i64 31, .int .i64 28, .int .i64 31, .int .i64 30, .int .i64 31, .int .i64 30, .int .i64 31, .int .i64 31, .int .i64 30, .int .i64 31, .int .i64 30, .int .i64 31]) (.int .i64 3)).run Try.prog w = .ok (.int .i64 30) w := fun _ => by kernel_rfl
  go_enter Try.func13, Try.ntmps13
  go_wp2
  go_ret
  exact ⟨rfl, rfl⟩
theorem long_5 (y : Int) (w : World) (h1 : 1 ≤ y) (h2 : y ≤ 9999) : Calls Try.prog 13 #[.int .i64 y, .int .i64 5] w fun e w' => e = .returned (.int .i64 31) ∧ w' = w := by
  have hix : ∀ w : World, (Instr.index 51 (.agg #[.int .i64 31, .int .i64 28, .int .i64 31, .int .i64 30, .int .i64 31, .int .i64 30, .int .i64 31, .int .i64 31, .int .i64 30, .int .i64 31, .int .i64 30, .int .i64 31]) (.int .i64 4)).run Try.prog w = .ok (.int .i64 31) w := fun _ => by kernel_rfl
  go_enter Try.func13, Try.ntmps13
  go_wp2
  go_ret
  exact ⟨rfl, rfl⟩
theorem long_6 (y : Int) (w : World) (h1 : 1 ≤ y) (h2 : y ≤ 9999) : Calls Try.prog 13 #[.int .i64 y, .int .i64 6] w fun e w' => e = .returned (.int .i64 30) ∧ w' = w := by
  have hix : ∀ w : World, (Instr.index 51 (.agg #[.int .i64 31, .int .i64 28, .int .i64 31, .int .i64 30, .int .i64 31, .int .i64 30, .int .i64 31, .int .i64 31, .int .i64 30, .int .i64 31, .int .i64 30, .int .i64 31]) (.int .i64 5)).run Try.prog w = .ok (.int .i64 30) w := fun _ => by kernel_rfl
  go_enter Try.func13, Try.ntmps13
  go_wp2
  go_ret
  exact ⟨rfl, rfl⟩
theorem long_7 (y : Int) (w : World) (h1 : 1 ≤ y) (h2 : y ≤ 9999) : Calls Try.prog 13 #[.int .i64 y, .int .i64 7] w fun e w' => e = .returned (.int .i64 31) ∧ w' = w := by
  have hix : ∀ w : World, (Instr.index 51 (.agg #[.int .i64 31, .int .i64 28, .int .i64 31, .int .i64 30, .int .i64 31, .int .i64 30, .int .i64 31, .int .i64 31, .int .i64 30, .int .i64 31, .int .i64 30, .int .i64 31]) (.int .i64 6)).run Try.prog w = .ok (.int .i64 31) w := fun _ => by kernel_rfl
  go_enter Try.func13, Try.ntmps13
  go_wp2
  go_ret
  exact ⟨rfl, rfl⟩
theorem long_8 (y : Int) (w : World) (h1 : 1 ≤ y) (h2 : y ≤ 9999) : Calls Try.prog 13 #[.int .i64 y, .int .i64 8] w fun e w' => e = .returned (.int .i64 31) ∧ w' = w := by
  have hix : ∀ w : World, (Instr.index 51 (.agg #[.int .i64 31, .int .i64 28, .int .i64 31, .int .i64 30, .int .i64 31, .int .i64 30, .int .i64 31, .int .i64 31, .int .i64 30, .int .i64 31, .int .i64 30, .int .i64 31]) (.int .i64 7)).run Try.prog w = .ok (.int .i64 31) w := fun _ => by kernel_rfl
  go_enter Try.func13, Try.ntmps13
  go_wp2
  go_ret
  exact ⟨rfl, rfl⟩
theorem long_9 (y : Int) (w : World) (h1 : 1 ≤ y) (h2 : y ≤ 9999) : Calls Try.prog 13 #[.int .i64 y, .int .i64 9] w fun e w' => e = .returned (.int .i64 30) ∧ w' = w := by
  have hix : ∀ w : World, (Instr.index 51 (.agg #[.int .i64 31, .int .i64 28, .int .i64 31, .int .i64 30, .int .i64 31, .int .i64 30, .int .i64 31, .int .i64 31, .int .i64 30, .int .i64 31, .int .i64 30, .int .i64 31]) (.int .i64 8)).run Try.prog w = .ok (.int .i64 30) w := fun _ => by kernel_rfl
  go_enter Try.func13, Try.ntmps13
  go_wp2
  go_ret
  exact ⟨rfl, rfl⟩
theorem long_10 (y : Int) (w : World) (h1 : 1 ≤ y) (h2 : y ≤ 9999) : Calls Try.prog 13 #[.int .i64 y, .int .i64 10] w fun e w' => e = .returned (.int .i64 31) ∧ w' = w := by
  have hix : ∀ w : World, (Instr.index 51 (.agg #[.int .i64 31, .int .i64 28, .int .i64 31, .int .i64 30, .int .i64 31, .int .i64 30, .int .i64 31, .int .i64 31, .int .i64 30, .int .i64 31, .int .i64 30, .int .i64 31]) (.int .i64 9)).run Try.prog w = .ok (.int .i64 31) w := fun _ => by kernel_rfl
  go_enter Try.func13, Try.ntmps13
  go_wp2
  go_ret
  exact ⟨rfl, rfl⟩
theorem long_11 (y : Int) (w : World) (h1 : 1 ≤ y) (h2 : y ≤ 9999) : Calls Try.prog 13 #[.int .i64 y, .int .i64 11] w fun e w' => e = .returned (.int .i64 30) ∧ w' = w := by
  have hix : ∀ w : World, (Instr.index 51 (.agg #[.int .i64 31, .int .i64 28, .int .i64 31, .int .i64 30, .int .i64 31, .int .i64 30, .int .i64 31, .int .i64 31, .int .i64 30, .int .i64 31, .int .i64 30, .int .i64 31]) (.int .i64 10)).run Try.prog w = .ok (.int .i64 30) w := fun _ => by kernel_rfl
  go_enter Try.func13, Try.ntmps13
  go_wp2
  go_ret
  exact ⟨rfl, rfl⟩
theorem long_12 (y : Int) (w : World) (h1 : 1 ≤ y) (h2 : y ≤ 9999) : Calls Try.prog 13 #[.int .i64 y, .int .i64 12] w fun e w' => e = .returned (.int .i64 31) ∧ w' = w := by
  have hix : ∀ w : World, (Instr.index 51 (.agg #[.int .i64 31, .int .i64 28, .int .i64 31, .int .i64 30, .int .i64 31, .int .i64 30, .int .i64 31, .int .i64 31, .int .i64 30, .int .i64 31, .int .i64 30, .int .i64 31]) (.int .i64 11)).run Try.prog w = .ok (.int .i64 31) w := fun _ => by kernel_rfl
  go_enter Try.func13, Try.ntmps13
  go_wp2
  go_ret
  exact ⟨rfl, rfl⟩
theorem long_calls (y m : Int) (w : World) : Calls Try.prog 13 #[.int .i64 y, .int .i64 m] w fun e w' => e = .returned (.int .i64 (longS y m)) ∧ w' = w := by
  unfold longS
  by_cases h : y < 1 ∨ 9999 < y ∨ m < 1 ∨ 12 < m
  · rw [if_pos h]; exact long_out y m w h
  · rw [if_neg h]
    have h1 : 1 ≤ y := by omega
    have h2 : y ≤ 9999 := by omega
    rcases (by omega : m = 1 ∨ m = 2 ∨ m = 3 ∨ m = 4 ∨ m = 5 ∨ m = 6 ∨ m = 7 ∨ m = 8 ∨ m = 9 ∨ m = 10 ∨ m = 11 ∨ m = 12) with rfl | rfl | rfl | rfl | rfl | rfl | rfl | rfl | rfl | rfl | rfl | rfl
    · exact long_1 y w h1 h2
    · exact long_feb y (leapB y) w h1 h2 rfl
    · exact long_3 y w h1 h2
    · exact long_4 y w h1 h2
    · exact long_5 y w h1 h2
    · exact long_6 y w h1 h2
    · exact long_7 y w h1 h2
    · exact long_8 y w h1 h2
    · exact long_9 y w h1 h2
    · exact long_10 y w h1 h2
    · exact long_11 y w h1 h2
    · exact long_12 y w h1 h2
end Go.Proofs.Ytgeclcepfcfekaa.LongP

namespace Go.Proofs.Ytgeclcepfcfekaa.All
open Go.RowKit Go.Proofs.YtgeclcepfcfekaaW.PrintWords
def civil_Long.f (a0 : Int) (a1 : Int) : Option (Int) := some (LongP.longS a0 a1)
theorem civil_Long.calls (a0 : Int) (a1 : Int) (r : Int) (w : World) (h : civil_Long.f a0 a1 = some r) :
    Calls Try.prog 13 #[.int .i64 a0, .int .i64 a1] w fun e w' => e = .returned (.int .i64 r) ∧ Drawn0 w w' := by
  obtain rfl : LongP.longS a0 a1 = r := Option.some.inj h
  exact (LongP.long_calls a0 a1 w).mono fun e w' ⟨he, hw⟩ => ⟨he, by rw [hw]; exact Drawn0.refl w⟩
end Go.Proofs.Ytgeclcepfcfekaa.All
