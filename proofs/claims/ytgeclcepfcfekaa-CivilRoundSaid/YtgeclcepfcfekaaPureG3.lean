/- A law of the calendar. -/
import Derived.Test.YtgeclcepfcfekaaPureG
import Derived.Test.YtgeclcepfcfekaaA6
namespace Go.Proofs.Ytgeclcepfcfekaa.All
open Go.RowKit Go.Proofs.YtgeclcepfcfekaaW.PrintWords Go.Proofs.YtgeclcepfcfekaaW.PrintLast Go.Proofs.YtgeclcepfcfekaaW.PrintMore
open Go.Proofs.Ytgeclcepfcfekaa.Cal Go.Proofs.Ytgeclcepfcfekaa.LongP

/-! ### CivilRound -/
theorem leap400 (y : Int) : leapB (y + 400) = leapB y := by
  rw [Bool.eq_iff_iff, leap_iff, leap_iff]; omega
theorem cum400 (y m : Int) : cum (y + 400) m = cum y m := by unfold cum; rw [leap400]
theorem Yb400 (y : Int) : Yb (y + 400) = Yb y + 146097 := by unfold Yb; omega
theorem long400 (y m : Int) (hy : 1 ≤ y ∧ y ≤ 9599) (hm : 1 ≤ m ∧ m ≤ 12) : longS (y + 400) m = longS y m := by
  rw [longS_in _ m ⟨by omega, by omega⟩ hm, longS_in y m ⟨by omega, by omega⟩ hm, leap400]
theorem round_law (k : Nat) (hk : 20000 < k) (y m d : Int) : clepsydralaw03_CivilRound.f k y m d = some true := by
  obtain ⟨k, rfl⟩ : ∃ m, k = m + 4 := ⟨k - 4, by omega⟩
  have hw1 := works_at (k + 3) (by omega)
  have hw := works_at (k + 2) (by omega)
  unfold clepsydralaw03_CivilRound.f
  rw [right_at, bindS]
  by_cases h : Right y m d
  · rw [if_pos (decide_eq_true h)]
    by_cases hy : y > 9599
    · rw [decide_eq_true hy, clepsydralaw03_CivilRound.j0, if_pos rfl, hw1, bindS]
    · have hm := h.2.1
      have hy1 := h.1
      have hL := long400 y m ⟨hy1.1, by omega⟩ hm
      have hR4 : Right (y + 400) m d := ⟨⟨by omega, by omega⟩, hm, h.2.2.1, by rw [hL]; exact h.2.2.2⟩
      have hp := longS_pos y 1 hy1 ⟨by omega, by omega⟩
      have hp2 := longS_pos (y + 1) 1 ⟨by omega, by omega⟩ ⟨by omega, by omega⟩
      have hpm := longS_pos y m hy1 hm
      have hS1 : Right y 1 1 := ⟨hy1, ⟨by omega, by omega⟩, by omega, by omega⟩
      have hS2 : Right (y + 1) 1 1 := ⟨⟨by omega, by omega⟩, ⟨by omega, by omega⟩, by omega, by omega⟩
      have e1 := dnum_eq (y + 400) m d hm
      have e2 := dnum_eq y m d hm
      have e3 := dnum_eq y 1 1 ⟨by omega, by omega⟩
      have e4 := dnum_eq (y + 1) 1 1 ⟨by omega, by omega⟩
      rw [cum400, Yb400] at e1
      rw [show cum y 1 = 0 from rfl] at e3
      rw [show cum (y + 1) 1 = 0 from rfl] at e4
      have hs := Yb_succ y
      have f1 := right_first h
      have f2 := right_first hS1
      have f3 := right_first hS2
      rw [decide_eq_false hy, clepsydralaw03_CivilRound.j0, if_neg (by decide), Days_yes h, bindS, wr (x := y + 400) ⟨by omega, by omega⟩, Days_yes hR4, bindS, long_at, bindS, Days_yes hS1, bindS, wr (x := y + 1) ⟨by omega, by omega⟩, Days_yes hS2, bindS, if_pos rfl, if_pos rfl, if_pos rfl]
      dsimp only
      rw [show ((0 : Int) != 0) = false by decide, clepsydralaw03_CivilRound.j1, if_neg (by decide), if_pos (by rw [wr ⟨by omega, by omega⟩]; omega), Week_yes _ hR4, bindS, Week_yes _ h, bindS, if_pos (by omega), long_at, bindS, if_pos hL, if_pos (by omega), if_pos (by omega)]
      have e5 : dnum (y + 1) 1 1 - dnum y 1 1 = ylen y := by omega
      have hyl := ylen_le y
      rw [wr (x := dnum (y + 1) 1 1 - dnum y 1 1) ⟨by omega, by omega⟩, e5, long_at, longS_in y 2 hy1 ⟨by omega, by omega⟩, if_pos rfl]
      unfold ylen
      by_cases hlp : leapB y = true
      · rw [if_pos hlp, if_pos hlp, if_neg (by decide), if_pos rfl, bindS, if_pos (by decide), hw, bindS]
      · rw [if_neg hlp, if_neg hlp, if_pos rfl, bindS, if_pos (by decide), hw, bindS]
  · rw [if_neg (by rw [decide_eq_true_iff]; exact h), clepsydralaw03_CivilRound.j0, if_pos rfl, hw1, bindS]
end Go.Proofs.Ytgeclcepfcfekaa.All
