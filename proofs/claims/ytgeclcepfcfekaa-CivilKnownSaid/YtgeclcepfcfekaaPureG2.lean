/- A law of the calendar. -/
import Derived.Test.YtgeclcepfcfekaaPureG
import Derived.Test.YtgeclcepfcfekaaA5
namespace Go.Proofs.Ytgeclcepfcfekaa.All
open Go.RowKit Go.Proofs.YtgeclcepfcfekaaW.PrintWords Go.Proofs.YtgeclcepfcfekaaW.PrintLast Go.Proofs.YtgeclcepfcfekaaW.PrintMore
open Go.Proofs.Ytgeclcepfcfekaa.Cal Go.Proofs.Ytgeclcepfcfekaa.LongP

/-! ### CivilOf -/
theorem next_day {n : Int} (h0 : -719162 ≤ n) (h1 : n < 2932896) :
    (dayOf (n + 1) = dayOf n + 1 ∧ monthOf (n + 1) = monthOf n ∧ yOf (n + 1) = yOf n) ∨
    (dayOf (n + 1) = 1 ∧ dayOf n = longS (yOf n) (monthOf n) ∧ monthOf (n + 1) = monthOf n + 1 ∧ yOf (n + 1) = yOf n) ∨
    (dayOf (n + 1) = 1 ∧ dayOf n = longS (yOf n) (monthOf n) ∧ monthOf (n + 1) = 1 ∧ monthOf n = 12 ∧ yOf (n + 1) = yOf n + 1) := by
  obtain ⟨hR, hN, _⟩ := of_right n h0 (by omega)
  obtain ⟨hR2, hN2, _⟩ := of_right (n + 1) (by omega) (by omega)
  have hm := hR.2.1
  have hy := hR.1
  have hd := hR.2.2
  have hdn := dnum_eq (yOf n) (monthOf n) (dayOf n) hm
  generalize yOf n = y at *
  generalize monthOf n = m at *
  generalize dayOf n = d at *
  by_cases hl : d < longS y m
  · left
    have hS : Right y m (d + 1) := ⟨hy, hm, by omega, by omega⟩
    have hSn := dnum_eq y m (d + 1) hm
    obtain ⟨e1, e2, e3⟩ := right_unique hR2 hS (by omega)
    exact ⟨e3, e2, e1⟩
  · right
    by_cases hm12 : m < 12
    · left
      have hp := longS_pos y (m + 1) hy ⟨by omega, by omega⟩
      have hS : Right y (m + 1) 1 := ⟨hy, ⟨by omega, by omega⟩, by omega, by omega⟩
      have hSn := dnum_eq y (m + 1) 1 ⟨by omega, by omega⟩
      have hc := cum_succ y m hy ⟨hm.1, by omega⟩
      obtain ⟨e1, e2, e3⟩ := right_unique hR2 hS (by omega)
      exact ⟨e3, by omega, e2, e1⟩
    · right
      obtain rfl : m = 12 := by omega
      have hc := cum_last y hy
      have hs := Yb_succ y
      have hy2 : y ≤ 9998 := by
        by_cases hy9 : y = 9999
        · subst hy9
          have hE : Yb (9999 + 1) = 2932897 := by decide
          omega
        · omega
      have hp := longS_pos (y + 1) 1 ⟨by omega, by omega⟩ ⟨by omega, by omega⟩
      have hS : Right (y + 1) 1 1 := ⟨⟨by omega, by omega⟩, ⟨by omega, by omega⟩, by omega, by omega⟩
      have hSn := dnum_eq (y + 1) 1 1 ⟨by omega, by omega⟩
      rw [show cum (y + 1) 1 = 0 from rfl] at hSn
      obtain ⟨e1, e2, e3⟩ := right_unique hR2 hS (by omega)
      exact ⟨e3, by omega, e2, rfl, e1⟩
theorem of_end : yOf 2932896 = 9999 ∧ monthOf 2932896 = 12 ∧ dayOf 2932896 = 31 := by decide +kernel
theorem of_law_j1 (k : Nat) (hk : 15000 < k) {n : Int} (h0 : -719162 ≤ n) (h1 : n ≤ 2932896) : clepsydralaw03_CivilOf.j1 k n false (yOf n) (monthOf n) (dayOf n) = some true := by
  obtain ⟨k, rfl⟩ : ∃ m, k = m + 2 := ⟨k - 2, by omega⟩
  have hw := works_at (k + 1) (by omega)
  obtain ⟨hR, hN, _⟩ := of_right n h0 h1
  rw [clepsydralaw03_CivilOf.j1, if_neg (by decide)]
  by_cases he : n = 2932896
  · subst he
    obtain ⟨e1, e2, e3⟩ := of_end
    rw [if_pos rfl, e1, e2, e3, if_pos (by decide), hw, bindS]
  · have hlt : n < 2932896 := by omega
    obtain ⟨hR2, hN2, _⟩ := of_right (n + 1) (by omega) (by omega)
    rw [if_neg he, wr ⟨by omega, by omega⟩, Of_yes k (by omega) (by omega), bindS, if_pos rfl]
    dsimp only
    rw [Week_yes k hR2, hN2, Week_yes k hR, hN, bindS, bindS, if_pos (by rw [tm (by omega), wr ⟨by omega, by omega⟩]; omega)]
    have hm := hR.2.1
    have hy := hR.1
    have hd := hR.2.2.1
    have hd31 := day31 hR
    rcases next_day h0 hlt with ⟨a, b, c⟩ | ⟨a, b, c, d⟩ | ⟨a, b, c, d, e⟩
    · rw [if_pos (by rw [wr ⟨by omega, by omega⟩]; exact a), if_pos b, if_pos c, hw, bindS]
    · rw [if_neg (by rw [wr ⟨by omega, by omega⟩]; omega), if_pos a, long_at, bindS, if_pos b, if_pos (by rw [wr ⟨by omega, by omega⟩]; exact c), if_pos d, hw, bindS]
    · rw [if_neg (by rw [wr ⟨by omega, by omega⟩]; omega), if_pos a, long_at, bindS, if_pos b, if_neg (by rw [wr ⟨by omega, by omega⟩]; omega), if_pos c, if_pos d, if_pos (by rw [wr ⟨by omega, by omega⟩]; exact e), hw, bindS]
theorem of_law (k : Nat) (hk : 20000 < k) (n : Int) : clepsydralaw03_CivilOf.f k n = some true := by
  obtain ⟨k, rfl⟩ : ∃ m, k = m + 2 := ⟨k - 2, by omega⟩
  have hw := works_at (k + 1) (by omega)
  unfold clepsydralaw03_CivilOf.f
  by_cases h : -719162 ≤ n ∧ n ≤ 2932896
  · obtain ⟨hR, hN, _⟩ := of_right n h.1 h.2
    rw [Of_yes _ h.1 h.2, bindS, if_neg (by omega), decide_eq_false (by omega), clepsydralaw03_CivilOf.j0, if_neg (by decide)]
    dsimp only
    rw [Days_yes hR, bindS, if_pos rfl, if_pos rfl, if_pos hN, plain_at, bindS, rof_at (k + 1) (by omega) h.1 h.2, bindS, if_neg (by simp), right_at, bindS, decide_eq_true hR]
    exact of_law_j1 (k + 1) (by omega) h.1 h.2
  · rw [Of_no _ (by omega), bindS]
    by_cases h2 : n < -719162
    · rw [if_pos h2, clepsydralaw03_CivilOf.j0, if_pos rfl, if_pos (by decide), if_pos rfl, hw, bindS]
    · rw [if_neg h2, decide_eq_true (by omega), clepsydralaw03_CivilOf.j0, if_pos rfl, if_pos (by decide), if_pos rfl, hw, bindS]
end Go.Proofs.Ytgeclcepfcfekaa.All
namespace Go.Proofs.Ytgeclcepfcfekaa.Pure
open Go.RowKit
theorem CivilOf : All.clepsydralaw03_CivilOf.Pure := fun a _ => ⟨20001, All.of_law 20001 (by omega) a⟩
end Go.Proofs.Ytgeclcepfcfekaa.Pure
