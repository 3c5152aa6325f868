/- What the calendar's reference computes; the laws. -/
import Derived.Test.YtgeclcepfcfekaaPureE
import Derived.Test.YtgeclcepfcfekaaA4
namespace Go.Proofs.Ytgeclcepfcfekaa.All
open Go.RowKit Go.Proofs.YtgeclcepfcfekaaW.PrintWords Go.Proofs.YtgeclcepfcfekaaW.PrintLast Go.Proofs.YtgeclcepfcfekaaW.PrintMore
open Go.Proofs.Ytgeclcepfcfekaa.Cal Go.Proofs.Ytgeclcepfcfekaa.LongP

theorem leap_at (y : Int) : clepsydraref03_Leap.f y = some (leapB y) := by
  unfold clepsydraref03_Leap.f
  by_cases h4 : Int.tmod y 4 = 0
  · rw [if_pos h4]
    by_cases h100 : Int.tmod y 100 = 0
    · rw [if_pos h100]
      congr 1
      rw [Bool.eq_iff_iff, leap_iff, beq_iff_eq, tm0]
      rw [tm0] at h4 h100
      omega
    · rw [if_neg h100]
      congr 1
      symm
      rw [leap_iff]
      rw [tm0] at h4 h100
      omega
  · rw [if_neg h4]
    congr 1
    symm
    rw [Bool.eq_false_iff, Ne, leap_iff]
    rw [tm0] at h4
    omega
theorem year_at (y : Int) : clepsydraref03_year.f y = some (ylen y) := by
  unfold clepsydraref03_year.f ylen
  rw [leap_at, bindS]
  by_cases h : leapB y = true
  · rw [if_pos h, if_pos h]
  · rw [if_neg h, if_neg h]
theorem rlong_in (k : Nat) (y m : Int) (hy : 1 ≤ y ∧ y ≤ 9999) (hm : 1 ≤ m ∧ m ≤ 12) : clepsydraref03_Long.f (k + 1) y m = some (longS y m) := by
  unfold clepsydraref03_Long.f
  rw [if_neg (by omega), if_neg (by omega), if_neg (by omega), decide_eq_false (by omega), clepsydraref03_Long.j0, if_neg (by decide), longS_in y m hy hm]
  rcases (by omega : m = 1 ∨ m = 2 ∨ m = 3 ∨ m = 4 ∨ m = 5 ∨ m = 6 ∨ m = 7 ∨ m = 8 ∨ m = 9 ∨ m = 10 ∨ m = 11 ∨ m = 12) with rfl | rfl | rfl | rfl | rfl | rfl | rfl | rfl | rfl | rfl | rfl | rfl
  case inr.inl =>
    rw [if_pos rfl, if_pos rfl, leap_at, bindS]
    by_cases h : leapB y = true
    · rw [if_pos h, if_pos h]
    · rw [if_neg h, if_neg h]; decide +kernel
  all_goals
    rw [if_neg (by decide), if_neg (by decide), bindS]
    decide +kernel
theorem rlong_out (k : Nat) (y m : Int) (h : y < 1 ∨ 9999 < y ∨ m < 1 ∨ 12 < m) : clepsydraref03_Long.f (k + 1) y m = some (longS y m) := by
  unfold clepsydraref03_Long.f longS
  rw [if_pos h]
  by_cases h1 : y < 1
  · rw [if_pos h1, clepsydraref03_Long.j0, if_pos rfl]
  · rw [if_neg h1]
    by_cases h2 : y > 9999
    · rw [if_pos h2, clepsydraref03_Long.j0, if_pos rfl]
    · rw [if_neg h2]
      by_cases h3 : m < 1
      · rw [if_pos h3, clepsydraref03_Long.j0, if_pos rfl]
      · rw [if_neg h3, decide_eq_true (by omega), clepsydraref03_Long.j0, if_pos rfl]
theorem rlong_at (k : Nat) (y m : Int) : clepsydraref03_Long.f (k + 1) y m = some (longS y m) := by
  by_cases h : y < 1 ∨ 9999 < y ∨ m < 1 ∨ 12 < m
  · exact rlong_out k y m h
  · exact rlong_in k y m (by omega) (by omega)
theorem rright_at (k : Nat) (y m d : Int) : clepsydraref03_Right.f (k + 1) y m d = some (decide (Right y m d)) := by
  rw [← right_at]
  unfold clepsydraref03_Right.f civil_Right.f civil_Long.f
  rw [rlong_at]
theorem long_at (y m : Int) : civil_Long.f y m = some (longS y m) := rfl
theorem ylen_le (y : Int) : 365 ≤ ylen y ∧ ylen y ≤ 366 := by unfold ylen; split <;> omega

/-! ### the days by counting -/
theorem dl2_end (k : Nat) (a x : Int) (hx : 1970 ≤ x) : clepsydraref03_Days.l2 (k + 1) a x = some a := by
  rw [clepsydraref03_Days.l2, if_neg (by omega)]
theorem dl2 (d : Nat) : ∀ (k : Nat) (a x : Int), d < k → -1000000000 + 366 * d ≤ a → a ≤ 1000000000 → 1 ≤ x → 1970 - x = d → clepsydraref03_Days.l2 k a x = some (a + Yb x) := by
  induction d with
  | zero =>
    intro k a x hk h0 h1 hx hd
    obtain ⟨k, rfl⟩ : ∃ m, k = m + 1 := ⟨k - 1, by omega⟩
    obtain rfl : x = 1970 := by omega
    rw [dl2_end k a _ (by decide), show Yb 1970 = 0 by decide, Int.add_zero]
  | succ d ih =>
    intro k a x hk h0 h1 hx hd
    obtain ⟨k, rfl⟩ : ∃ m, k = m + 1 := ⟨k - 1, by omega⟩
    have hy := ylen_le x
    have hs := Yb_succ x
    rw [clepsydraref03_Days.l2, if_pos (by omega), year_at, bindS, wr ⟨by omega, by omega⟩, wr ⟨by omega, by omega⟩, ih k _ _ (by omega) (by omega) (by omega) (by omega) (by omega)]
    congr 1; omega
theorem dl1_up (y m d0 : Int) (hy : y ≤ 9999) (d : Nat) : ∀ (k : Nat) (a x : Int), d + 2 < k → -1000000000 ≤ a → a ≤ 1000000000 - 366 * d → 1970 ≤ x → y - x = d → clepsydraref03_Days.l1 k a x y m d0 = some (a + Yb y - Yb x) := by
  induction d with
  | zero =>
    intro k a x hk h0 h1 hx hd
    obtain ⟨k, rfl⟩ : ∃ m, k = m + 2 := ⟨k - 2, by omega⟩
    obtain rfl : x = y := by omega
    rw [clepsydraref03_Days.l1, if_neg (by omega), dl2_end k a _ (by omega)]
    congr 1; omega
  | succ d ih =>
    intro k a x hk h0 h1 hx hd
    obtain ⟨k, rfl⟩ : ∃ m, k = m + 1 := ⟨k - 1, by omega⟩
    have hl := ylen_le x
    have hs := Yb_succ x
    rw [clepsydraref03_Days.l1, if_pos (by omega), year_at, bindS, wr ⟨by omega, by omega⟩, wr ⟨by omega, by omega⟩, ih k _ _ (by omega) (by omega) (by omega) (by omega) (by omega)]
    congr 1; omega
theorem dl1 (y m d0 : Int) (hy : 1 ≤ y ∧ y ≤ 9999) (k : Nat) (a : Int) (hk : 10000 < k) (h0 : -1000 ≤ a) (h1 : a ≤ 1000) : clepsydraref03_Days.l1 k a 1970 y m d0 = some (a + Yb y) := by
  by_cases h : 1970 ≤ y
  · rw [dl1_up y m d0 hy.2 (y - 1970).toNat k a 1970 (by omega) (by omega) (by omega) (by omega) (by omega), show Yb 1970 = 0 by decide, Int.sub_zero]
  · obtain ⟨k, rfl⟩ : ∃ m, k = m + 1 := ⟨k - 1, by omega⟩
    rw [clepsydraref03_Days.l1, if_neg (by omega), dl2 (1970 - y).toNat k a y (by omega) (by omega) (by omega) (by omega) (by omega)]
theorem dl0 (y m d0 : Int) (hy : 1 ≤ y ∧ y ≤ 9999) (hm : m ≤ 12) (d : Nat) : ∀ (k : Nat) (a x : Int), d + 10010 < k → -900 ≤ a → a ≤ 900 - 31 * d → 1 ≤ x → m - x = d → clepsydraref03_Days.l0 k a x y m d0 = some (a + cum y m - cum y x + Yb y) := by
  induction d with
  | zero =>
    intro k a x hk h0 h1 hx hd
    obtain ⟨k, rfl⟩ : ∃ m, k = m + 1 := ⟨k - 1, by omega⟩
    obtain rfl : x = m := by omega
    rw [clepsydraref03_Days.l0, if_neg (by omega), dl1 y x d0 hy k a (by omega) (by omega) (by omega)]
    congr 1; omega
  | succ d ih =>
    intro k a x hk h0 h1 hx hd
    obtain ⟨k, rfl⟩ : ∃ m, k = m + 2 := ⟨k - 2, by omega⟩
    have hl := longS_pos y x hy ⟨hx, by omega⟩
    have hs := cum_succ y x hy ⟨hx, by omega⟩
    rw [clepsydraref03_Days.l0, if_pos (by omega), rlong_at, bindS, wr ⟨by omega, by omega⟩, wr ⟨by omega, by omega⟩, ih (k + 1) _ _ (by omega) (by omega) (by omega) (by omega) (by omega)]
    congr 1; omega
theorem rdays_at (k : Nat) (hk : 10030 < k) {y m d : Int} (h : Right y m d) : clepsydraref03_Days.f k y m d = some (dnum y m d) := by
  have h31 := day31 h
  have hd := h.2.2.1
  have hm := h.2.1
  unfold clepsydraref03_Days.f
  rw [wr ⟨by omega, by omega⟩, dl0 y m d h.1 hm.2 (m - 1).toNat k _ 1 (by omega) (by omega) (by omega) (by omega) (by omega), dnum_eq y m d hm, show cum y 1 = 0 from rfl]
  congr 1; omega

/-! ### the day by counting -/
theorem ol2 (y : Int) (hy : 1 ≤ y ∧ y ≤ 9999) (d : Nat) : ∀ (k : Nat) (a m : Int), d + 2 < k → 0 ≤ a → 1 ≤ m → 12 - m = d → a < ylen y - cum y m →
    ∃ m' d', clepsydraref03_Of.l2 k a y m = some (y, m', d') ∧ Right y m' d' ∧ dnum y m' d' = a + Yb y + cum y m := by
  induction d with
  | zero =>
    intro k a m hk ha hm hd hl
    obtain ⟨k, rfl⟩ : ∃ m, k = m + 2 := ⟨k - 2, by omega⟩
    obtain rfl : m = 12 := by omega
    have hc := cum_last y hy
    have hp := longS_pos y 12 hy ⟨by omega, by omega⟩
    rw [clepsydraref03_Of.l2, rlong_at, bindS, if_neg (by omega), wr ⟨by omega, by omega⟩]
    refine ⟨12, a + 1, rfl, ⟨hy, ⟨by omega, by omega⟩, by omega, by omega⟩, ?_⟩
    rw [dnum_eq y 12 _ ⟨by omega, by omega⟩]; omega
  | succ d ih =>
    intro k a m hk ha hm hd hl
    obtain ⟨k, rfl⟩ : ∃ m, k = m + 2 := ⟨k - 2, by omega⟩
    have hs := cum_succ y m hy ⟨hm, by omega⟩
    have hp := longS_pos y m hy ⟨by omega, by omega⟩
    have hyl := ylen_le y
    have hc0 : 0 ≤ cum y m := by
      have h01 := cum_mono y hy 1 (by omega) (m - 1).toNat (by omega)
      rw [show 1 + (((m - 1).toNat : Nat) : Int) = m by omega, show cum y 1 = 0 from rfl] at h01
      omega
    rw [clepsydraref03_Of.l2, rlong_at, bindS]
    by_cases h : a ≥ longS y m
    · rw [if_pos h, bindS, wr ⟨by omega, by omega⟩, wr ⟨by omega, by omega⟩]
      obtain ⟨m', d', h1, h2, h3⟩ := ih (k + 1) (a - longS y m) (m + 1) (by omega) (by omega) (by omega) (by omega) (by omega)
      exact ⟨m', d', h1, h2, by omega⟩
    · rw [if_neg h, wr ⟨by omega, by omega⟩]
      refine ⟨m, a + 1, rfl, ⟨hy, ⟨by omega, by omega⟩, by omega, by omega⟩, ?_⟩
      rw [dnum_eq y m _ ⟨by omega, by omega⟩]; omega
theorem ol1 (d : Nat) : ∀ (k : Nat) (a y : Int), d + 20 < k → 0 ≤ a → 1 ≤ y → 9999 - y = d → a + Yb y ≤ 2932896 → a ≤ 4000000 →
    ∃ y' m' d', clepsydraref03_Of.l1 k a y = some (y', m', d') ∧ Right y' m' d' ∧ dnum y' m' d' = a + Yb y := by
  induction d with
  | zero =>
    intro k a y hk ha hy hd hl h4
    obtain ⟨k, rfl⟩ : ∃ m, k = m + 1 := ⟨k - 1, by omega⟩
    obtain rfl : y = 9999 := by omega
    have hs := Yb_succ 9999
    have hE : Yb (9999 + 1) = 2932897 := by decide
    have hyl := ylen_le 9999
    rw [clepsydraref03_Of.l1, year_at, bindS, if_neg (by omega)]
    obtain ⟨m', d', h1, h2, h3⟩ := ol2 9999 ⟨by omega, by omega⟩ 11 k a 1 (by omega) ha (by omega) (by omega) (by rw [show cum 9999 1 = 0 from rfl]; omega)
    exact ⟨9999, m', d', h1, h2, by rw [h3, show cum 9999 1 = 0 from rfl]; omega⟩
  | succ d ih =>
    intro k a y hk ha hy hd hl h4
    obtain ⟨k, rfl⟩ : ∃ m, k = m + 1 := ⟨k - 1, by omega⟩
    have hs := Yb_succ y
    have hyl := ylen_le y
    rw [clepsydraref03_Of.l1, year_at, bindS]
    by_cases h : a ≥ ylen y
    · rw [if_pos h, bindS, wr ⟨by omega, by omega⟩, wr ⟨by omega, by omega⟩]
      obtain ⟨y', m', d', h1, h2, h3⟩ := ih k (a - ylen y) (y + 1) (by omega) (by omega) (by omega) (by omega) (by omega) (by omega)
      exact ⟨y', m', d', h1, h2, by omega⟩
    · rw [if_neg h]
      obtain ⟨m', d', h1, h2, h3⟩ := ol2 y ⟨by omega, by omega⟩ 11 k a 1 (by omega) ha (by omega) (by omega) (by rw [show cum y 1 = 0 from rfl]; omega)
      exact ⟨y, m', d', h1, h2, by rw [h3, show cum y 1 = 0 from rfl]; omega⟩
theorem ol0 (d : Nat) : ∀ (k : Nat) (a y : Int), d + 10100 < k → 1 ≤ y → y ≤ 1970 → y - 1 = d → -719162 ≤ a + Yb y → a + Yb y ≤ 2932896 → -4000000 ≤ a → a ≤ 3000000 →
    ∃ y' m' d', clepsydraref03_Of.l0 k a y = some (y', m', d') ∧ Right y' m' d' ∧ dnum y' m' d' = a + Yb y := by
  induction d with
  | zero =>
    intro k a y hk hy hy2 hd hl hl2 h4 h5
    obtain ⟨k, rfl⟩ : ∃ m, k = m + 1 := ⟨k - 1, by omega⟩
    obtain rfl : y = 1 := by omega
    have hE : Yb 1 = -719162 := by decide
    rw [clepsydraref03_Of.l0, if_neg (by omega)]
    exact ol1 9998 k a 1 (by omega) (by omega) (by omega) (by omega) (by omega) (by omega)
  | succ d ih =>
    intro k a y hk hy hy2 hd hl hl2 h4 h5
    obtain ⟨k, rfl⟩ : ∃ m, k = m + 1 := ⟨k - 1, by omega⟩
    have hs := Yb_succ (y - 1)
    have hyl := ylen_le (y - 1)
    rw [show y - 1 + 1 = y by omega] at hs
    rw [clepsydraref03_Of.l0]
    by_cases h : a < 0
    · rw [if_pos h, wr (x := y - 1) ⟨by omega, by omega⟩, year_at, bindS, wr ⟨by omega, by omega⟩]
      obtain ⟨y', m', d', h1, h2, h3⟩ := ih k (a + ylen (y - 1)) (y - 1) (by omega) (by omega) (by omega) (by omega) (by omega) (by omega) (by omega) (by omega)
      exact ⟨y', m', d', h1, h2, by omega⟩
    · rw [if_neg h]
      exact ol1 (9999 - y).toNat k a y (by omega) (by omega) (by omega) (by omega) (by omega) (by omega)
theorem rof_at (k : Nat) (hk : 12200 < k) {n : Int} (h0 : -719162 ≤ n) (h1 : n ≤ 2932896) : clepsydraref03_Of.f k n = some (yOf n, monthOf n, dayOf n) := by
  unfold clepsydraref03_Of.f
  have hE : Yb 1970 = 0 := by decide
  obtain ⟨y, m, d, e, hR, hn⟩ := ol0 1969 k n 1970 (by omega) (by omega) (by omega) (by omega) (by omega) (by omega) (by omega) (by omega)
  rw [hE, Int.add_zero] at hn
  obtain ⟨a, b, _⟩ := of_right n h0 h1
  obtain ⟨e1, e2, e3⟩ := right_unique hR a (by rw [hn, b])
  rw [e, e1, e2, e3]
theorem rweek_at {n : Int} (h0 : -1000000000 ≤ n) (h1 : n ≤ 1000000000) : clepsydraref03_Weekday.f n = some ((n + 3) % 7 + 1) := by
  unfold clepsydraref03_Weekday.f
  congr 1
  by_cases h : n < 0
  · rw [(tdm n 7 h (by decide)).2]
    have : 0 ≤ -n % 7 ∧ -n % 7 < 7 := by omega
    rw [wr (x := -(-n % 7) + 7) ⟨by omega, by omega⟩, wr (x := -(-n % 7) + 7 + 3) ⟨by omega, by omega⟩, tm (by omega), wr ⟨by omega, by omega⟩]
    omega
  · rw [tm (show 0 ≤ n by omega)]
    have : 0 ≤ n % 7 ∧ n % 7 < 7 := by omega
    rw [wr (x := n % 7 + 7) ⟨by omega, by omega⟩, wr (x := n % 7 + 7 + 3) ⟨by omega, by omega⟩, tm (by omega), wr ⟨by omega, by omega⟩]
    omega
end Go.Proofs.Ytgeclcepfcfekaa.All
