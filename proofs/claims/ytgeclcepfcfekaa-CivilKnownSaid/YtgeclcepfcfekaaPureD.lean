/- Plain facts on the calendar: counting days. -/
import Derived.Test.YtgeclcepfcfekaaXLong
namespace Go.Proofs.Ytgeclcepfcfekaa.Cal
open Go.Proofs.Ytgeclcepfcfekaa.LongP (leapB longS)

/-- Days from the first of March, over 400 years. -/
def D (y : Int) : Int := 365 * y + y / 4 - y / 100
def E (y : Nat) : Int := if y = 400 then 146097 else D y
def guess (x : Int) : Int := x - x / 1460 + x / 36524 - x / 146096
theorem guess_step (x : Int) (_h : 0 ≤ x) : guess x ≤ guess (x + 1) := by unfold guess; omega
theorem guess_mono (x : Int) (h : 0 ≤ x) (d : Nat) : guess x ≤ guess (x + d) := by
  induction d with
  | zero => simp
  | succ d ih =>
    have := guess_step (x + d) (by omega)
    rw [show x + ((d + 1 : Nat) : Int) = x + d + 1 by omega]
    omega
theorem guess_le (x z : Int) (h : 0 ≤ x) (hz : x ≤ z) : guess x ≤ guess z := by
  have := guess_mono x h (z - x).toNat
  rwa [show x + ((z - x).toNat : Int) = z by omega] at this
theorem guess_ends : ∀ y : Fin 400, guess (E y.val) / 365 = (y.val : Int) ∧ guess (E (y.val + 1) - 1) / 365 = (y.val : Int) ∧ 0 ≤ E y.val := by decide +kernel
theorem year_exists (x : Int) (h0 : 0 ≤ x) : ∀ n : Nat, n ≤ 400 → x < E n → ∃ y, y < n ∧ E y ≤ x ∧ x < E (y + 1)
  | 0, _, h => by
    have : E 0 = 0 := by decide
    omega
  | n + 1, hn, h => by
    by_cases hx : x < E n
    · obtain ⟨y, h1, h2⟩ := year_exists x h0 n (by omega) hx
      exact ⟨y, by omega, h2⟩
    · exact ⟨n, by omega, by omega, h⟩
theorem year_of (x : Int) (h0 : 0 ≤ x) (h1 : x < 146097) : ∃ y : Nat, y < 400 ∧ guess x / 365 = (y : Int) ∧ E y ≤ x ∧ x < E (y + 1) := by
  have hE : E 400 = 146097 := by decide
  obtain ⟨y, hy, h2, h3⟩ := year_exists x h0 400 (Nat.le_refl _) (by omega)
  obtain ⟨a, b, c⟩ := guess_ends ⟨y, hy⟩
  refine ⟨y, hy, ?_, h2, h3⟩
  have g1 := guess_le (E y) x c h2
  have g2 := guess_le x (E (y + 1) - 1) h0 (by omega)
  simp only at a b
  omega

/-- How many days a month has, of a year without a day more. -/
def plainL (m : Int) : Int := if m = 2 then 28 else if m = 4 ∨ m = 6 ∨ m = 9 ∨ m = 11 then 30 else 31
structure MonthS (rest m0 dd M : Int) : Prop where
  r0 : 0 ≤ m0
  r1 : m0 ≤ 11
  d1 : 1 ≤ dd
  d2 : rest ≤ 364 → dd ≤ plainL M
  d3 : rest = 365 → M = 2 ∧ dd = 29
  back : (M + 9) % 12 = m0
  m1 : 1 ≤ M
  m2 : M ≤ 12
  late : M ≤ 2 ↔ 306 ≤ rest
theorem month_all : ∀ r : Fin 366, 0 ≤ (5 * (r.val : Int) + 2) / 153 ∧ (5 * (r.val : Int) + 2) / 153 ≤ 11 ∧ 1 ≤ (r.val : Int) - (153 * ((5 * (r.val : Int) + 2) / 153) + 2) / 5 + 1 ∧
    ((r.val : Int) ≤ 364 → (r.val : Int) - (153 * ((5 * (r.val : Int) + 2) / 153) + 2) / 5 + 1 ≤ plainL (((5 * (r.val : Int) + 2) / 153 + 2) % 12 + 1)) ∧
    ((r.val : Int) = 365 → ((5 * (r.val : Int) + 2) / 153 + 2) % 12 + 1 = 2 ∧ (r.val : Int) - (153 * ((5 * (r.val : Int) + 2) / 153) + 2) / 5 + 1 = 29) ∧
    (((5 * (r.val : Int) + 2) / 153 + 2) % 12 + 1 + 9) % 12 = (5 * (r.val : Int) + 2) / 153 ∧ 1 ≤ ((5 * (r.val : Int) + 2) / 153 + 2) % 12 + 1 ∧ ((5 * (r.val : Int) + 2) / 153 + 2) % 12 + 1 ≤ 12 ∧
    (((5 * (r.val : Int) + 2) / 153 + 2) % 12 + 1 ≤ 2 ↔ 306 ≤ (r.val : Int)) := by decide +kernel
theorem month_of (rest : Int) (h0 : 0 ≤ rest) (h1 : rest ≤ 365) : MonthS rest ((5 * rest + 2) / 153) (rest - (153 * ((5 * rest + 2) / 153) + 2) / 5 + 1) (((5 * rest + 2) / 153 + 2) % 12 + 1) := by
  obtain ⟨n, rfl⟩ := Int.eq_ofNat_of_zero_le h0
  obtain ⟨a, b, c, d, e, f, g, i, j⟩ := month_all ⟨n, by omega⟩
  exact ⟨a, b, c, d, e, f, g, i, j⟩

/-- The number of a day. -/
def dnum (y m d : Int) : Int :=
  if m ≤ 2 then (y - 1) / 400 * 146097 + D ((y - 1) % 400) + (153 * ((m + 9) % 12) + 2) / 5 + d - 1 - 719468
  else y / 400 * 146097 + D (y % 400) + (153 * ((m + 9) % 12) + 2) / 5 + d - 1 - 719468
/-- Days ahead of a year. -/
def Yb (y : Int) : Int := 365 * (y - 1) + (y - 1) / 4 - (y - 1) / 100 + (y - 1) / 400 - 719162
def cum0 (m : Int) : Int := (153 * ((m + 9) % 12) + 2) / 5
/-- Days of a year ahead of a month. -/
def cum (y m : Int) : Int := if m = 1 then 0 else if m = 2 then 31 else (153 * (m - 3) + 2) / 5 + 59 + (if leapB y = true then 1 else 0)
def ylen (y : Int) : Int := if leapB y = true then 366 else 365
theorem leap_iff (y : Int) : leapB y = true ↔ y % 4 = 0 ∧ (y % 100 ≠ 0 ∨ y % 400 = 0) := by
  unfold leapB; simp
theorem Yb_succ (y : Int) : Yb (y + 1) = Yb y + ylen y := by
  unfold Yb ylen
  by_cases h : leapB y = true
  · rw [if_pos h]; have := (leap_iff y).1 h; omega
  · rw [if_neg h]; have : ¬ (y % 4 = 0 ∧ (y % 100 ≠ 0 ∨ y % 400 = 0)) := fun k => h ((leap_iff y).2 k)
    omega
theorem dnum_eq (y m d : Int) (hm : 1 ≤ m ∧ m ≤ 12) : dnum y m d = Yb y + cum y m + d - 1 := by
  have hY := Yb_succ y
  have e1 : (y - 1) / 400 * 146097 + D ((y - 1) % 400) = Yb y + 719162 := by unfold D Yb; omega
  have e2 : y / 400 * 146097 + D (y % 400) = Yb (y + 1) + 719162 := by unfold D Yb; omega
  unfold dnum cum
  unfold ylen at hY
  generalize Yb (y + 1) = Z at *
  generalize Yb y = X at *
  by_cases h : leapB y = true
  · rw [if_pos h] at hY ⊢
    by_cases h2 : m ≤ 2
    · rw [if_pos h2, e1]; split
      · omega
      · split <;> omega
    · rw [if_neg h2, e2, if_neg (by omega), if_neg (by omega)]; omega
  · rw [if_neg h] at hY ⊢
    by_cases h2 : m ≤ 2
    · rw [if_pos h2, e1]; split
      · omega
      · split <;> omega
    · rw [if_neg h2, e2, if_neg (by omega), if_neg (by omega)]; omega

def Right (y m d : Int) : Prop := (1 ≤ y ∧ y ≤ 9999) ∧ (1 ≤ m ∧ m ≤ 12) ∧ 1 ≤ d ∧ d ≤ longS y m
theorem longS_in (y m : Int) (hy : 1 ≤ y ∧ y ≤ 9999) (hm : 1 ≤ m ∧ m ≤ 12) : longS y m = if m = 2 then (if leapB y = true then 29 else 28) else if m = 4 ∨ m = 6 ∨ m = 9 ∨ m = 11 then 30 else 31 := by
  unfold longS; rw [if_neg (by omega)]
theorem cum_succ (y m : Int) (hy : 1 ≤ y ∧ y ≤ 9999) (hm : 1 ≤ m ∧ m ≤ 11) : cum y (m + 1) = cum y m + longS y m := by
  rw [longS_in y m hy ⟨hm.1, by omega⟩]
  unfold cum
  by_cases h : leapB y = true
  · rw [if_pos h, if_pos h]
    rcases (by omega : m = 1 ∨ m = 2 ∨ m = 3 ∨ m = 4 ∨ m = 5 ∨ m = 6 ∨ m = 7 ∨ m = 8 ∨ m = 9 ∨ m = 10 ∨ m = 11) with rfl | rfl | rfl | rfl | rfl | rfl | rfl | rfl | rfl | rfl | rfl <;> decide
  · rw [if_neg h, if_neg h]
    rcases (by omega : m = 1 ∨ m = 2 ∨ m = 3 ∨ m = 4 ∨ m = 5 ∨ m = 6 ∨ m = 7 ∨ m = 8 ∨ m = 9 ∨ m = 10 ∨ m = 11) with rfl | rfl | rfl | rfl | rfl | rfl | rfl | rfl | rfl | rfl | rfl <;> decide
theorem cum_last (y : Int) (hy : 1 ≤ y ∧ y ≤ 9999) : cum y 12 + longS y 12 = ylen y := by
  rw [longS_in y 12 hy ⟨by omega, by omega⟩]
  unfold cum ylen
  by_cases h : leapB y = true
  · rw [if_pos h, if_pos h, if_pos h]; decide
  · rw [if_neg h, if_neg h, if_neg h]; decide
theorem longS_pos (y m : Int) (hy : 1 ≤ y ∧ y ≤ 9999) (hm : 1 ≤ m ∧ m ≤ 12) : 28 ≤ longS y m ∧ longS y m ≤ 31 := by
  rw [longS_in y m hy hm]; split
  · split <;> omega
  · split <;> omega
theorem cum_mono (y : Int) (hy : 1 ≤ y ∧ y ≤ 9999) (m : Int) (hm : 1 ≤ m) (d : Nat) (hd : m + d ≤ 12) : cum y m + 28 * d ≤ cum y (m + d) := by
  induction d with
  | zero => simp
  | succ d ih =>
    have h1 := cum_succ y (m + d) hy ⟨by omega, by omega⟩
    have h2 := longS_pos y (m + d) hy ⟨by omega, by omega⟩
    have h3 := ih (by omega)
    rw [show m + ((d + 1 : Nat) : Int) = m + d + 1 by omega]
    omega
theorem right_range {y m d : Int} (h : Right y m d) : Yb y ≤ dnum y m d ∧ dnum y m d < Yb (y + 1) ∧ cum y m ≤ dnum y m d - Yb y ∧ dnum y m d - Yb y < cum y m + longS y m := by
  obtain ⟨hy, hm, h1, h2⟩ := h
  rw [dnum_eq y m d hm, Yb_succ]
  have hc := cum_last y hy
  have h12 := cum_mono y hy m hm.1 (12 - m).toNat (by omega)
  have h01 := cum_mono y hy 1 (by omega) (m - 1).toNat (by omega)
  have e1 : m + (((12 - m).toNat : Nat) : Int) = 12 := by omega
  have e2 : 1 + (((m - 1).toNat : Nat) : Int) = m := by omega
  rw [e1] at h12
  rw [e2] at h01
  have c1 : cum y 1 = 0 := rfl
  have hl := longS_pos y m hy hm
  have hl12 := longS_pos y 12 hy ⟨by omega, by omega⟩
  by_cases h : m = 12
  · subst h; omega
  · have hs := cum_succ y m hy ⟨hm.1, by omega⟩
    have h13 := cum_mono y hy (m + 1) (by omega) (12 - (m + 1)).toNat (by omega)
    have e3 : m + 1 + (((12 - (m + 1)).toNat : Nat) : Int) = 12 := by omega
    rw [e3] at h13
    omega
theorem Yb_mono (a : Int) (d : Nat) : Yb a + 365 * d ≤ Yb (a + d) := by
  induction d with
  | zero => simp
  | succ d ih =>
    have := Yb_succ (a + d)
    have h2 : 365 ≤ ylen (a + d) := by unfold ylen; split <;> omega
    rw [show a + ((d + 1 : Nat) : Int) = a + d + 1 by omega]
    omega
theorem Yb_le {a b : Int} (h : a ≤ b) : Yb a + 365 * (b - a) ≤ Yb b := by
  have := Yb_mono a (b - a).toNat
  rw [show a + ((b - a).toNat : Int) = b by omega] at this
  omega
/-- Two right days of one number are one. -/
theorem right_unique {y m d y2 m2 d2 : Int} (h : Right y m d) (h2 : Right y2 m2 d2) (e : dnum y m d = dnum y2 m2 d2) : y = y2 ∧ m = m2 ∧ d = d2 := by
  obtain ⟨a1, a2, a3, a4⟩ := right_range h
  obtain ⟨b1, b2, b3, b4⟩ := right_range h2
  have hy : y = y2 := by
    by_cases hlt : y < y2
    · have := Yb_le (a := y + 1) (b := y2) (by omega); omega
    · by_cases hgt : y2 < y
      · have := Yb_le (a := y2 + 1) (b := y) (by omega); omega
      · omega
  subst hy
  have hm : m = m2 := by
    by_cases hlt : m < m2
    · have := cum_mono y h.1 (m + 1) (by have := h.2.1; omega) (m2 - (m + 1)).toNat (by have := h2.2.1; omega)
      rw [show m + 1 + (((m2 - (m + 1)).toNat : Nat) : Int) = m2 by omega] at this
      have hs := cum_succ y m h.1 ⟨h.2.1.1, by have := h2.2.1; omega⟩
      omega
    · by_cases hgt : m2 < m
      · have := cum_mono y h.1 (m2 + 1) (by have := h2.2.1; omega) (m - (m2 + 1)).toNat (by have := h.2.1; omega)
        rw [show m2 + 1 + (((m - (m2 + 1)).toNat : Nat) : Int) = m by omega] at this
        have hs := cum_succ y m2 h.1 ⟨h2.2.1.1, by have := h.2.1; omega⟩
        omega
      · omega
  subst hm
  rw [dnum_eq y m d h.2.1, dnum_eq y m d2 h.2.1] at e
  exact ⟨rfl, rfl, by omega⟩
theorem right_first {y m d : Int} (h : Right y m d) : -719162 ≤ dnum y m d ∧ dnum y m d ≤ 2932896 := by
  obtain ⟨a1, a2, _, _⟩ := right_range h
  have h1 := Yb_le (a := 1) (b := y) h.1.1
  have h2 := Yb_le (a := y + 1) (b := 10000) (by have := h.1.2; omega)
  have e1 : Yb 1 = -719162 := by decide
  have e2 : Yb 10000 = 2932897 := by decide
  have := h.1
  omega

/-- Which day a number is. -/
def yearOf (n : Int) : Int := guess ((n + 719468) % 146097) / 365
def restOf (n : Int) : Int := (n + 719468) % 146097 - D (yearOf n)
def m0Of (n : Int) : Int := (5 * restOf n + 2) / 153
def monthOf (n : Int) : Int := (m0Of n + 2) % 12 + 1
def dayOf (n : Int) : Int := restOf n - (153 * m0Of n + 2) / 5 + 1
def yOf (n : Int) : Int := (n + 719468) / 146097 * 400 + yearOf n + (if monthOf n ≤ 2 then 1 else 0)
theorem of_right (n : Int) (h0 : -719162 ≤ n) (h1 : n ≤ 2932896) : Right (yOf n) (monthOf n) (dayOf n) ∧ dnum (yOf n) (monthOf n) (dayOf n) = n ∧ (0 ≤ yearOf n ∧ yearOf n ≤ 399) ∧ (0 ≤ restOf n ∧ restOf n ≤ 365) ∧ (0 ≤ m0Of n ∧ m0Of n ≤ 11) := by
  obtain ⟨y, hy, hg, h2, h3⟩ := year_of ((n + 719468) % 146097) (by omega) (by omega)
  have ey : yearOf n = (y : Int) := hg
  have hE : E y = D y := by unfold E; rw [if_neg (by omega)]
  have hr : restOf n = (n + 719468) % 146097 - D y := by unfold restOf; rw [ey]
  rw [hE] at h2
  have hE1 : E (y + 1) - D y = 365 ∨ (E (y + 1) - D y = 366 ∧ ((y : Int) + 1) % 4 = 0 ∧ (((y : Int) + 1) % 100 ≠ 0 ∨ y = 399)) := by
    unfold E D
    by_cases hq : y + 1 = 400
    · rw [if_pos hq]
      obtain rfl : y = 399 := by omega
      right; decide
    · rw [if_neg hq]
      have : ((y + 1 : Nat) : Int) = (y : Int) + 1 := by omega
      rw [this]
      omega
  have hr0 : 0 ≤ restOf n := by omega
  have hr1 : restOf n ≤ 365 := by omega
  have hms : MonthS (restOf n) (m0Of n) (dayOf n) (monthOf n) := month_of (restOf n) hr0 hr1
  obtain ⟨s0, s1, s2, s3, s4, s5, s6, s7, s8⟩ := hms
  have hyr : 1 ≤ yOf n ∧ yOf n ≤ 9999 := by
    unfold yOf
    rw [ey]
    have hDy : D y = 365 * (y : Int) + (y : Int) / 4 - (y : Int) / 100 := rfl
    by_cases hm : monthOf n ≤ 2
    · rw [if_pos hm]
      have := s8.1 hm
      omega
    · rw [if_neg hm]
      have : ¬ 306 ≤ restOf n := fun k => hm (s8.2 k)
      omega
  have hleap : restOf n = 365 → leapB (yOf n) = true := fun h => by
    have hm := (s4 h).1
    rw [leap_iff]
    unfold yOf
    rw [ey, if_pos (by omega)]
    omega
  refine ⟨⟨hyr, ⟨s6, s7⟩, s2, ?_⟩, ?_, ⟨by omega, by omega⟩, ⟨hr0, hr1⟩, ⟨s0, s1⟩⟩
  · rw [longS_in _ _ hyr ⟨s6, s7⟩]
    by_cases h : restOf n = 365
    · obtain ⟨hm, hd⟩ := s4 h
      rw [if_pos hm, if_pos (hleap h), hd]; omega
    · have h4 := s3 (by omega)
      unfold plainL at h4
      by_cases hm : monthOf n = 2
      · rw [if_pos hm] at h4 ⊢
        split <;> omega
      · rw [if_neg hm] at h4 ⊢
        exact h4
  · unfold dnum
    have hd : dayOf n = restOf n - (153 * m0Of n + 2) / 5 + 1 := rfl
    have hDmod : ∀ q : Int, (q * 400 + (y : Int)) / 400 = q ∧ (q * 400 + (y : Int)) % 400 = (y : Int) := fun q => ⟨by omega, by omega⟩
    rw [s5]
    by_cases hm : monthOf n ≤ 2
    · have e : yOf n - 1 = (n + 719468) / 146097 * 400 + (y : Int) := by unfold yOf; rw [ey, if_pos hm]; omega
      rw [if_pos hm, e, (hDmod _).1, (hDmod _).2]
      omega
    · have e : yOf n = (n + 719468) / 146097 * 400 + (y : Int) := by unfold yOf; rw [ey, if_neg hm]; omega
      rw [if_neg hm, e, (hDmod _).1, (hDmod _).2]
      omega
theorem of_num {y m d : Int} (h : Right y m d) : yOf (dnum y m d) = y ∧ monthOf (dnum y m d) = m ∧ dayOf (dnum y m d) = d := by
  obtain ⟨a, b⟩ := right_first h
  obtain ⟨r, e, _⟩ := of_right (dnum y m d) a b
  exact right_unique r h e
end Go.Proofs.Ytgeclcepfcfekaa.Cal
