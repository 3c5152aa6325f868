/- What the calendar's functions compute. -/
import Derived.Test.YtgeclcepfcfekaaPureD
import Derived.Test.YtgeclcepfcfekaaA3
import Derived.Test.YtgeclcepfcfekaaA7
namespace Go.Proofs.Ytgeclcepfcfekaa.All
open Go.RowKit Go.Proofs.YtgeclcepfcfekaaW.PrintWords Go.Proofs.YtgeclcepfcfekaaW.PrintLast Go.Proofs.YtgeclcepfcfekaaW.PrintMore
open Go.Proofs.Ytgeclcepfcfekaa.Cal Go.Proofs.Ytgeclcepfcfekaa.LongP

theorem wr {x : Int} (h : -9223372036854775808 ≤ x ∧ x ≤ 9223372036854775807) : wrap64 x = x := by
  unfold wrap64; omega
theorem td {a b : Int} (h : 0 ≤ a) : Int.tdiv a b = a / b := Int.tdiv_eq_ediv_of_nonneg h
theorem tm {a b : Int} (h : 0 ≤ a) : Int.tmod a b = a % b := Int.tmod_eq_emod_of_nonneg h
theorem bindS {α β : Type} (a : α) (f : α → Option β) : (some a).bind f = f a := Eq.trans (Option.bind_some _ _) rfl
theorem tm0 {a b : Int} : Int.tmod a b = 0 ↔ a % b = 0 := by
  rw [← Int.dvd_iff_tmod_eq_zero, Int.dvd_iff_emod_eq_zero]

instance (y m d : Int) : Decidable (Right y m d) := by unfold Right; infer_instance
theorem right_at (y m d : Int) : civil_Right.f y m d = some (decide (Right y m d)) := by
  unfold civil_Right.f civil_Long.f
  rw [bindS]
  by_cases h : d ≥ 1
  · rw [if_pos h]
    congr 1
    apply decide_eq_decide.2
    unfold Right longS
    constructor
    · intro h2
      by_cases hc : y < 1 ∨ 9999 < y ∨ m < 1 ∨ 12 < m
      · rw [if_pos hc] at h2; omega
      · rw [if_neg hc] at h2 ⊢
        exact ⟨by omega, by omega, h, h2⟩
    · intro ⟨_, _, _, h2⟩; exact h2
  · rw [if_neg h]
    congr 1
    symm
    apply decide_eq_false
    intro hr; exact h hr.2.2.1
theorem day31 {y m d : Int} (h : Right y m d) : d ≤ 31 := by
  have := longS_pos y m h.1 h.2.1
  have := h.2.2.2
  omega
theorem behind_at {m : Int} (hm : 1 ≤ m ∧ m ≤ 12) : civil_behind.f m = some ((153 * ((m + 9) % 12) + 2) / 5) := by
  unfold civil_behind.f
  congr 1
  simp (disch := omega) only [wr, td, tm]
theorem days_lo {y m d : Int} (h1 : 1 ≤ y) (h2 : y ≤ 9999) (h3 : 1 ≤ d) (h4 : d ≤ 31) (hm : 1 ≤ m ∧ m ≤ 2) : civil_days.f y m d = some (dnum y m d) := by
  unfold civil_days.f
  rw [if_pos hm.2, behind_at ⟨hm.1, by omega⟩, bindS]
  unfold dnum D
  rw [if_pos hm.2]
  congr 1
  have hb : 0 ≤ (153 * ((m + 9) % 12) + 2) / 5 ∧ (153 * ((m + 9) % 12) + 2) / 5 ≤ 400 := by omega
  generalize (153 * ((m + 9) % 12) + 2) / 5 = B at *
  simp (disch := omega) only [wr, td, tm]
  omega
theorem days_hi {y m d : Int} (h1 : 1 ≤ y) (h2 : y ≤ 9999) (h3 : 1 ≤ d) (h4 : d ≤ 31) (hm : 3 ≤ m ∧ m ≤ 12) : civil_days.f y m d = some (dnum y m d) := by
  unfold civil_days.f
  rw [if_neg (by omega), behind_at ⟨by omega, by omega⟩, bindS]
  unfold dnum D
  rw [if_neg (by omega)]
  congr 1
  have hb : 0 ≤ (153 * ((m + 9) % 12) + 2) / 5 ∧ (153 * ((m + 9) % 12) + 2) / 5 ≤ 400 := by omega
  generalize (153 * ((m + 9) % 12) + 2) / 5 = B at *
  simp (disch := omega) only [wr, td, tm]
  omega
theorem days_at {y m d : Int} (h : Right y m d) : civil_days.f y m d = some (dnum y m d) := by
  have h31 := day31 h
  by_cases hm : m ≤ 2
  · exact days_lo h.1.1 h.1.2 h.2.2.1 h31 ⟨h.2.1.1, hm⟩
  · exact days_hi h.1.1 h.1.2 h.2.2.1 h31 ⟨by omega, h.2.1.2⟩
theorem Days_yes {y m d : Int} (h : Right y m d) : civil_Days.f y m d = some (dnum y m d, 0) := by
  unfold civil_Days.f
  rw [right_at, bindS, if_pos (decide_eq_true h), days_at h, bindS]
theorem Days_no {y m d : Int} (h : ¬ Right y m d) : civil_Days.f y m d = some (0, 30) := by
  unfold civil_Days.f
  rw [right_at, bindS, if_neg (by rw [decide_eq_true_iff]; exact h)]

theorem minus_at {a : Int} (h0 : -9223372036854775808 ≤ a) (h1 : a ≤ 9223372036854775807) : usec_minus.f a = some (if a < 0 then 1 else 0) := by
  unfold usec_minus.f
  rw [IntKind.wrap_u64]
  congr 1
  split <;> omega
theorem tdm (a b : Int) (ha : a < 0) (_hb : 0 < b) : Int.tdiv a b = -((-a) / b) ∧ Int.tmod a b = -((-a) % b) := by
  constructor
  · rw [show a = -(-a) by omega, Int.neg_tdiv, td (by omega), Int.neg_neg]
  · rw [show a = -(-a) by omega, Int.neg_tmod, tm (by omega), Int.neg_neg]
theorem floor_neg (a b : Int) (hb : 0 < b) : ((-a) % b = 0 → a / b = -((-a) / b) ∧ a % b = 0) ∧ ((-a) % b ≠ 0 → a / b = -((-a) / b) - 1 ∧ a % b = b - (-a) % b) := by
  have e1 := Int.emod_add_mul_ediv (-a) b
  have r0 := Int.emod_nonneg (-a) (show b ≠ 0 by omega)
  have r1 := Int.emod_lt_of_pos (-a) hb
  have e2 := Int.emod_add_mul_ediv a b
  have s0 := Int.emod_nonneg a (show b ≠ 0 by omega)
  have s1 := Int.emod_lt_of_pos a hb
  constructor
  · intro h
    have ha : a = b * (-((-a) / b)) := by rw [Int.mul_neg]; omega
    refine ⟨?_, ?_⟩
    · conv => lhs; rw [ha]
      exact Int.mul_ediv_cancel_left _ (by omega)
    · rw [ha]; exact Int.mul_emod_right _ _
  · intro h
    have ha : a = (b - (-a) % b) + b * (-((-a) / b) - 1) := by rw [Int.mul_sub, Int.mul_neg, Int.mul_one]; omega
    have hlt : 0 ≤ b - (-a) % b ∧ b - (-a) % b < b := by omega
    refine ⟨?_, ?_⟩
    · conv => lhs; rw [ha]
      rw [Int.add_mul_ediv_left _ _ (show b ≠ 0 by omega), Int.ediv_eq_zero_of_lt hlt.1 hlt.2]; omega
    · conv => lhs; rw [ha]
      rw [Int.add_mul_emod_self_left, Int.emod_eq_of_lt hlt.1 hlt.2]
theorem Div_at (k : Nat) {a b : Int} (h0 : -9223372036854775808 ≤ a) (h1 : a ≤ 9223372036854775807) (hb : 0 < b) (hb2 : b ≤ 100000000000) : usec_Div.f (k + 1) a b = some (a / b, a % b, true) := by
  unfold usec_Div.f
  rw [if_neg (by omega), if_neg (by omega), usec_Div.j0, if_neg (by decide), if_neg (by omega)]
  have r0 := Int.emod_nonneg (-a) (show b ≠ 0 by omega)
  have r1 := Int.emod_lt_of_pos (-a) hb
  have s0 := Int.emod_nonneg a (show b ≠ 0 by omega)
  have s1 := Int.emod_lt_of_pos a hb
  by_cases ha : a < 0
  · obtain ⟨e1, e2⟩ := tdm a b ha hb
    obtain ⟨f1, f2⟩ := floor_neg a b hb
    have q0 : 0 ≤ (-a) / b := Int.ediv_nonneg (by omega) (by omega)
    have q1 : (-a) / b ≤ -a := Int.ediv_le_self b (by omega)
    have qs : b ≥ 2 → (-a) / b ≤ -a / 2 := fun _ => by
      have := Int.emod_add_mul_ediv (-a) b
      have h2 : 2 * ((-a) / b) ≤ b * ((-a) / b) := Int.mul_le_mul_of_nonneg_right (by omega) q0
      omega
    rw [e1, e2]
    by_cases hr : (-a) % b = 0
    · obtain ⟨g1, g2⟩ := f1 hr
      rw [if_pos (by omega), g1, g2, hr, wr ⟨by omega, by omega⟩]
      rfl
    · obtain ⟨g1, g2⟩ := f2 hr
      have hb3 : b ≥ 2 := by
        by_cases hb1 : b = 1
        · subst hb1; omega
        · omega
      have qs := qs hb3
      generalize hqq : -((-a) / b) = Q at *
      generalize hrr : -((-a) % b) = R at *
      rw [if_neg (by omega), minus_at (by omega) (by omega), bindS, minus_at (by omega) (by omega), bindS, if_neg (by rw [if_pos (by omega), if_neg (by omega)]; decide), g1, g2]
      rw [wr (x := Q) ⟨by omega, by omega⟩, wr (x := Q - 1) ⟨by omega, by omega⟩, wr (x := R + b) ⟨by omega, by omega⟩, show R + b = b - -a % b by omega]
  · have q0 : 0 ≤ a / b := Int.ediv_nonneg (by omega) (by omega)
    have q1 : a / b ≤ a := Int.ediv_le_self b (by omega)
    rw [td (by omega), tm (by omega), wr ⟨by omega, by omega⟩]
    by_cases hr : a % b = 0
    · rw [if_pos hr]
    · rw [if_neg hr, minus_at (by omega) (by omega), bindS, minus_at (by omega) (by omega), bindS, if_pos (by rw [if_neg (by omega), if_neg (by omega)])]

theorem Week_yes (k : Nat) {y m d : Int} (h : Right y m d) : civil_Weekday.f (k + 1) y m d = some ((dnum y m d + 3) % 7 + 1) := by
  unfold civil_Weekday.f
  have := right_first h
  rw [right_at, bindS, if_pos (decide_eq_true h), days_at h, bindS, wr ⟨by omega, by omega⟩, Div_at k (by omega) (by omega) (by decide) (by decide), bindS]
  dsimp only
  rw [wr ⟨by omega, by omega⟩]
theorem Week_no (k : Nat) {y m d : Int} (h : ¬ Right y m d) : civil_Weekday.f k y m d = some 0 := by
  unfold civil_Weekday.f
  rw [right_at, bindS, if_neg (by rw [decide_eq_true_iff]; exact h)]

theorem Of_yes (k : Nat) {n : Int} (h0 : -719162 ≤ n) (h1 : n ≤ 2932896) : civil_Of.f (k + 1) n = some (yOf n, monthOf n, dayOf n, 0) := by
  unfold civil_Of.f
  have hd1 : civil_days.f 1 1 1 = some (-719162) := by decide +kernel
  have hd2 : civil_days.f 9999 12 31 = some 2932896 := by decide +kernel
  rw [hd1, bindS, if_neg (by omega), hd2, bindS, decide_eq_false (by omega), civil_Of.j0, if_neg (by decide)]
  obtain ⟨hR, hN, hy, hr, hm⟩ := of_right n h0 h1
  have hdd := hR.2.2.1
  have hd31 := day31 hR
  have hmm := hR.2.1
  have e1 : wrap64 (n + 719468) = n + 719468 := wr ⟨by omega, by omega⟩
  have e2 : Int.tmod (n + 719468) 146097 = (n + 719468) % 146097 := tm (by omega)
  have ex : wrap64 (Int.tdiv (n + 719468) 146097) = (n + 719468) / 146097 := by rw [td (by omega), wr ⟨by omega, by omega⟩]
  have e3 : wrap64 (Int.tdiv (wrap64 ((wrap64 ((wrap64 ((n + 719468) % 146097 - (wrap64 (Int.tdiv ((n + 719468) % 146097) 1460)))) + (wrap64 (Int.tdiv ((n + 719468) % 146097) 36524)))) - (wrap64 (Int.tdiv ((n + 719468) % 146097) 146096)))) 365) = yearOf n := by
    clear hR hN hdd hmm hd31 hm hr hy
    unfold yearOf guess
    have : 0 ≤ (n + 719468) % 146097 ∧ (n + 719468) % 146097 < 146097 := by omega
    generalize (n + 719468) % 146097 = X at *
    simp (disch := omega) only [wr, td]
  have e4 : wrap64 ((n + 719468) % 146097 - wrap64 (wrap64 (wrap64 (365 * yearOf n) + wrap64 (Int.tdiv (yearOf n) 4)) - wrap64 (Int.tdiv (yearOf n) 100))) = restOf n := by
    clear hR hN hdd hmm hd31 hm
    unfold restOf D at *
    have : 0 ≤ (n + 719468) % 146097 ∧ (n + 719468) % 146097 < 146097 := by omega
    generalize (n + 719468) % 146097 = X at *
    generalize yearOf n = Y at *
    simp (disch := omega) only [wr, td]
  have e5 : wrap64 (Int.tdiv (wrap64 (wrap64 (5 * restOf n) + 2)) 153) = m0Of n := by
    clear hR hN hdd hmm hd31 hm
    unfold m0Of
    generalize restOf n = X at *
    simp (disch := omega) only [wr, td]
  have e6 : wrap64 (Int.tmod (wrap64 (m0Of n + 2)) 12 + 1) = monthOf n := by
    clear hR hN hdd hmm hd31
    unfold monthOf
    generalize m0Of n = X at *
    simp (disch := omega) only [wr, tm]
  have e7 : wrap64 (wrap64 (restOf n - wrap64 (Int.tdiv (wrap64 (wrap64 (153 * m0Of n) + 2)) 5)) + 1) = dayOf n := by
    clear hR hN hdd hmm hd31
    unfold dayOf
    generalize restOf n = X at *
    generalize m0Of n = Y at *
    simp (disch := omega) only [wr, td]
  have e8 : wrap64 ((n + 719468) / 146097 * 400) = (n + 719468) / 146097 * 400 := wr ⟨by omega, by omega⟩
  have e9 : wrap64 ((n + 719468) / 146097 * 400 + yearOf n) = (n + 719468) / 146097 * 400 + yearOf n := wr ⟨by omega, by omega⟩
  have e10 : wrap64 ((n + 719468) / 146097 * 400 + yearOf n + 1) = (n + 719468) / 146097 * 400 + yearOf n + 1 := wr ⟨by omega, by omega⟩
  clear hR hN hy hr hm hdd hmm hd31
  simp only [e1, e2, ex, e3, e4, e5, e6, e7, e8, e9, e10]
  by_cases hmo : monthOf n ≤ 2
  · rw [if_pos hmo, show (n + 719468) / 146097 * 400 + yearOf n + 1 = yOf n by unfold yOf; rw [if_pos hmo]]
  · rw [if_neg hmo, show (n + 719468) / 146097 * 400 + yearOf n = yOf n by unfold yOf; rw [if_neg hmo]; omega]
theorem Of_no (k : Nat) {n : Int} (h : n < -719162 ∨ 2932896 < n) : civil_Of.f (k + 1) n = some (0, 0, 0, 6) := by
  unfold civil_Of.f
  have hd1 : civil_days.f 1 1 1 = some (-719162) := by decide +kernel
  have hd2 : civil_days.f 9999 12 31 = some 2932896 := by decide +kernel
  rw [hd1, bindS]
  by_cases h1 : n < -719162
  · rw [if_pos h1, civil_Of.j0, if_pos rfl]
  · rw [if_neg h1, hd2, bindS, decide_eq_true (by omega), civil_Of.j0, if_pos rfl]
theorem From_yes (k : Nat) {t : Int} (h0 : -719162 ≤ t / 86400000000) (h1 : t / 86400000000 ≤ 2932896) : civil_FromMicro.f (k + 1) t = some (yOf (t / 86400000000), monthOf (t / 86400000000), dayOf (t / 86400000000), t % 86400000000 / 1000000 / 3600, t % 86400000000 / 1000000 / 60 % 60, t % 86400000000 / 1000000 % 60, t % 86400000000 % 1000000, 0) := by
  unfold civil_FromMicro.f
  rw [Div_at k (by omega) (by omega) (by decide) (by decide), bindS]
  dsimp only
  rw [Of_yes k h0 h1, bindS, if_pos rfl]
  have : 0 ≤ t % 86400000000 ∧ t % 86400000000 < 86400000000 := by omega
  dsimp only
  generalize t % 86400000000 = X at *
  simp (disch := omega) only [wr, td, tm]
theorem From_no (k : Nat) {t : Int} (ht : -9223372036854775808 ≤ t ∧ t ≤ 9223372036854775807) (h : t / 86400000000 < -719162 ∨ 2932896 < t / 86400000000) : civil_FromMicro.f (k + 1) t = some (0, 0, 0, 0, 0, 0, 0, 6) := by
  unfold civil_FromMicro.f
  rw [Div_at k (by omega) (by omega) (by decide) (by decide), bindS]
  dsimp only
  rw [Of_no k h, bindS, if_neg (by decide)]
def TimeR (h mi s us : Int) : Prop := (0 ≤ h ∧ h ≤ 23) ∧ (0 ≤ mi ∧ mi ≤ 59) ∧ (0 ≤ s ∧ s ≤ 59) ∧ 0 ≤ us ∧ us ≤ 999999
instance (h mi s us : Int) : Decidable (TimeR h mi s us) := by unfold TimeR; infer_instance
theorem mn_neg (h mi s us : Int) : mn (mn (mn h mi) s) us < 0 ↔ ¬ (0 ≤ h ∧ 0 ≤ mi ∧ 0 ≤ s ∧ 0 ≤ us) := by
  unfold mn
  repeat' split
  all_goals omega
theorem mx_59 (mi s : Int) : mx mi s > 59 ↔ ¬ (mi ≤ 59 ∧ s ≤ 59) := by
  unfold mx
  split <;> omega
theorem Micro_yes {y m d h mi s us : Int} (hd : Right y m d) (ht : TimeR h mi s us) : civil_Micro.f y m d h mi s us = some (dnum y m d * 86400000000 + (((h * 60 + mi) * 60) + s) * 1000000 + us, 0) := by
  unfold civil_Micro.f
  have hr := right_first hd
  unfold TimeR at ht
  rw [Days_yes hd, bindS, if_pos rfl, if_neg (by rw [mn_neg]; omega), if_neg (by omega), if_neg (by rw [mx_59]; omega), if_neg (by omega)]
  dsimp only
  clear hd
  generalize dnum y m d = N at *
  simp (disch := omega) only [wr]
theorem Micro_no {y m d h mi s us : Int} (hn : ¬ (Right y m d ∧ TimeR h mi s us)) : civil_Micro.f y m d h mi s us = some (0, 30) := by
  unfold civil_Micro.f
  by_cases hd : Right y m d
  · have ht : ¬ TimeR h mi s us := fun h => hn ⟨hd, h⟩
    clear hn
    rw [Days_yes hd, bindS, if_pos rfl]
    clear hd
    unfold TimeR at ht
    by_cases h1 : mn (mn (mn h mi) s) us < 0
    · rw [if_pos h1]
    · rw [if_neg h1]
      rw [mn_neg] at h1
      by_cases h2 : h > 23
      · rw [if_pos h2]
      · rw [if_neg h2]
        by_cases h3 : mx mi s > 59
        · rw [if_pos h3]
        · rw [if_neg h3]
          rw [mx_59] at h3
          rw [if_pos (by omega)]
  · rw [Days_no hd, bindS, if_neg (by decide)]
end Go.Proofs.Ytgeclcepfcfekaa.All
