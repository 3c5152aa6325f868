/- The laws of the numbers that fit. -/
import Derived.Test.YtbegglmcbcepeaaPureN
import Derived.OpenShut
namespace Go.Proofs.Ytbegglmcbcepeaa.All
open Go.RowKit Go.Proofs.YtbegglmcbcepeaaW.PrintWords Go.Proofs.YtbegglmcbcepeaaW.PrintLast Go.Proofs.YtbegglmcbcepeaaW.PrintMore
set_option linter.unusedVariables false
set_option linter.unusedSimpArgs false

theorem Clamp_at (a low high : Int) : usec_Clamp.f a low high = some (if a < low then low else if a > high then high else a) := by
  unfold usec_Clamp.f
  split
  · rfl
  · split <;> rfl
/-! ### UsecOrder -/
theorem quo_mono {a b c q1 r1 q2 r2 : Int} (hab : a ≤ b) (hc : 0 < c) (h1 : DivS a c q1 r1) (h2 : DivS b c q2 r2) : q1 ≤ q2 := by
  have e1 := h1.sum
  have e2 := h2.sum
  have u1 := h1.up hc
  have u2 := h2.up hc
  by_cases h : q2 + 1 ≤ q1
  · have := Int.mul_le_mul_of_nonneg_right h (Int.le_of_lt hc)
    rw [Int.add_mul, Int.one_mul] at this
    omega
  · omega
theorem clamp_lo {a low high : Int} (h : a < low) : usec_Clamp.f a low high = some low := by rw [Clamp_at, if_pos h]
theorem clamp_hi {a low high : Int} (h : ¬ a < low) (h2 : a > high) : usec_Clamp.f a low high = some high := by rw [Clamp_at, if_neg h, if_pos h2]
theorem clamp_mid {a low high : Int} (h : ¬ a < low) (h2 : ¬ a > high) : usec_Clamp.f a low high = some a := by rw [Clamp_at, if_neg h, if_neg h2]
theorem order_j3 (k : Nat) (hk : 2 < k) {a b c : Int} (hab : a ≤ b) : clepsydralaw01_UsecOrder.j3 k a b c false = some true := by
  obtain ⟨k, rfl⟩ : ∃ m, k = m + 1 := ⟨k - 1, by omega⟩
  have hw := works_at k (by omega)
  rw [clepsydralaw01_UsecOrder.j3, if_neg (by decide)]
  by_cases h1 : c < a
  · rw [clamp_lo h1, bindS, if_pos (Int.le_refl a), if_pos hab, clamp_mid (by omega) (by omega), bindS, if_pos rfl, if_pos h1, hw, bindS]
  · by_cases h2 : c > b
    · rw [clamp_hi h1 h2, bindS, if_pos (show b ≥ a from hab), if_pos (Int.le_refl b), clamp_mid (by omega) (by omega), bindS, if_pos rfl, if_neg h1, if_pos h2, hw, bindS]
    · rw [clamp_mid h1 h2, bindS, if_pos (show c ≥ a by omega), if_pos (show c ≤ b by omega), clamp_mid h1 h2, bindS, if_pos rfl, if_neg h1, if_neg h2, if_pos rfl, hw, bindS]
theorem order_j2 (k : Nat) (hk : 4 < k) {a b c : Int} (ha : In64 a) (hb : In64 b) (hc : In64 c) (hab : a ≤ b) : clepsydralaw01_UsecOrder.j2 k a b c = some true := by
  obtain ⟨k, rfl⟩ : ∃ m, k = m + 1 := ⟨k - 1, by omega⟩
  have h3 := order_j3 k (by omega) (c := c) hab
  rw [clepsydralaw01_UsecOrder.j2, Later_at hc ha, bindS, Later_at hc hb, bindS]
  have hm : (if a < 0 then 0 else a) ≤ (if b < 0 then 0 else b) ∧ 0 ≤ (if b < 0 then 0 else b) ∧ 0 ≤ (if a < 0 then 0 else a) := by split <;> split <;> omega
  generalize (if a < 0 then 0 else a) = x at *
  generalize (if b < 0 then 0 else b) = y at *
  have hle : ¬ (if c = 9223372036854775807 ∨ a = 9223372036854775807 ∨ ¬ In64 (c + x) then 9223372036854775807 else c + x) > (if c = 9223372036854775807 ∨ b = 9223372036854775807 ∨ ¬ In64 (c + y) then 9223372036854775807 else c + y) := by
    unfold In64 at *
    split <;> split <;> omega
  have hge : ¬ (if c = 9223372036854775807 ∨ b = 9223372036854775807 ∨ ¬ In64 (c + y) then 9223372036854775807 else c + y) < c := by
    unfold In64 at *
    split <;> omega
  rw [if_neg hle, bindS, decide_eq_false hge, h3]
theorem order_j1 (k : Nat) (hk : 6 < k) {a b c : Int} (ha : In64 a) (hb : In64 b) (hc : In64 c) (hab : a ≤ b) : clepsydralaw01_UsecOrder.j1 k a b c false = some true := by
  obtain ⟨k, rfl⟩ : ∃ m, k = m + 2 := ⟨k - 2, by omega⟩
  have h2 := order_j2 (k + 1) (by omega) ha hb hc hab
  rw [clepsydralaw01_UsecOrder.j1, if_neg (by decide)]
  by_cases h : c > 0
  · obtain ⟨q1, r1, e1, d1⟩ := Div_yes k ha hc (by omega) (by omega)
    obtain ⟨q2, r2, e2, d2⟩ := Div_yes k hb hc (by omega) (by omega)
    have := quo_mono hab h d1 d2
    rw [if_pos h, e1, bindS, e2, bindS, if_pos rfl, if_pos rfl, if_neg (by dsimp only; omega), h2]
  · rw [if_neg h, h2]
theorem order_j0 (k : Nat) (hk : 10 < k) {a b c : Int} (ha : In64 a) (hb : In64 b) (hc : In64 c) (hab : a ≤ b) : clepsydralaw01_UsecOrder.j0 k a b c = some true := by
  obtain ⟨k, rfl⟩ : ∃ m, k = m + 1 := ⟨k - 1, by omega⟩
  have h1 := order_j1 k (by omega) ha hb hc hab
  rw [clepsydralaw01_UsecOrder.j0, Add_at ha hc, bindS, Add_at hb hc, bindS]
  by_cases x : In64 (a + c)
  · rw [fit_in x, if_pos rfl]
    by_cases y : In64 (b + c)
    · rw [fit_in y, if_pos rfl, decide_eq_false (by dsimp only; omega), h1]
    · rw [fit_out y, if_neg (by decide), h1]
  · rw [fit_out x, if_neg (by decide), h1]
theorem order_law (k : Nat) (hk : 10 < k) {a b c : Int} (ha : In64 a) (hb : In64 b) (hc : In64 c) : clepsydralaw01_UsecOrder.f k a b c = some true := by
  unfold clepsydralaw01_UsecOrder.f
  by_cases h : a > b
  · rw [if_pos h, order_j0 k hk hb ha hc (by omega)]
  · rw [if_neg h, order_j0 k hk ha hb hc (by omega)]

/-! ### UsecRules -/
theorem rules_j1 (k : Nat) (hk : 2 < k) {a b c : Int} (ha : In64 a) (hb : In64 b) (hc : In64 c) : clepsydralaw01_UsecRules.j1 k a b c (fit (a + b)).1 (fit (a + b)).2 false = some true := by
  obtain ⟨k, rfl⟩ : ∃ m, k = m + 1 := ⟨k - 1, by omega⟩
  have hw := works_at k (by omega)
  rw [clepsydralaw01_UsecRules.j1, if_neg (by decide), Add_at (fit_in64 _) hc, bindS, Add_at hb hc, bindS, Add_at ha (fit_in64 _), bindS]
  by_cases h1 : In64 (a + b)
  · rw [fit_in h1, if_pos rfl]
    dsimp only
    by_cases h2 : In64 (a + b + c)
    · rw [fit_in h2, if_pos rfl]
      by_cases h3 : In64 (b + c)
      · rw [fit_in h3, if_pos rfl]
        dsimp only
        rw [show a + (b + c) = a + b + c by omega, fit_in h2, if_pos rfl, if_pos rfl, hw, bindS]
      · rw [fit_out h3, if_neg (by decide), hw, bindS]
    · rw [fit_out h2, if_neg (by decide), hw, bindS]
  · rw [fit_out h1, if_neg (by decide), hw, bindS]
theorem rules_law (k : Nat) (hk : 6 < k) {a b c : Int} (ha : In64 a) (hb : In64 b) (hc : In64 c) : clepsydralaw01_UsecRules.f k a b c = some true := by
  obtain ⟨k, rfl⟩ : ∃ m, k = m + 1 := ⟨k - 1, by omega⟩
  have h1 := rules_j1 k (by omega) ha hb hc
  unfold clepsydralaw01_UsecRules.f
  rw [Add_at ha hb, bindS, Add_at hb ha, bindS, Mul_at ha hb, bindS, Mul_at hb ha, bindS, Int.add_comm b a, Int.mul_comm b a, if_pos rfl, bne_self_eq_false, if_neg (by decide), if_pos rfl, bne_self_eq_false,
    clepsydralaw01_UsecRules.j0, if_neg (by decide), Sub_at (fit_in64 _) hb, bindS]
  by_cases h : In64 (a + b)
  · have e : fit (a + b - b) = (a, true) := by rw [show a + b - b = a by omega]; exact fit_in ha
    rw [fit_in h] at h1 ⊢
    rw [if_pos rfl]
    dsimp only at h1 ⊢
    rw [e, if_pos rfl]
    dsimp only
    rw [bne_self_eq_false, h1]
  · rw [fit_out h] at h1 ⊢
    rw [if_neg (by decide), h1]

/-! ### UsecSums, UsecDiv, UsecClamp -/
theorem fits_at {t : BigT} {v : Int} (h : IsBig t v) : clepsydraref01_Fits.f t.1 t.2.1 t.2.2.1 t.2.2.2.1 t.2.2.2.2.1 t.2.2.2.2.2 = some (fit v) := by
  rw [Fits_big_is h]
  by_cases c : In64 v
  · rw [fit_in c]; unfold In64 at c; rw [if_pos c]
  · rw [fit_out c]; unfold In64 at c; rw [if_neg c]
theorem is_at {t : BigT} {v : Int} (h : IsBig t v) : clepsydralaw01_is.f (fit v).1 (fit v).2 t.1 t.2.1 t.2.2.1 t.2.2.2.1 t.2.2.2.2.1 t.2.2.2.2.2 = some true := by
  unfold clepsydralaw01_is.f
  rw [fits_at h, bindS, if_pos (by simp)]
  by_cases c : In64 v
  · rw [fit_in c, if_pos rfl, if_pos rfl]
  · rw [fit_out c, if_neg (by decide)]; rfl
theorem in64_small {v : Int} (h : In64 v) : Small v := by unfold In64 at h; unfold Small; omega
theorem sums_law (k : Nat) (hk : 2 < k) {a b : Int} (ha : In64 a) (hb : In64 b) : clepsydralaw01_UsecSums.f k a b = some true := by
  have hw := works_at k (by omega)
  obtain ⟨x, ex, hx⟩ := Of_big ha.1 ha.2
  obtain ⟨y, ey, hy⟩ := Of_big hb.1 hb.2
  obtain ⟨t, et, ht⟩ := Add_big hx hy (in64_small ha) (in64_small hb)
  obtain ⟨z, ez, hz⟩ := Neg_big hy
  obtain ⟨u, eu, hu⟩ := Add_big hx hz (in64_small ha) (by unfold In64 at hb; unfold Small; omega)
  obtain ⟨v, ev, hv⟩ := Mul_big ha.1 ha.2 hb.1 hb.2 ex ey
  unfold clepsydralaw01_UsecSums.f
  rw [ex, bindS, ey, bindS, Add_at ha hb, bindS, Sub_at ha hb, bindS, Mul_at ha hb, bindS, et, bindS, is_at ht, bindS, if_pos rfl, ez, bindS, eu, bindS, show a - b = a + -b by omega, is_at hu, bindS, if_pos rfl, ev, bindS, is_at hv, bindS, if_pos rfl, hw, bindS]
theorem div_law (k : Nat) (hk : 4 < k) {a b : Int} (ha : In64 a) (hb : In64 b) : clepsydralaw01_UsecDiv.f k a b = some true := by
  obtain ⟨k, rfl⟩ : ∃ m, k = m + 1 := ⟨k - 1, by omega⟩
  have hw := works_at k (by omega)
  unfold clepsydralaw01_UsecDiv.f
  by_cases hc : b = 0 ∨ (b = -1 ∧ a = -9223372036854775808)
  · rw [Div_no k hc, bindS]
    by_cases h0 : b = 0
    · rw [if_pos h0, clepsydralaw01_UsecDiv.j0, if_pos rfl, if_neg (by decide), if_pos rfl, if_pos rfl, hw, bindS]
    · obtain ⟨h1, h2⟩ := hc.resolve_left h0
      rw [if_neg h0, if_pos h1, h2, show ((-9223372036854775808 : Int) == -9223372036854775808) = true from by decide, clepsydralaw01_UsecDiv.j0, if_pos rfl, if_neg (by decide), if_pos rfl, if_pos rfl, hw, bindS]
  · have h0 : b ≠ 0 := fun h => hc (.inl h)
    have h1 : ¬ (b = -1 ∧ a = -9223372036854775808) := fun h => hc (.inr h)
    obtain ⟨q, r, e, d⟩ := Div_yes k ha hb h0 h1
    have hr : In64 r := by
      have u := d.up
      have v := d.dn
      unfold In64 at *
      by_cases hp : 0 < b
      · have := u hp; omega
      · have := v (by omega); omega
    obtain ⟨x, ex, hx⟩ := Of_big d.fq.1 d.fq.2
    obtain ⟨y, ey, hy⟩ := Of_big hb.1 hb.2
    obtain ⟨z, ez, hz⟩ := Of_big hr.1 hr.2
    obtain ⟨m, em, hm⟩ := Mul_big d.fq.1 d.fq.2 hb.1 hb.2 ex ey
    have hs := d.sum
    obtain ⟨t, et, ht⟩ := Add_big hm hz (by unfold In64 at ha hr; unfold Small; omega) (in64_small hr)
    rw [hs] at ht
    have hj : clepsydralaw01_UsecDiv.j0 (k + 1) a b q r true false = some true := by
      rw [clepsydralaw01_UsecDiv.j0, if_neg (by decide), ex, bindS, ey, bindS, em, bindS, ez, bindS, et, bindS, fits_at ht, fit_in ha, bindS, if_pos rfl, if_pos rfl, if_pos rfl]
      by_cases hp : b > 0
      · have := d.up hp
        rw [if_pos hp, if_pos (by omega), if_pos (by omega), hw, bindS]
      · have := d.dn (by omega)
        rw [if_neg hp, if_pos (by omega), if_pos (by omega), if_pos (by omega), hw, bindS]
    rw [e, bindS, if_neg h0]
    dsimp only
    by_cases hm1 : b = -1
    · rw [if_pos hm1, show (a == -9223372036854775808) = false by rw [beq_eq_false_iff_ne]; exact fun h => h1 ⟨hm1, h⟩, hj]
    · rw [if_neg hm1, hj]
theorem clamp_j2 (k : Nat) (hk : 4 < k) {a s by' c : Int} (ha : In64 a) (hs : In64 s) (hby : by' = if s < 0 then 0 else s) : clepsydralaw01_UsecClamp.j2 k a s c c by' = some true := by
  obtain ⟨k, rfl⟩ : ∃ m, k = m + 2 := ⟨k - 2, by omega⟩
  have hw := works_at k (by omega)
  have hbi : In64 by' := by rw [hby]; unfold In64 at *; split <;> omega
  obtain ⟨x, ex, hx⟩ := Of_big ha.1 ha.2
  obtain ⟨y, ey, hy⟩ := Of_big hbi.1 hbi.2
  obtain ⟨t, et, ht⟩ := Add_big hx hy (in64_small ha) (in64_small hbi)
  have hL := Later_at ha hs
  rw [← hby] at hL
  rw [clepsydralaw01_UsecClamp.j2, ex, bindS, ey, bindS, et, bindS, fits_at ht, bindS]
  by_cases hf : In64 (a + by')
  · rw [fit_in hf, if_pos rfl]
    dsimp only
    by_cases h1 : a = 9223372036854775807
    · rw [if_pos h1, clepsydralaw01_UsecClamp.j3, if_pos rfl, if_pos rfl, hL, bindS, if_pos (if_pos (.inl h1)), hw, bindS]
    · rw [if_neg h1]
      by_cases h2 : s = 9223372036854775807
      · rw [show (s == 9223372036854775807) = true by rw [beq_iff_eq]; exact h2, clepsydralaw01_UsecClamp.j3, if_pos rfl, if_pos rfl, hL, bindS, if_pos (if_pos (.inr (.inl h2))), hw, bindS]
      · rw [show (s == 9223372036854775807) = false by rw [beq_eq_false_iff_ne]; exact h2, clepsydralaw01_UsecClamp.j3, if_neg (by decide), if_pos rfl, hL, bindS, if_pos (if_neg (fun h => h.elim h1 (fun h => h.elim h2 (fun h => h hf)))), hw, bindS]
  · rw [fit_out hf, if_neg (by decide), clepsydralaw01_UsecClamp.j3, if_pos rfl, if_pos rfl, hL, bindS, if_pos (if_pos (.inr (.inr hf))), hw, bindS]
theorem clamp_law (k : Nat) (hk : 8 < k) {a low high s : Int} (ha : In64 a) (hs : In64 s) : clepsydralaw01_UsecClamp.f k a low high s = some true := by
  obtain ⟨k, rfl⟩ : ∃ m, k = m + 2 := ⟨k - 2, by omega⟩
  have hj1 : ∀ c, clepsydralaw01_UsecClamp.j1 (k + 1) a s c c = some true := fun c => by
    rw [clepsydralaw01_UsecClamp.j1]
    by_cases h : s < 0
    · rw [if_pos h, clamp_j2 k (by omega) ha hs (if_pos h).symm]
    · rw [if_neg h, clamp_j2 k (by omega) ha hs (if_neg h).symm]
  unfold clepsydralaw01_UsecClamp.f
  by_cases h1 : a < low
  · rw [clamp_lo h1, bindS]
    by_cases h2 : a > high
    · rw [if_pos h2, clepsydralaw01_UsecClamp.j0, if_pos h1, hj1]
    · rw [if_neg h2, clepsydralaw01_UsecClamp.j0, if_pos h1, hj1]
  · by_cases h2 : a > high
    · rw [clamp_hi h1 h2, bindS, if_pos h2, clepsydralaw01_UsecClamp.j0, if_neg h1, hj1]
    · rw [clamp_mid h1 h2, bindS, if_neg h2, clepsydralaw01_UsecClamp.j0, if_neg h1, hj1]
end Go.Proofs.Ytbegglmcbcepeaa.All
namespace Go.Proofs.Ytbegglmcbcepeaa.Pure
open Go.RowKit
theorem UsecOrder : All.clepsydralaw01_UsecOrder.Pure := fun _ _ _ ha hb hc => ⟨11, All.order_law 11 (by omega) (Go.bounds_i64 ha) (Go.bounds_i64 hb) (Go.bounds_i64 hc)⟩
theorem UsecRules : All.clepsydralaw01_UsecRules.Pure := fun _ _ _ ha hb hc => ⟨11, All.rules_law 11 (by omega) (Go.bounds_i64 ha) (Go.bounds_i64 hb) (Go.bounds_i64 hc)⟩
theorem UsecSums : All.clepsydralaw01_UsecSums.Pure := fun _ _ ha hb => ⟨11, All.sums_law 11 (by omega) (Go.bounds_i64 ha) (Go.bounds_i64 hb)⟩
theorem UsecDiv : All.clepsydralaw01_UsecDiv.Pure := fun _ _ ha hb => ⟨11, All.div_law 11 (by omega) (Go.bounds_i64 ha) (Go.bounds_i64 hb)⟩
theorem UsecClamp : All.clepsydralaw01_UsecClamp.Pure := fun _ _ _ _ ha _ _ hs => ⟨11, All.clamp_law 11 (by omega) (Go.bounds_i64 ha) (Go.bounds_i64 hs)⟩
end Go.Proofs.Ytbegglmcbcepeaa.Pure
