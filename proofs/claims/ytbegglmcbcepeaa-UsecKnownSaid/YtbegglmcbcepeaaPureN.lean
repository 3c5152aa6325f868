/- The laws of the numbers that fit. -/
import Derived.Test.YtbegglmcbcepeaaPureM
import Derived.Test.YtbegglmcbcepeaaB5
namespace Go.Proofs.Ytbegglmcbcepeaa.All
open Go.RowKit Go.Proofs.YtbegglmcbcepeaaW.PrintWords Go.Proofs.YtbegglmcbcepeaaW.PrintLast Go.Proofs.YtbegglmcbcepeaaW.PrintMore
set_option linter.unusedVariables false
set_option linter.unusedSimpArgs false

/-- What a quotient is. -/
structure DivS (a b q r : Int) : Prop where
  sum : q * b + r = a
  up : 0 < b → 0 ≤ r ∧ r < b
  dn : b < 0 → b < r ∧ r ≤ 0
  fq : In64 q
theorem quo (n d : Int) (hn : 0 ≤ n) (hd : 0 < d) : d * (n / d) + n % d = n ∧ 0 ≤ n / d ∧ n / d ≤ n ∧ 0 ≤ n % d ∧ n % d < d ∧ (2 ≤ d → 2 * (n / d) ≤ n) := by
  have e := Int.mul_ediv_add_emod n d
  have q0 := Int.ediv_nonneg hn (Int.le_of_lt hd)
  have q1 : n / d ≤ n := Int.ediv_le_self d hn
  have r0 := Int.emod_nonneg n (show d ≠ 0 by omega)
  have r1 := Int.emod_lt_of_pos n hd
  refine ⟨e, q0, q1, r0, r1, fun h => ?_⟩
  have := Int.mul_le_mul_of_nonneg_right h q0
  omega
theorem Div_sgn (k : Nat) {a b t m : Int} (_ha : In64 a) (_hb : In64 b) (hb0 : b ≠ 0) (hx : ¬ (b = -1 ∧ a = -9223372036854775808)) (ht : Int.tdiv a b = t) (hm : Int.tmod a b = m) :
    usec_Div.f (k + 1) a b = if m = 0 then some (wrap64 t, m, true) else (usec_minus.f m).bind fun x => (usec_minus.f b).bind fun y => if x = y then some (wrap64 t, m, true) else some (wrap64 (wrap64 t - 1), wrap64 (m + b), true) := by
  have hj : usec_Div.f (k + 1) a b = usec_Div.j0 (k + 1) a b false := by
    unfold usec_Div.f
    rw [if_neg hb0]
    by_cases h1 : b = -1
    · rw [if_pos h1, show (a == -9223372036854775808) = false by rw [beq_eq_false_iff_ne]; exact fun h => hx ⟨h1, h⟩]
    · rw [if_neg h1]
  rw [hj, usec_Div.j0, if_neg (by decide), if_neg hb0, ht, hm]
theorem Div_yes (k : Nat) {a b : Int} (ha : In64 a) (hb : In64 b) (hb0 : b ≠ 0) (hx : ¬ (b = -1 ∧ a = -9223372036854775808)) :
    ∃ q r, usec_Div.f (k + 1) a b = some (q, r, true) ∧ DivS a b q r := by
  by_cases h1 : a < 0 <;> by_cases h2 : b < 0
  · obtain ⟨e, q0, q1, r0, r1, q2⟩ := quo (-a) (-b) (by omega) (by omega)
    have hb1 : b = -1 ∨ 2 ≤ -b := by omega
    have et : Int.tdiv a b = (-a) / (-b) := by
      rw [show a = -(-a) by omega, show b = -(-b) by omega, Int.neg_tdiv, Int.tdiv_neg, td (by omega)]; simp
    have em : Int.tmod a b = -((-a) % (-b)) := by
      rw [show a = -(-a) by omega, show b = -(-b) by omega, Int.neg_tmod, Int.tmod_neg, tm (by omega)]; simp
    have eb : ∀ x : Int, -b * x = -(x * b) := fun x => by rw [Int.neg_mul, Int.mul_comm]
    rw [eb] at e
    rw [Div_sgn k ha hb hb0 hx et em]
    have hq : In64 ((-a) / (-b)) := by
      unfold In64 at *
      rcases hb1 with h | h
      · have : a ≠ -9223372036854775808 := fun h3 => hx ⟨h, h3⟩
        omega
      · have := q2 h; omega
    have hr : In64 (-((-a) % (-b))) := by unfold In64 at *; omega
    generalize (-a) / (-b) = q at *
    generalize (-a) % (-b) = r at *
    rw [wr hq]
    refine ⟨q, -r, ?_, ⟨by omega, fun h => by omega, fun _ => by omega, hq⟩⟩
    by_cases hz : -r = 0
    · rw [if_pos hz]
    · rw [if_neg hz, minus_at hr, bindS, minus_at hb, bindS, if_pos (sgn_eq.2 (by omega))]
  · obtain ⟨e, q0, q1, r0, r1, q2⟩ := quo (-a) b (by omega) (by omega)
    have hb1 : b = 1 ∨ 2 ≤ b := by omega
    have et : Int.tdiv a b = -((-a) / b) := by rw [show a = -(-a) by omega, Int.neg_tdiv, td (by omega)]; simp
    have em : Int.tmod a b = -((-a) % b) := by rw [show a = -(-a) by omega, Int.neg_tmod, tm (by omega)]; simp
    rw [Int.mul_comm] at e
    rw [Div_sgn k ha hb hb0 hx et em]
    have hq : In64 (-((-a) / b)) := by unfold In64 at *; omega
    have hr : In64 (-((-a) % b)) := by unfold In64 at *; omega
    have hz1 : b = 1 → (-a) % b = 0 := fun h => by rw [h]; omega
    have hq2 : 2 ≤ b → In64 (-((-a) / b) - 1) := fun h => by have := q2 h; unfold In64 at *; omega
    have hr2 : In64 (-((-a) % b) + b) := by unfold In64 at *; omega
    generalize (-a) / b = q at *
    generalize (-a) % b = r at *
    rw [wr hq]
    by_cases hz : -r = 0
    · have em : -q * b = -(q * b) := Int.neg_mul _ _
      refine ⟨-q, -r, ?_, ⟨by omega, fun _ => by omega, fun h => by omega, hq⟩⟩
      rw [if_pos hz]
    · have hq3 := hq2 (by omega)
      have em : (-q - 1) * b = -(q * b) - b := by rw [Int.sub_mul, Int.neg_mul, Int.one_mul]
      refine ⟨-q - 1, -r + b, ?_, ⟨by omega, fun _ => by omega, fun h => by omega, hq3⟩⟩
      rw [if_neg hz, minus_at hr, bindS, minus_at hb, bindS, if_neg (fun h => by have := sgn_eq.1 h; omega), wr hq3, wr hr2]
  · obtain ⟨e, q0, q1, r0, r1, q2⟩ := quo a (-b) (by omega) (by omega)
    have hb1 : b = -1 ∨ 2 ≤ -b := by omega
    have et : Int.tdiv a b = -(a / (-b)) := by rw [show b = -(-b) by omega, Int.tdiv_neg, td (by omega)]; simp
    have em : Int.tmod a b = a % (-b) := by rw [show b = -(-b) by omega, Int.tmod_neg, tm (by omega)]; simp
    have eb : ∀ x : Int, -b * x = -(x * b) := fun x => by rw [Int.neg_mul, Int.mul_comm]
    rw [eb] at e
    rw [Div_sgn k ha hb hb0 hx et em]
    have hq : In64 (-(a / (-b))) := by unfold In64 at *; omega
    have hr : In64 (a % (-b)) := by unfold In64 at *; omega
    have hz1 : b = -1 → a % (-b) = 0 := fun h => by rw [h]; show a % 1 = 0; omega
    have hq2 : 2 ≤ -b → In64 (-(a / (-b)) - 1) := fun h => by have := q2 h; unfold In64 at *; omega
    have hr2 : In64 (a % (-b) + b) := by unfold In64 at *; omega
    generalize a / (-b) = q at *
    generalize a % (-b) = r at *
    rw [wr hq]
    by_cases hz : r = 0
    · have em : -q * b = -(q * b) := Int.neg_mul _ _
      refine ⟨-q, r, ?_, ⟨by omega, fun _ => by omega, fun h => by omega, hq⟩⟩
      rw [if_pos hz]
    · have hq3 := hq2 (by omega)
      have em : (-q - 1) * b = -(q * b) - b := by rw [Int.sub_mul, Int.neg_mul, Int.one_mul]
      refine ⟨-q - 1, r + b, ?_, ⟨by omega, fun _ => by omega, fun h => by omega, hq3⟩⟩
      rw [if_neg hz, minus_at hr, bindS, minus_at hb, bindS, if_neg (fun h => by have := sgn_eq.1 h; omega), wr hq3, wr hr2]
  · obtain ⟨e, q0, q1, r0, r1, q2⟩ := quo a b (by omega) (by omega)
    rw [Int.mul_comm] at e
    rw [Div_sgn k ha hb hb0 hx (td (by omega)) (tm (by omega))]
    have hq : In64 (a / b) := by unfold In64 at *; omega
    have hr : In64 (a % b) := by unfold In64 at *; omega
    generalize a / b = q at *
    generalize a % b = r at *
    rw [wr hq]
    refine ⟨q, r, ?_, ⟨by omega, fun _ => by omega, fun h => by omega, hq⟩⟩
    by_cases hz : r = 0
    · rw [if_pos hz]
    · rw [if_neg hz, minus_at hr, bindS, minus_at hb, bindS, if_pos (sgn_eq.2 (by omega))]
theorem Div_no (k : Nat) {a b : Int} (h : b = 0 ∨ (b = -1 ∧ a = -9223372036854775808)) : usec_Div.f (k + 1) a b = some (0, 0, false) := by
  unfold usec_Div.f
  by_cases h0 : b = 0
  · rw [if_pos h0, usec_Div.j0, if_pos rfl]
  · obtain ⟨h1, h2⟩ := h.resolve_left h0
    rw [if_neg h0, if_pos h1, h2, usec_Div.j0, if_pos (by decide)]
theorem works_at (k : Nat) (hk : 0 < k) : clepsydralaw01_works.f k = some true := by
  obtain ⟨k, rfl⟩ : ∃ m, k = m + 1 := ⟨k - 1, by omega⟩
  have h1 : usec_Div.f (k + 1) (-7) 2 = some (-4, 1, true) := by
    rw [Div_sgn k (t := -3) (m := -1) (by unfold In64; decide) (by unfold In64; decide) (by decide) (by decide) (by decide) (by decide)]
    decide +kernel
  have h2 : usec_Div.f (k + 1) (-9223372036854775808) (-1) = some (0, 0, false) := Div_no k (.inr ⟨rfl, rfl⟩)
  have h3 : usec_Later.f 5 9223372036854775807 = some 9223372036854775807 := by decide +kernel
  have h4 : usec_Later.f 5 6 = some 11 := by decide +kernel
  unfold clepsydralaw01_works.f
  rw [h1, bindS, h2, bindS, if_pos rfl, if_pos rfl, if_pos rfl, if_neg (by decide), h3, bindS, if_pos rfl, h4, bindS]
  decide
end Go.Proofs.Ytbegglmcbcepeaa.All
