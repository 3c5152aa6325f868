/- What the numbers that fit compute. -/
import Derived.Test.YtbegglmcbcepeaaPureC
namespace Go.Proofs.Ytbegglmcbcepeaa.All
open Go.RowKit Go.Proofs.YtbegglmcbcepeaaW.PrintWords Go.Proofs.YtbegglmcbcepeaaW.PrintLast Go.Proofs.YtbegglmcbcepeaaW.PrintMore
set_option linter.unusedVariables false
set_option linter.unusedSimpArgs false

def In64 (x : Int) : Prop := -9223372036854775808 ≤ x ∧ x ≤ 9223372036854775807
instance (x : Int) : Decidable (In64 x) := by unfold In64; infer_instance
def fit (v : Int) : Int × Bool := if In64 v then (v, true) else (0, false)
theorem fit_in {v : Int} (h : In64 v) : fit v = (v, true) := if_pos h
theorem fit_out {v : Int} (h : ¬ In64 v) : fit v = (0, false) := if_neg h
theorem wr {x : Int} (h : In64 x) : wrap64 x = x := by unfold In64 at h; unfold wrap64; omega
theorem fit_in64 (v : Int) : In64 (fit v).1 := by
  by_cases h : In64 v
  · rw [fit_in h]; exact h
  · rw [fit_out h]; unfold In64; decide
theorem minus_at {a : Int} (h : In64 a) : usec_minus.f a = some (if a < 0 then 1 else 0) := by
  unfold In64 at h
  unfold usec_minus.f
  rw [IntKind.wrap_u64]
  congr 1
  split <;> omega
theorem wrap_in (x : Int) : In64 (wrap64 x) := by unfold In64 wrap64; omega
theorem told_yes (a : Int) {b : Bool} (h : b = true) : usec_told.f a b = some (a, true) := by rw [h]; rfl
theorem told_no (a : Int) {b : Bool} (h : b = false) : usec_told.f a b = some (0, false) := by rw [h]; rfl
theorem sgn_eq {a b : Int} : ((if a < 0 then (1 : Int) else 0) = if b < 0 then 1 else 0) ↔ (a < 0 ↔ b < 0) := by
  by_cases h1 : a < 0 <;> by_cases h2 : b < 0 <;> simp [h1, h2]
theorem sgn_beq {a b : Int} : ((if a < 0 then (1 : Int) else 0) == if b < 0 then 1 else 0) = decide (a < 0 ↔ b < 0) := by
  by_cases h1 : a < 0 <;> by_cases h2 : b < 0 <;> simp [h1, h2]
theorem Add_at {a b : Int} (ha : In64 a) (hb : In64 b) : usec_Add.f a b = some (fit (a + b)) := by
  unfold usec_Add.f
  rw [minus_at ha, bindS, minus_at hb, bindS]
  have hw := wrap_in (a + b)
  by_cases hs : (a < 0 ↔ b < 0)
  · rw [if_pos (sgn_eq.2 hs), minus_at hw, bindS, bindS, sgn_beq]
    by_cases hf : In64 (a + b)
    · have e := wr hf
      rw [told_yes _ (by rw [e]; unfold In64 at *; apply decide_eq_true; omega), bindS, fit_in hf, e]
    · have e : (wrap64 (a + b) < 0 ↔ ¬ a < 0) := by unfold In64 at *; unfold wrap64; omega
      rw [told_no _ (by apply decide_eq_false; rw [e]; omega), bindS, fit_out hf]
  · rw [if_neg (fun h => hs (sgn_eq.1 h))]
    have hf : In64 (a + b) := by unfold In64 at *; omega
    rw [told_yes _ rfl, bindS, fit_in hf, wr hf]
theorem Sub_at {a b : Int} (ha : In64 a) (hb : In64 b) : usec_Sub.f a b = some (fit (a - b)) := by
  unfold usec_Sub.f
  rw [minus_at ha, bindS, minus_at hb, bindS]
  have hw := wrap_in (a - b)
  by_cases hs : (a < 0 ↔ b < 0)
  · rw [if_pos (sgn_eq.2 hs)]
    have hf : In64 (a - b) := by unfold In64 at *; omega
    rw [told_yes _ rfl, bindS, fit_in hf, wr hf]
  · rw [if_neg (fun h => hs (sgn_eq.1 h)), minus_at hw, bindS, bindS, sgn_beq]
    by_cases hf : In64 (a - b)
    · have e := wr hf
      rw [told_yes _ (by rw [e]; unfold In64 at *; apply decide_eq_true; omega), bindS, fit_in hf, e]
    · have e : (wrap64 (a - b) < 0 ↔ ¬ a < 0) := by unfold In64 at *; unfold wrap64; omega
      rw [told_no _ (by apply decide_eq_false; rw [e]; omega), bindS, fit_out hf]
theorem mul64 (u v : Int) (hu : 0 ≤ u ∧ u ≤ 9223372036854775808) (hv : 0 ≤ v ∧ v ≤ 9223372036854775808) : bits_Mul64.f u v = some (u * v / 18446744073709551616, u * v % 18446744073709551616) := by
  unfold bits_Mul64.f
  rw [mask32 (x := u) (by omega), mask32 (x := v) (by omega), IntKind.wrap_u64 (u * v)]
  have ex : (u / 4294967296 * 4294967296 + u % 4294967296) = u := by omega
  have ey : (v / 4294967296 * 4294967296 + v % 4294967296) = v := by omega
  have hx1 : Dg (u / 4294967296) := by unfold Dg; omega
  have hx0 : Dg (u % 4294967296) := by unfold Dg; omega
  have hy1 : Dg (v / 4294967296) := by unfold Dg; omega
  have hy0 : Dg (v % 4294967296) := by unfold Dg; omega
  have hexp := mul_expand (u % 4294967296) (u / 4294967296) (v % 4294967296) (v / 4294967296)
  rw [show u % 4294967296 + u / 4294967296 * 4294967296 = u by omega, show v % 4294967296 + v / 4294967296 * 4294967296 = v by omega] at hexp
  obtain ⟨p0, p1⟩ := prod_le hx0 hy0
  obtain ⟨p2, p3⟩ := prod_le hx0 hy1
  obtain ⟨p4, p5⟩ := prod_le hx1 hy0
  have h6 : 0 ≤ u / 4294967296 * (v / 4294967296) ∧ u / 4294967296 * (v / 4294967296) ≤ 4611686018427387904 := by
    refine ⟨Int.mul_nonneg hx1.1 hy1.1, ?_⟩
    have h1 : u / 4294967296 * (v / 4294967296) ≤ 2147483648 * (v / 4294967296) := Int.mul_le_mul_of_nonneg_right (by omega) hy1.1
    omega
  clear ex ey hx1 hx0 hy1 hy0 hu hv
  generalize u % 4294967296 * (v % 4294967296) = A at *
  generalize u % 4294967296 * (v / 4294967296) = C at *
  generalize u / 4294967296 * (v % 4294967296) = D at *
  generalize u / 4294967296 * (v / 4294967296) = F at *
  generalize u * v = P at *
  rw [wu (x := A) (by omega), wu (x := D) (by omega), wu (x := D + A / 4294967296) (by omega)]
  rw [mask32 (x := D + A / 4294967296) (by omega), wu (x := F) (by omega), wu (x := C) (by omega)]
  rw [wu (x := (D + A / 4294967296) % 4294967296 + C) (by omega), wu (x := F + (D + A / 4294967296) / 4294967296) (by omega)]
  rw [wu (by omega)]
  congr 2
  omega
theorem size_at {a : Int} (ha : In64 a) : usec_size.f a = some (if a < 0 then -a else a) := by
  unfold In64 at ha
  unfold usec_size.f
  split
  · congr 1; rw [IntKind.wrap_u64, IntKind.wrap_u64]; omega
  · congr 1; rw [IntKind.wrap_u64]; omega
theorem Mul_at {a b : Int} (ha : In64 a) (hb : In64 b) : usec_Mul.f a b = some (fit (a * b)) := by
  unfold usec_Mul.f
  rw [size_at ha, bindS, size_at hb, bindS]
  have hu : 0 ≤ (if a < 0 then -a else a) ∧ (if a < 0 then -a else a) ≤ 9223372036854775808 := by unfold In64 at ha; split <;> omega
  have hv : 0 ≤ (if b < 0 then -b else b) ∧ (if b < 0 then -b else b) ≤ 9223372036854775808 := by unfold In64 at hb; split <;> omega
  have hp : 0 ≤ (if a < 0 then -a else a) * (if b < 0 then -b else b) := Int.mul_nonneg hu.1 hv.1
  have hs : a * b = if (a < 0 ↔ b < 0) then (if a < 0 then -a else a) * (if b < 0 then -b else b) else -((if a < 0 then -a else a) * (if b < 0 then -b else b)) := by
    by_cases c1 : a < 0 <;> by_cases c2 : b < 0 <;> simp [c1, c2, Int.neg_mul, Int.mul_neg]
  rw [mul64 _ _ hu hv, bindS, minus_at ha, bindS, minus_at hb, bindS, hs]
  dsimp only
  generalize (if a < 0 then -a else a) * (if b < 0 then -b else b) = P at *
  clear hs hu hv
  by_cases hq : P / 18446744073709551616 = 0
  · rw [if_pos hq]
    have e : P % 18446744073709551616 = P := by omega
    rw [e]
    by_cases hc : (a < 0 ↔ b < 0)
    · rw [if_pos (sgn_eq.2 hc), if_pos hc]
      by_cases hl : P < 9223372036854775808
      · have hi : In64 P := by unfold In64; omega
        rw [told_yes _ (decide_eq_true hl), bindS, fit_in hi, wr hi]
      · rw [told_no _ (decide_eq_false hl), bindS, fit_out (by unfold In64; omega)]
    · rw [if_neg (fun h => hc (sgn_eq.1 h)), if_neg hc]
      by_cases hl : P ≤ 9223372036854775808
      · have hi : In64 (-P) := by unfold In64; omega
        have e : wrap64 (IntKind.u64.wrap (-P)) = -P := by rw [IntKind.wrap_u64]; unfold wrap64; omega
        rw [told_yes _ (decide_eq_true hl), bindS, fit_in hi, e]
      · rw [told_no _ (decide_eq_false hl), bindS, fit_out (by unfold In64; omega)]
  · rw [if_neg hq]
    congr 1
    symm
    apply fit_out
    unfold In64
    split <;> omega
theorem td {a b : Int} (h : 0 ≤ a) : Int.tdiv a b = a / b := Int.tdiv_eq_ediv_of_nonneg h
theorem tm {a b : Int} (h : 0 ≤ a) : Int.tmod a b = a % b := Int.tmod_eq_emod_of_nonneg h
theorem Later_at {t s : Int} (ht : In64 t) (hs : In64 s) : usec_Later.f t s = some (if t = 9223372036854775807 ∨ s = 9223372036854775807 ∨ ¬ In64 (t + if s < 0 then 0 else s) then 9223372036854775807 else t + if s < 0 then 0 else s) := by
  unfold usec_Later.f
  have e : mx 0 s = if s < 0 then 0 else s := by unfold mx; split <;> split <;> omega
  have hi : In64 (if s < 0 then 0 else s) := by unfold In64 at *; split <;> omega
  rw [e, Add_at ht hi, bindS]
  clear e
  generalize (if s < 0 then 0 else s) = y at *
  by_cases hf : In64 (t + y)
  · rw [fit_in hf, if_pos rfl]
    by_cases h1 : t = 9223372036854775807
    · rw [if_pos h1, if_pos (.inl h1)]
    · rw [if_neg h1]
      by_cases h2 : s = 9223372036854775807
      · rw [if_pos h2, if_pos (.inr (.inl h2))]
      · rw [if_neg h2, if_neg]
        intro h; rcases h with h | h | h
        · exact h1 h
        · exact h2 h
        · exact h hf
  · rw [fit_out hf, if_neg (by decide), if_pos (.inr (.inr hf))]
end Go.Proofs.Ytbegglmcbcepeaa.All
