/- Plain arithmetic: the reference's product. -/
import Derived.Test.YtbegglmcbcepeaaPureB
namespace Go.Proofs.Ytbegglmcbcepeaa.All
open Go.RowKit Go.Proofs.YtbegglmcbcepeaaW.PrintWords Go.Proofs.YtbegglmcbcepeaaW.PrintLast Go.Proofs.YtbegglmcbcepeaaW.PrintMore
set_option linter.unusedVariables false
set_option linter.unusedSimpArgs false

theorem prod_le {a b : Int} (ha : Dg a) (hb : Dg b) : 0 ≤ a * b ∧ a * b ≤ 18446744065119617025 := by
  obtain ⟨a0, a1⟩ := ha
  obtain ⟨b0, b1⟩ := hb
  refine ⟨Int.mul_nonneg a0 b0, ?_⟩
  have h1 : a * b ≤ 4294967295 * b := Int.mul_le_mul_of_nonneg_right (by omega) b0
  omega
theorem mulS_eq {x a b c : Int} (hx : Dg x) (ha : Dg a) (hb : Dg b) (hc : Dg c) : mulS x a b c = x + a * b + c ∧ 0 ≤ x + a * b + c ∧ x + a * b + c < 18446744073709551616 := by
  obtain ⟨p0, p1⟩ := prod_le ha hb
  unfold mulS
  generalize a * b = P at *
  unfold Dg at hx hc
  rw [wu (x := P) (by omega), wu (x := x + P) (by omega), wu (by omega)]
  omega
theorem mulK_step {a b : Nat → Int} {i k : Nat} {o p : Nat → Int} {c : Int} (h : mulK a b i o k = (c, p)) (hc : Dg c) (hp : ∀ j, Dg (p j)) (ha : Dg (a i)) (hb : Dg (b k)) :
    ∃ q r, mulK a b i o (k + 1) = (q, upd p (i + k) r) ∧ Dg q ∧ Dg r ∧ p (i + k) + a i * b k + c = r + 4294967296 * q ∧ ∀ j, Dg (upd p (i + k) r j) := by
  obtain ⟨e, e0, e1⟩ := mulS_eq (hp (i + k)) ha hb hc
  refine ⟨_, _, mulK_succ _ _ _ _ _ _ _ h, ?_⟩
  rw [e, mask32 ⟨e0, e1⟩]
  generalize p (i + k) + a i * b k + c = s at *
  have hr : Dg (s % 4294967296) := by unfold Dg; omega
  refine ⟨by unfold Dg; omega, hr, by omega, fun j => ?_⟩
  unfold upd
  split
  · exact hr
  · exact hp j
theorem mul_digits (a0 a1 b0 b1 : Int) (ha0 : Dg a0) (ha1 : Dg a1) (hb0 : Dg b0) (hb1 : Dg b1) :
    (∀ k, Dg (mulI (dig a0 a1 0 0 0) (dig b0 b1 0 0 0) 2 k)) ∧ mag (mulI (dig a0 a1 0 0 0) (dig b0 b1 0 0 0) 2) = a0 * b0 + (a0 * b1 + a1 * b0) * 4294967296 + a1 * b1 * 18446744073709551616 := by
  have hA : ∀ k, Dg (dig a0 a1 0 0 0 k) := dig_Dg ha0 ha1 zero_Dg zero_Dg zero_Dg
  have hB : ∀ k, Dg (dig b0 b1 0 0 0 k) := dig_Dg hb0 hb1 zero_Dg zero_Dg zero_Dg
  have hZ : ∀ k : Nat, Dg ((fun _ => 0 : Nat → Int) k) := fun _ => zero_Dg
  obtain ⟨q1, r1, e1, g1, h1, s1, u1⟩ := mulK_step (a := dig a0 a1 0 0 0) (b := dig b0 b1 0 0 0) (i := 0) (k := 0) (o := fun _ => 0) rfl zero_Dg hZ (hA 0) (hB 0)
  obtain ⟨q2, r2, e2, g2, h2, s2, u2⟩ := mulK_step e1 g1 u1 (hA 0) (hB 1)
  obtain ⟨q3, r3, e3, g3, h3, s3, u3⟩ := mulK_step e2 g2 u2 (hA 0) (hB 2)
  have eI : mulI (dig a0 a1 0 0 0) (dig b0 b1 0 0 0) 1 = upd (upd (upd (fun _ => 0) 0 r1) 1 r2) 2 r3 := by
    show (mulK (dig a0 a1 0 0 0) (dig b0 b1 0 0 0) 0 (fun _ => 0) 3).2 = _
    rw [e3]
  obtain ⟨q4, r4, e4, g4, h4, s4, u4⟩ := mulK_step (a := dig a0 a1 0 0 0) (b := dig b0 b1 0 0 0) (i := 1) (k := 0) (o := upd (upd (upd (fun _ => 0) 0 r1) 1 r2) 2 r3) rfl zero_Dg u3 (hA 1) (hB 0)
  obtain ⟨q5, r5, e5, g5, h5, s5, u5⟩ := mulK_step e4 g4 u4 (hA 1) (hB 1)
  obtain ⟨q6, r6, e6, g6, h6, s6, u6⟩ := mulK_step e5 g5 u5 (hA 1) (hB 2)
  have eJ : mulI (dig a0 a1 0 0 0) (dig b0 b1 0 0 0) 2 = upd (upd (upd (upd (upd (upd (fun _ => 0) 0 r1) 1 r2) 2 r3) 1 r4) 2 r5) 3 r6 := by
    show (mulK (dig a0 a1 0 0 0) (dig b0 b1 0 0 0) 1 (mulI (dig a0 a1 0 0 0) (dig b0 b1 0 0 0) 1) 3).2 = _
    rw [eI, e6]
  rw [eJ]
  refine ⟨u6, ?_⟩
  have m : mag (upd (upd (upd (upd (upd (upd (fun _ => 0) 0 r1) 1 r2) 2 r3) 1 r4) 2 r5) 3 r6) = r1 + r4 * 4294967296 + r5 * 18446744073709551616 + r6 * 79228162514264337593543950336 + 0 * 340282366920938463463374607431768211456 := rfl
  have t1 : 0 + a0 * b0 + 0 = r1 + 4294967296 * q1 := s1
  have t2 : 0 + a0 * b1 + q1 = r2 + 4294967296 * q2 := s2
  have t3 : 0 + a0 * 0 + q2 = r3 + 4294967296 * q3 := s3
  have t4 : r2 + a1 * b0 + 0 = r4 + 4294967296 * q4 := s4
  have t5 : r3 + a1 * b1 + q4 = r5 + 4294967296 * q5 := s5
  have t6 : 0 + a1 * 0 + q5 = r6 + 4294967296 * q6 := s6
  rw [m]
  clear m eJ eI e1 e2 e3 e4 e5 e6 s1 s2 s3 s4 s5 s6 u1 u2 u3 u4 u5 u6 hA hB hZ
  unfold Dg at *
  generalize a0 * b0 = P at *
  generalize a0 * b1 = Q at *
  generalize a1 * b0 = R at *
  generalize a1 * b1 = S at *
  omega
theorem mul_expand (a0 a1 b0 b1 : Int) : (a0 + a1 * 4294967296) * (b0 + b1 * 4294967296) = a0 * b0 + (a0 * b1 + a1 * b0) * 4294967296 + a1 * b1 * 18446744073709551616 := by
  have e1 : a0 * (b1 * 4294967296) = a0 * b1 * 4294967296 := (Int.mul_assoc _ _ _).symm
  have e2 : a1 * 4294967296 * b0 = a1 * b0 * 4294967296 := Int.mul_right_comm _ _ _
  have e3 : a1 * 4294967296 * (b1 * 4294967296) = a1 * b1 * 18446744073709551616 := by
    rw [← Int.mul_assoc, Int.mul_right_comm a1 4294967296 b1, Int.mul_assoc]; rfl
  rw [Int.add_mul, Int.mul_add, Int.mul_add, e1, e2, e3]
  omega
/-- The product of two numbers that fit. -/
theorem Mul_big {a b : Int} (ha0 : -9223372036854775808 ≤ a) (ha1 : a ≤ 9223372036854775807) (hb0 : -9223372036854775808 ≤ b) (hb1 : b ≤ 9223372036854775807) {x y : BigT}
    (hx : clepsydraref01_Of.f a = some x) (hy : clepsydraref01_Of.f b = some y) :
    ∃ t, clepsydraref01_Mul.f x.1 x.2.1 x.2.2.1 x.2.2.2.1 x.2.2.2.2.1 x.2.2.2.2.2 y.1 y.2.1 y.2.2.1 y.2.2.2.1 y.2.2.2.2.1 y.2.2.2.2.2 = some t ∧ IsBig t (a * b) := by
  obtain ⟨l1, h1, e1, d1, d2, s1⟩ := Of_is ha0 ha1
  obtain ⟨l2, h2, e2, d3, d4, s2⟩ := Of_is hb0 hb1
  obtain rfl := Option.some.inj (hx.symm.trans e1)
  obtain rfl := Option.some.inj (hy.symm.trans e2)
  obtain ⟨hd, hm⟩ := mul_digits l1 h1 l2 h2 d1 d2 d3 d4
  refine ⟨(!(decide (a < 0) == decide (b < 0)), mulI (dig l1 h1 0 0 0) (dig l2 h2 0 0 0) 2 0, mulI (dig l1 h1 0 0 0) (dig l2 h2 0 0 0) 2 1, mulI (dig l1 h1 0 0 0) (dig l2 h2 0 0 0) 2 2, mulI (dig l1 h1 0 0 0) (dig l2 h2 0 0 0) 2 3, mulI (dig l1 h1 0 0 0) (dig l2 h2 0 0 0) 2 4), rfl, isBig_of hd ?_⟩
  rw [hm, ← mul_expand, s1, s2]
  by_cases c1 : a < 0
  · by_cases c2 : b < 0
    · rw [if_pos c1, if_pos c2, decide_eq_true c1, decide_eq_true c2, if_neg (by decide), Int.neg_mul_neg]
    · rw [if_pos c1, if_neg c2, decide_eq_true c1, decide_eq_false c2, if_pos (by decide), Int.neg_mul, Int.neg_neg]
  · by_cases c2 : b < 0
    · rw [if_neg c1, if_pos c2, decide_eq_false c1, decide_eq_true c2, if_pos (by decide), Int.mul_neg, Int.neg_neg]
    · rw [if_neg c1, if_neg c2, decide_eq_false c1, decide_eq_false c2, if_neg (by decide)]
end Go.Proofs.Ytbegglmcbcepeaa.All
