/- Plain arithmetic: what the great numbers of the reference tell. -/
import Derived.Test.YtbegglmcbcepeaaB2
import Derived.Test.YtbegglmcbcepeaaXMul
namespace Go.Proofs.Ytbegglmcbcepeaa.All
open Go.RowKit Go.Proofs.YtbegglmcbcepeaaW.PrintWords Go.Proofs.YtbegglmcbcepeaaW.PrintLast Go.Proofs.YtbegglmcbcepeaaW.PrintMore
set_option linter.unusedVariables false
set_option linter.unusedSimpArgs false

theorem bindS {α β : Type} (a : α) (f : α → Option β) : (some a).bind f = f a := Eq.trans (Option.bind_some _ _) rfl
theorem wu {x : Int} (h : 0 ≤ x ∧ x < 18446744073709551616) : IntKind.u64.wrap x = x := by rw [IntKind.wrap_u64]; omega
theorem wraps_u64 (n : Int) (h₀ : 0 ≤ n) (h₁ : n < 2 ^ 64) : IntKind.u64.wrap n = n := by rw [IntKind.wrap_u64]; omega
theorem mask32 {x : Int} (h : 0 ≤ x ∧ x < 18446744073709551616) : Go.bits .and .u64 x 4294967295 = x % 4294967296 := by
  have := bits_mask .u64 64 (by decide) wraps_u64 32 (by decide) x h.1 (by omega)
  simpa using this
def Dg (x : Int) : Prop := 0 ≤ x ∧ x < 4294967296
def mag (d : Nat → Int) : Int := d 0 + d 1 * 4294967296 + d 2 * 18446744073709551616 + d 3 * 79228162514264337593543950336 + d 4 * 340282366920938463463374607431768211456
theorem plusS_eq {a b c : Int} (ha : Dg a) (hb : Dg b) (hc : 0 ≤ c ∧ c ≤ 1) : plusS a b c = a + b + c := by
  unfold Dg at *
  unfold plusS
  rw [wu (x := a + b) (by omega), wu (by omega)]
theorem cP_le {a b : Nat → Int} (ha : ∀ k, Dg (a k)) (hb : ∀ k, Dg (b k)) : ∀ k, 0 ≤ cP a b k ∧ cP a b k ≤ 1
  | 0 => ⟨Int.le_refl _, by show (0 : Int) ≤ 1; decide⟩
  | k + 1 => by
    have h := cP_le ha hb k
    have h1 := ha k
    have h2 := hb k
    rw [cP, plusS_eq h1 h2 h]
    unfold Dg at *
    omega
theorem oP_eq {a b : Nat → Int} (ha : ∀ k, Dg (a k)) (hb : ∀ k, Dg (b k)) (k : Nat) : oP a b k + 4294967296 * cP a b (k + 1) = a k + b k + cP a b k ∧ Dg (oP a b k) := by
  have h := cP_le ha hb k
  have h1 := ha k
  have h2 := hb k
  rw [cP, oP, plusS_eq h1 h2 h, mask32 (by unfold Dg at *; omega)]
  unfold Dg at *
  omega
theorem plus_mag {a b : Nat → Int} (ha : ∀ k, Dg (a k)) (hb : ∀ k, Dg (b k)) : mag (oP a b) + 1461501637330902918203684832716283019655932542976 * cP a b 5 = mag a + mag b := by
  have e0 : oP a b 0 + 4294967296 * cP a b 1 = a 0 + b 0 + cP a b 0 := (oP_eq ha hb 0).1
  have e1 : oP a b 1 + 4294967296 * cP a b 2 = a 1 + b 1 + cP a b 1 := (oP_eq ha hb 1).1
  have e2 : oP a b 2 + 4294967296 * cP a b 3 = a 2 + b 2 + cP a b 2 := (oP_eq ha hb 2).1
  have e3 : oP a b 3 + 4294967296 * cP a b 4 = a 3 + b 3 + cP a b 3 := (oP_eq ha hb 3).1
  have e4 : oP a b 4 + 4294967296 * cP a b 5 = a 4 + b 4 + cP a b 4 := (oP_eq ha hb 4).1
  have e5 : cP a b 0 = 0 := rfl
  unfold mag
  omega
theorem lessS_eq {a b c : Int} (ha : Dg a) (hb : Dg b) (hc : 0 ≤ c ∧ c ≤ 1) : lessS a b c = a + 4294967296 - b - c := by
  unfold Dg at *
  unfold lessS
  rw [wu (x := a + 4294967296) (by omega), wu (x := a + 4294967296 - b) (by omega), wu (by omega)]
theorem cL_le {a b : Nat → Int} (ha : ∀ k, Dg (a k)) (hb : ∀ k, Dg (b k)) : ∀ k, 0 ≤ cL a b k ∧ cL a b k ≤ 1
  | 0 => ⟨Int.le_refl _, by show (0 : Int) ≤ 1; decide⟩
  | k + 1 => by
    have h := cL_le ha hb k
    have h1 := ha k
    have h2 := hb k
    rw [cL, lessS_eq h1 h2 h]
    unfold Dg at *
    rw [wu (by omega)]
    omega
theorem oL_eq {a b : Nat → Int} (ha : ∀ k, Dg (a k)) (hb : ∀ k, Dg (b k)) (k : Nat) : oL a b k - 4294967296 * cL a b (k + 1) = a k - b k - cL a b k ∧ Dg (oL a b k) := by
  have h := cL_le ha hb k
  have h1 := ha k
  have h2 := hb k
  rw [cL, oL, lessS_eq h1 h2 h, mask32 (by unfold Dg at *; omega)]
  unfold Dg at *
  rw [wu (by omega)]
  omega
theorem less_mag {a b : Nat → Int} (ha : ∀ k, Dg (a k)) (hb : ∀ k, Dg (b k)) : mag (oL a b) - 1461501637330902918203684832716283019655932542976 * cL a b 5 = mag a - mag b := by
  have e0 : oL a b 0 - 4294967296 * cL a b 1 = a 0 - b 0 - cL a b 0 := (oL_eq ha hb 0).1
  have e1 : oL a b 1 - 4294967296 * cL a b 2 = a 1 - b 1 - cL a b 1 := (oL_eq ha hb 1).1
  have e2 : oL a b 2 - 4294967296 * cL a b 3 = a 2 - b 2 - cL a b 2 := (oL_eq ha hb 2).1
  have e3 : oL a b 3 - 4294967296 * cL a b 4 = a 3 - b 3 - cL a b 3 := (oL_eq ha hb 3).1
  have e4 : oL a b 4 - 4294967296 * cL a b 5 = a 4 - b 4 - cL a b 4 := (oL_eq ha hb 4).1
  have e5 : cL a b 0 = 0 := rfl
  unfold mag
  omega
theorem mag_range {a : Nat → Int} (ha : ∀ k, Dg (a k)) : 0 ≤ mag a ∧ mag a < 1461501637330902918203684832716283019655932542976 := by
  have h0 := ha 0
  have h1 := ha 1
  have h2 := ha 2
  have h3 := ha 3
  have h4 := ha 4
  unfold Dg at *
  unfold mag
  omega
theorem size_mag {a b : Nat → Int} (ha : ∀ k, Dg (a k)) (hb : ∀ k, Dg (b k)) : sizeF a b 5 ≥ 0 ↔ mag b ≤ mag a := by
  have h0 := ha 0
  have h1 := ha 1
  have h2 := ha 2
  have h3 := ha 3
  have h4 := ha 4
  have g0 := hb 0
  have g1 := hb 1
  have g2 := hb 2
  have g3 := hb 3
  have g4 := hb 4
  unfold Dg at *
  unfold mag
  clear ha hb
  simp only [sizeF]
  repeat' split
  all_goals omega
end Go.Proofs.Ytbegglmcbcepeaa.All
