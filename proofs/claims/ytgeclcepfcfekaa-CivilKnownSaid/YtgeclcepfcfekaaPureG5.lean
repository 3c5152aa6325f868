/- A law of the calendar. -/
import Derived.Test.YtgeclcepfcfekaaPureG
import Derived.Test.YtgeclcepfcfekaaA9
import Derived.OpenShut
namespace Go.Proofs.Ytgeclcepfcfekaa.All
open Go.RowKit Go.Proofs.YtgeclcepfcfekaaW.PrintWords Go.Proofs.YtgeclcepfcfekaaW.PrintLast Go.Proofs.YtgeclcepfcfekaaW.PrintMore
open Go.Proofs.Ytgeclcepfcfekaa.Cal Go.Proofs.Ytgeclcepfcfekaa.LongP

/-! ### CivilFrom -/
theorem floor_at {t : Int} (h : -9223372036854775808 ≤ t ∧ t ≤ 9223372036854775807) :
    (Int.tmod t 86400000000 < 0 → wrap64 (wrap64 (Int.tdiv t 86400000000) - 1) = t / 86400000000) ∧ (¬ Int.tmod t 86400000000 < 0 → wrap64 (Int.tdiv t 86400000000) = t / 86400000000) := by
  by_cases ht : t < 0
  · obtain ⟨e1, e2⟩ := tdm t 86400000000 ht (by decide)
    rw [e1, e2]
    constructor
    · intro hr
      rw [wr (x := -(-t / 86400000000)) ⟨by omega, by omega⟩, wr ⟨by omega, by omega⟩]
      omega
    · intro hr
      rw [wr (x := -(-t / 86400000000)) ⟨by omega, by omega⟩]
      omega
  · rw [td (by omega), tm (by omega)]
    constructor
    · intro hr; omega
    · intro hr
      rw [wr ⟨by omega, by omega⟩]
theorem from_j0 (k : Nat) (hk : 10 < k) (t : Int) (q : Int) (hq : q = t / 86400000000) (x4 a b c d e f g : Int)
    (hx : civil_FromMicro.f (k - 1) t = some (a, b, c, d, e, f, g, x4)) (ht : -9223372036854775808 ≤ t ∧ t ≤ 9223372036854775807) : clepsydralaw03_CivilFrom.j0 k t x4 q a b c d e f g = some true := by
  obtain ⟨k, rfl⟩ : ∃ m, k = m + 3 := ⟨k - 3, by omega⟩
  have hw := works_at (k + 1) (by omega)
  rw [show k + 3 - 1 = k + 1 + 1 by omega] at hx
  rw [clepsydralaw03_CivilFrom.j0]
  by_cases h : -719162 ≤ q ∧ q ≤ 2932896
  · have hq2 := h
    rw [hq] at hq2
    obtain ⟨hR, hN, _⟩ := of_right q h.1 h.2
    rw [From_yes (k + 1) hq2.1 hq2.2] at hx
    injection hx with hx
    simp only [Prod.mk.injEq] at hx
    obtain ⟨rfl, rfl, rfl, rfl, rfl, rfl, rfl, rfl⟩ := hx
    rw [← hq]
    have hr : t = q * 86400000000 + t % 86400000000 := by omega
    have hr0 : 0 ≤ t % 86400000000 ∧ t % 86400000000 < 86400000000 := by omega
    have hT : TimeR (t % 86400000000 / 1000000 / 3600) (t % 86400000000 / 1000000 / 60 % 60) (t % 86400000000 / 1000000 % 60) (t % 86400000000 % 1000000) := by
      unfold TimeR
      clear hr hN hR hq2 hq hw
      generalize t % 86400000000 = X at *
      omega
    have hsum : q * 86400000000 + ((t % 86400000000 / 1000000 / 3600 * 60 + t % 86400000000 / 1000000 / 60 % 60) * 60 + t % 86400000000 / 1000000 % 60) * 1000000 + t % 86400000000 % 1000000 = t := by
      clear hT hN hR hq2 hq hw
      generalize t % 86400000000 = X at *
      omega
    rw [if_neg (by omega), decide_eq_false (by omega), clepsydralaw03_CivilFrom.j1, if_neg (by decide), Micro_yes hR hT, bindS, hN, hsum, Of_yes k h.1 h.2, bindS, if_pos rfl, if_pos rfl, if_pos rfl, if_pos rfl, if_pos (by simp), hw, bindS]
  · rw [From_no (k + 1) ht (by omega)] at hx
    injection hx with hx
    simp only [Prod.mk.injEq] at hx
    obtain ⟨rfl, rfl, rfl, rfl, rfl, rfl, rfl, rfl⟩ := hx
    by_cases h2 : q < -719162
    · rw [if_pos h2, clepsydralaw03_CivilFrom.j1, if_pos rfl, if_pos (by decide), if_pos rfl, hw, bindS]
    · rw [if_neg h2, decide_eq_true (by omega), clepsydralaw03_CivilFrom.j1, if_pos rfl, if_pos (by decide), if_pos rfl, hw, bindS]
theorem from_any (t : Int) (ht : -9223372036854775808 ≤ t ∧ t ≤ 9223372036854775807) : ∃ a b c d e f g x, ∀ j, civil_FromMicro.f (j + 1) t = some (a, b, c, d, e, f, g, x) := by
  by_cases h : -719162 ≤ t / 86400000000 ∧ t / 86400000000 ≤ 2932896
  · exact ⟨_, _, _, _, _, _, _, _, fun j => From_yes j h.1 h.2⟩
  · exact ⟨_, _, _, _, _, _, _, _, fun j => From_no j ht (by omega)⟩
theorem from_law (k : Nat) (hk : 20000 < k) (t : Int) (ht : -9223372036854775808 ≤ t ∧ t ≤ 9223372036854775807) : clepsydralaw03_CivilFrom.f k t = some true := by
  obtain ⟨k, rfl⟩ : ∃ m, k = m + 2 := ⟨k - 2, by omega⟩
  obtain ⟨a, b, c, d, e, f, g, x, hx⟩ := from_any t ht
  unfold clepsydralaw03_CivilFrom.f
  rw [hx, bindS]
  dsimp only
  obtain ⟨f1, f2⟩ := floor_at ht
  by_cases hr : Int.tmod t 86400000000 < 0
  · rw [if_pos hr]
    exact from_j0 _ (by omega) t _ (f1 hr) _ _ _ _ _ _ _ _ (by rw [show k + 2 - 1 = k + 1 by omega]; exact hx k) ht
  · rw [if_neg hr]
    exact from_j0 _ (by omega) t _ (f2 hr) _ _ _ _ _ _ _ _ (by rw [show k + 2 - 1 = k + 1 by omega]; exact hx k) ht
end Go.Proofs.Ytgeclcepfcfekaa.All
namespace Go.Proofs.Ytgeclcepfcfekaa.Pure
open Go.RowKit
theorem CivilFrom : All.clepsydralaw03_CivilFrom.Pure := fun a h => ⟨20001, All.from_law 20001 (by omega) a (Go.bounds_i64 h)⟩
end Go.Proofs.Ytgeclcepfcfekaa.Pure
