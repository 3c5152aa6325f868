/- The five laws of the rate, each as its one plain statement. -/
import Derived.Test.YteceacbnfgjkfaaPureT
import Derived.OpenShut
namespace Go.Proofs.Yteceacbnfgjkfaa.All
open Go.RowKit Go.Proofs.YteceacbnfgjkfaaW.PrintWords Go.Proofs.YteceacbnfgjkfaaW.PrintLast Go.Proofs.YteceacbnfgjkfaaW.PrintMore
open Go.Proofs.Yteceacbnfgjkfaa.Cnt

theorem known2 (n b x9 x8 x14 x15 : Int) (x7 x13 : List Int) (Y : List (List Int)) (hY : ∀ s ∈ Y, Small s) (hl : Y.length ≤ 100) (hn : n ≤ 9223372036854775807) (hb : b ≤ 9223372036854775807) (d : Nat) :
    ∀ (k i : Nat), i ≤ Y.length → Y.length - i = d → d + 1500 < k →
    clepsydralaw27_RateKnown.l2 k n b x7 x8 x9 x13 x14 x15 Y (Y.length : Int) (i : Int) = clepsydralaw27_RateKnown.l1 (k - (d + 1)) n x7 x8 x9 x13 x14 (wrap64 (x15 + 1)) := by
  induction d with
  | zero =>
    intro k i hi hd hk
    obtain ⟨k, rfl⟩ : ∃ m, k = m + 1 := ⟨k - 1, by omega⟩
    simp only [clepsydralaw27_RateKnown.l2]
    rw [if_neg (by omega)]
    rfl
  | succ d ih =>
    intro k i hi hd hk
    obtain ⟨k, rfl⟩ : ∃ m, k = m + 1 := ⟨k - 1, by omega⟩
    have hlt : i < Y.length := by omega
    have hs : Small (rd_L3 Y (i : Int)) := by
      have : rd_L3 Y (i : Int) = Y[i] := by simp [rd_L3, List.getD_eq_getElem?_getD, List.getElem?_eq_getElem hlt]
      rw [this]; exact hY _ (List.getElem_mem hlt)
    have E3 : Hid (wrap64 ((i : Int) + 1) = ((i + 1 : Nat) : Int)) := wrap_idx (by omega)
    simp only [clepsydralaw27_RateKnown.l2]
    rw [if_pos (by omega), if_pos (by omega), if_pos (by omega)]
    rw [ratestart_true k 5 _ 3 n b hs (by omega) (by omega) hb (by omega), ratestart_true k 0 _ 0 n b hs (by omega) (by omega) hb (by omega),
      ratenext_true k 9 _ 1 n b hs (by omega) (by omega) ⟨by omega, by omega⟩ hn hb (by omega),
      windows_true k 1 _ (n % 4294967296) (b % 256) hs (by omega) (by omega) ⟨by omega, by omega⟩ ⟨by omega, by omega⟩ (by omega)]
    simp only [Option.bind_some]
    rw [if_pos trivial, if_pos trivial, if_pos trivial, if_pos trivial, E3.out, ih k (i + 1) (by omega) (by omega) (by omega)]
    congr 1
    omega
def knownY : List (List Int) := [[], [0], [0, 0, 0], [1, 2, 3, 4, 5], [0, 65535, 1, 1]]
theorem knownY_small : ∀ s ∈ knownY, Small s := by
  unfold knownY Small
  intro s hs
  simp only [List.mem_cons, List.not_mem_nil, or_false] at hs
  rcases hs with rfl | rfl | rfl | rfl | rfl <;> decide
theorem known1 (n x9 x8 : Int) (x7 B : List Int) (hB : ∀ x ∈ B, x ≤ 9223372036854775807) (hl : B.length ≤ 100) (hn : n ≤ 9223372036854775807) (d : Nat) :
    ∀ (k i : Nat), i ≤ B.length → B.length - i = d → 7 * d + 1600 < k →
    clepsydralaw27_RateKnown.l1 k n x7 x8 x9 B (B.length : Int) (i : Int) = clepsydralaw27_RateKnown.l0 (k - (7 * d + 1)) x7 x8 (wrap64 (x9 + 1)) := by
  induction d with
  | zero =>
    intro k i hi hd hk
    obtain ⟨k, rfl⟩ : ∃ m, k = m + 1 := ⟨k - 1, by omega⟩
    simp only [clepsydralaw27_RateKnown.l1]
    rw [if_neg (by omega)]
    rfl
  | succ d ih =>
    intro k i hi hd hk
    obtain ⟨k, rfl⟩ : ∃ m, k = m + 1 := ⟨k - 1, by omega⟩
    have hlt : i < B.length := by omega
    have hb : rd B (i : Int) ≤ 9223372036854775807 := by
      have : rd B (i : Int) = B[i] := by simp [rd, List.getD_eq_getElem?_getD, List.getElem?_eq_getElem hlt]
      rw [this]; exact hB _ (List.getElem_mem hlt)
    have E3 : Hid (wrap64 ((i : Int) + 1) = ((i + 1 : Nat) : Int)) := wrap_idx (by omega)
    simp only [clepsydralaw27_RateKnown.l1]
    rw [if_pos (by omega), if_pos (by omega), if_pos (by omega)]
    simp only [Option.bind_some]
    have h2 := known2 n (rd B (i : Int)) x9 x8 (B.length : Int) (i : Int) x7 B knownY knownY_small (by decide) hn hb 5 k 0 (by omega) (by decide) (by omega)
    have e : clepsydralaw27_RateKnown.l2 k n (rd B (i : Int)) x7 x8 x9 B (B.length : Int) (i : Int) [[], [0], [0, 0, 0], [1, 2, 3, 4, 5], [0, 65535, 1, 1]] (([[], [0], [0, 0, 0], [1, 2, 3, 4, 5], [0, 65535, 1, 1]] : List (List Int)).length : Int) 0 = _ := h2
    rw [e, E3.out, ih (k - 6) (i + 1) (by omega) (by omega) (by omega)]
    congr 1
    omega
def knownB : List Int := [(-1), 0, 1, 2, 3, 7, 1099511627776, 9223372036854775807, (-9223372036854775808)]
theorem knownB_fit : ∀ x ∈ knownB, x ≤ 9223372036854775807 := by unfold knownB; decide
theorem known0 (N : List Int) (hN : ∀ x ∈ N, x ≤ 9223372036854775807) (hl : N.length ≤ 100) (d : Nat) :
    ∀ (k i : Nat), i ≤ N.length → N.length - i = d → 65 * d + 1800 < k → clepsydralaw27_RateKnown.l0 k N (N.length : Int) (i : Int) = some true := by
  induction d with
  | zero =>
    intro k i hi hd hk
    obtain ⟨k, rfl⟩ : ∃ m, k = m + 1 := ⟨k - 1, by omega⟩
    simp only [clepsydralaw27_RateKnown.l0]
    rw [if_neg (by omega), works_true k (by omega)]
    rfl
  | succ d ih =>
    intro k i hi hd hk
    obtain ⟨k, rfl⟩ : ∃ m, k = m + 1 := ⟨k - 1, by omega⟩
    have hlt : i < N.length := by omega
    have hb : rd N (i : Int) ≤ 9223372036854775807 := by
      have : rd N (i : Int) = N[i] := by simp [rd, List.getD_eq_getElem?_getD, List.getElem?_eq_getElem hlt]
      rw [this]; exact hN _ (List.getElem_mem hlt)
    have E3 : Hid (wrap64 ((i : Int) + 1) = ((i + 1 : Nat) : Int)) := wrap_idx (by omega)
    simp only [clepsydralaw27_RateKnown.l0]
    rw [if_pos (by omega), if_pos (by omega), if_pos (by omega)]
    simp only [Option.bind_some]
    have h2 := known1 (rd N (i : Int)) (i : Int) (N.length : Int) N knownB knownB_fit (by decide) hb 9 k 0 (by omega) (by decide) (by omega)
    have e : clepsydralaw27_RateKnown.l1 k (rd N (i : Int)) N (N.length : Int) (i : Int) [(-1), 0, 1, 2, 3, 7, 1099511627776, 9223372036854775807, (-9223372036854775808)] (([(-1), 0, 1, 2, 3, 7, 1099511627776, 9223372036854775807, (-9223372036854775808)] : List Int).length : Int) 0 = _ := h2
    rw [e, E3.out]
    exact ih (k - 64) (i + 1) (by omega) (by omega) (by omega)
def knownN : List Int := [(-1), 0, 1, 2, 10, 1000000, 4611686018427387904, 9223372036854775807, (-9223372036854775808)]
theorem knownN_fit : ∀ x ∈ knownN, x ≤ 9223372036854775807 := by unfold knownN; decide
theorem known_true (k : Nat) (hk : 3000 < k) : clepsydralaw27_RateKnown.f k = some true := by
  unfold clepsydralaw27_RateKnown.f
  simp only [Option.bind_some]
  exact known0 knownN knownN_fit (by decide) 9 k 0 (by omega) (by decide) (by omega)
end Go.Proofs.Yteceacbnfgjkfaa.All
namespace Go.Proofs.Yteceacbnfgjkfaa.Pure
open Go.RowKit Go.Proofs.Yteceacbnfgjkfaa.All

theorem small_of {l : List Int} (h : ∀ x ∈ l, (Lit.int .u16 x).wf = true) : Small l := fun s hs => bounds_u16 (h s hs)
theorem RateStart : clepsydralaw27_RateStart.Pure := by
  intro a0 l1 a2 a3 a4 w0 _ _ h w2 w3 w4
  exact ⟨1500, ratestart_true 1500 a0 l1 a2 a3 a4 (small_of h) (bounds_u32 w0).1 (bounds_u32 w0).2 (bounds_i64 w4).2 (Nat.le_refl _)⟩
theorem RateWindows : clepsydralaw27_RateWindows.Pure := by
  intro a0 l1 a2 a3 w0 _ _ h w2 w3
  exact ⟨1500, windows_true 1500 a0 l1 a2 a3 (small_of h) (bounds_u32 w0).1 (bounds_u32 w0).2 (bounds_u32 w2) (bounds_u8 w3) (Nat.le_refl _)⟩
theorem RateNext : clepsydralaw27_RateNext.Pure := by
  intro a0 l1 a2 a3 a4 w0 _ _ h w2 w3 w4
  exact ⟨1500, ratenext_true 1500 a0 l1 a2 a3 a4 (small_of h) (bounds_u32 w0).1 (bounds_u32 w0).2 (bounds_u16 w2) (bounds_i64 w3).2 (bounds_i64 w4).2 (Nat.le_refl _)⟩
theorem RateKnown : clepsydralaw27_RateKnown.Pure := ⟨4000, known_true 4000 (by omega)⟩
theorem RateApart : clepsydralaw27_RateApart.Pure := by
  intro a0 a1 a2 a3 w0 w1 w2 w3
  exact ⟨1500, apart_true 1500 a0 a1 a2 a3 (bounds_u32 w0) (bounds_u8 w1) (bounds_u8 w2) (bounds_u16 w3) (Nat.le_refl _)⟩
end Go.Proofs.Yteceacbnfgjkfaa.Pure
