/- The calendar's closed law; the laws, as the rows take them. -/
import Derived.Test.YtgeclcepfcfekaaPureG1
import Derived.Test.YtgeclcepfcfekaaPureG2
import Derived.Test.YtgeclcepfcfekaaPureG4
import Derived.Test.YtgeclcepfcfekaaPureG5
import Derived.Test.YtgeclcepfcfekaaA10
namespace Go.Proofs.Ytgeclcepfcfekaa.All
open Go.RowKit Go.Proofs.YtgeclcepfcfekaaW.PrintWords Go.Proofs.YtgeclcepfcfekaaW.PrintLast Go.Proofs.YtgeclcepfcfekaaW.PrintMore

def Fit64 (l : List Int) : Prop := ∀ x ∈ l, -9223372036854775808 ≤ x ∧ x ≤ 9223372036854775807
theorem rd_in {N : List Int} (h : Fit64 N) (i : Nat) (hi : i < N.length) : -9223372036854775808 ≤ rd N (i : Int) ∧ rd N (i : Int) ≤ 9223372036854775807 := by
  have : rd N (i : Int) = N[i] := by simp [rd, List.getD_eq_getElem?_getD, List.getElem?_eq_getElem hi]
  rw [this]; exact h _ (List.getElem_mem hi)
theorem wrap_in (x : Int) : -9223372036854775808 ≤ wrap64 x ∧ wrap64 x ≤ 9223372036854775807 := by unfold wrap64; omega
theorem idx {i : Nat} (h : i ≤ 100000) : wrap64 ((i : Int) + 1) = ((i + 1 : Nat) : Int) := by unfold wrap64; omega

theorem kn4 (x : List S41) (hx : x.length ≤ 100) (d : Nat) : ∀ (k i : Nat), d + 20100 < k → i ≤ x.length → x.length - i = d → clepsydralaw03_CivilKnown.l4 k x (x.length : Int) (i : Int) = some true := by
  induction d with
  | zero =>
    intro k i hk hi hd
    obtain ⟨k, rfl⟩ : ∃ m, k = m + 1 := ⟨k - 1, by omega⟩
    rw [clepsydralaw03_CivilKnown.l4, if_neg (by omega), works_at k (by omega), bindS]
  | succ d ih =>
    intro k i hk hi hd
    obtain ⟨k, rfl⟩ : ∃ m, k = m + 1 := ⟨k - 1, by omega⟩
    rw [clepsydralaw03_CivilKnown.l4, if_pos (by omega), if_pos (by omega), if_pos (by omega), micro_law k (by omega), bindS, if_pos rfl, idx (by omega)]
    exact ih k (i + 1) (by omega) (by omega) (by omega)
theorem kn3 (x : List Int) (hf : Fit64 x) (hx : x.length ≤ 100) (d : Nat) : ∀ (k i : Nat), d + 20200 < k → i ≤ x.length → x.length - i = d → clepsydralaw03_CivilKnown.l3 k x (x.length : Int) (i : Int) = some true := by
  induction d with
  | zero =>
    intro k i hk hi hd
    obtain ⟨k, rfl⟩ : ∃ m, k = m + 1 := ⟨k - 1, by omega⟩
    rw [clepsydralaw03_CivilKnown.l3, if_neg (by omega), bindS]
    exact kn4 _ (by decide) 9 k 0 (by omega) (by decide) (by decide)
  | succ d ih =>
    intro k i hk hi hd
    obtain ⟨k, rfl⟩ : ∃ m, k = m + 1 := ⟨k - 1, by omega⟩
    have hr := rd_in hf i (by omega)
    have hn := ih k (i + 1) (by omega) (by omega) (by omega)
    have hk2 : 20000 < k := by omega
    have e := idx (i := i) (by omega)
    have c1 : (i : Int) < (x.length : Int) := by omega
    have c2 : 0 ≤ (i : Int) := by omega
    clear ih hk hi hd hf hx
    rw [clepsydralaw03_CivilKnown.l3, if_pos c1, if_pos c2, if_pos c1]
    generalize rd x (i : Int) = a at *
    rw [of_law k hk2, bindS, if_pos rfl, from_law k hk2 a hr, bindS, if_pos rfl, e, hn]
    by_cases h1 : a < 1099511627776
    · rw [if_pos h1]
      by_cases h2 : a > -1099511627776
      · rw [if_pos h2, from_law k hk2 _ (wrap_in _), bindS, if_pos rfl, from_law k hk2 _ (wrap_in _), bindS, if_pos rfl]
      · rw [if_neg h2]
    · rw [if_neg h1]
theorem kn2 (a m : Int) (X : List Int) (n c : Int) (x : List Int) (hx : x.length ≤ 100) (d : Nat) : ∀ (k i : Nat), d + 20200 < k → i ≤ x.length → x.length - i = d →
    clepsydralaw03_CivilKnown.l2 k a m X n c x (x.length : Int) (i : Int) = clepsydralaw03_CivilKnown.l1 (k - (d + 1)) a (wrap64 (m + 1)) X n c := by
  induction d with
  | zero =>
    intro k i hk hi hd
    obtain ⟨k, rfl⟩ : ∃ m, k = m + 1 := ⟨k - 1, by omega⟩
    rw [clepsydralaw03_CivilKnown.l2, if_neg (by omega), show k + 1 - (0 + 1) = k by omega]
  | succ d ih =>
    intro k i hk hi hd
    obtain ⟨k, rfl⟩ : ∃ m, k = m + 1 := ⟨k - 1, by omega⟩
    rw [clepsydralaw03_CivilKnown.l2, if_pos (by omega), if_pos (by omega), if_pos (by omega), days_law k (by omega), bindS, if_pos rfl, idx (by omega), ih k (i + 1) (by omega) (by omega) (by omega), show k + 1 - (d + 1 + 1) = k - (d + 1) by omega]
theorem kn1 (a : Int) (X : List Int) (n c : Int) (d : Nat) : ∀ (k : Nat) (m : Int), 12 * d + 20300 < k → 14 - m = d → -2 ≤ m →
    clepsydralaw03_CivilKnown.l1 k a m X n c = clepsydralaw03_CivilKnown.l0 (k - (12 * d + 1)) X n (wrap64 (c + 1)) := by
  induction d with
  | zero =>
    intro k m hk hd hm
    obtain ⟨k, rfl⟩ : ∃ m, k = m + 1 := ⟨k - 1, by omega⟩
    rw [clepsydralaw03_CivilKnown.l1, if_neg (by omega), show k + 1 - (12 * 0 + 1) = k by omega]
  | succ d ih =>
    intro k m hk hd hm
    obtain ⟨k, rfl⟩ : ∃ m, k = m + 1 := ⟨k - 1, by omega⟩
    have h2 := kn2 a m X n c [(-1), 0, 1, 2, 27, 28, 29, 30, 31, 32] (by decide) 10 k 0 (by omega) (by decide) (by decide)
    rw [show ((0 : Nat) : Int) = 0 from rfl] at h2
    rw [clepsydralaw03_CivilKnown.l1, if_pos (by omega), bindS, h2, wr ⟨by omega, by omega⟩, ih (k - (10 + 1)) (m + 1) (by omega) (by omega) (by omega), show k - (10 + 1) - (12 * d + 1) = k + 1 - (12 * (d + 1) + 1) by omega]
theorem kn_nums : Fit64 [(-719163), (-719162), (-719161), (-719468), (-1), 0, 1, 58, 59, 60, 789, 790, 10956, 10957, 11015, 11016, 11017, 146096, 146097, 2932895, 2932896, 2932897, 4611686018427387904, (-9223372036854775808)] := by
  unfold Fit64; decide
theorem kn0 (X : List Int) (hx : X.length ≤ 100) (d : Nat) : ∀ (k i : Nat), 182 * d + 20400 < k → i ≤ X.length → X.length - i = d → clepsydralaw03_CivilKnown.l0 k X (X.length : Int) (i : Int) = some true := by
  induction d with
  | zero =>
    intro k i hk hi hd
    obtain ⟨k, rfl⟩ : ∃ m, k = m + 1 := ⟨k - 1, by omega⟩
    rw [clepsydralaw03_CivilKnown.l0, if_neg (by omega), bindS]
    exact kn3 _ kn_nums (by decide) 24 k 0 (by omega) (by decide) (by decide)
  | succ d ih =>
    intro k i hk hi hd
    obtain ⟨k, rfl⟩ : ∃ m, k = m + 1 := ⟨k - 1, by omega⟩
    rw [clepsydralaw03_CivilKnown.l0, if_pos (by omega), if_pos (by omega), if_pos (by omega), kn1 _ X _ _ 15 k (-1) (by omega) (by decide) (by decide), idx (by omega)]
    exact ih _ (i + 1) (by omega) (by omega) (by omega)
theorem known_law (k : Nat) (hk : 25000 < k) : clepsydralaw03_CivilKnown.f k = some true := by
  unfold clepsydralaw03_CivilKnown.f
  rw [bindS]
  exact kn0 _ (by decide) 23 k 0 (by omega) (by decide) (by decide)
end Go.Proofs.Ytgeclcepfcfekaa.All
namespace Go.Proofs.Ytgeclcepfcfekaa.Pure
theorem CivilKnown : All.clepsydralaw03_CivilKnown.Pure := ⟨25001, All.known_law 25001 (by omega)⟩
end Go.Proofs.Ytgeclcepfcfekaa.Pure
