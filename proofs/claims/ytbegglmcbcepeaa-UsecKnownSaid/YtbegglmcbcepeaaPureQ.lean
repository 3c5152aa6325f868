/- The closed law of the numbers that fit. -/
import Derived.Test.YtbegglmcbcepeaaPureO
import Derived.Test.YtbegglmcbcepeaaB6
namespace Go.Proofs.Ytbegglmcbcepeaa.All
open Go.RowKit Go.Proofs.YtbegglmcbcepeaaW.PrintWords Go.Proofs.YtbegglmcbcepeaaW.PrintLast Go.Proofs.YtbegglmcbcepeaaW.PrintMore
set_option linter.unusedVariables false
set_option linter.unusedSimpArgs false

def Fit64 (l : List Int) : Prop := ∀ x ∈ l, In64 x
theorem rd_in {N : List Int} (h : Fit64 N) (i : Nat) (hi : i < N.length) : In64 (rd N (i : Int)) := by
  have : rd N (i : Int) = N[i] := by simp [rd, List.getD_eq_getElem?_getD, List.getElem?_eq_getElem hi]
  rw [this]; exact h _ (List.getElem_mem hi)
theorem idx {i : Nat} (h : i ≤ 100000) : wrap64 ((i : Int) + 1) = ((i + 1 : Nat) : Int) := by unfold wrap64; omega
theorem ring_idx {i k n : Nat} (hn : n ≤ 1000) (hi : i < n) (hk : k < n) : Int.tmod (wrap64 ((i : Int) + (k : Int))) (n : Int) = (((i + k) % n : Nat) : Int) := by
  have e : wrap64 ((i : Int) + (k : Int)) = ((i + k : Nat) : Int) := by unfold wrap64; omega
  rw [e, tm (by omega)]
  exact (Int.natCast_emod _ _).symm
theorem known1 (l : List Int) (hl : Fit64 l) (hn : l.length ≤ 1000) (i : Nat) (hi : i < l.length) (d : Nat) : ∀ (k j : Nat), d + 20 < k → j ≤ l.length → l.length - j = d →
    clepsydralaw01_UsecKnown.l1 k l (i : Int) (j : Int) = clepsydralaw01_UsecKnown.l0 (k - (d + 1)) l (wrap64 ((i : Int) + 1)) := by
  induction d with
  | zero =>
    intro k j hk hj hd
    obtain ⟨k, rfl⟩ : ∃ m, k = m + 1 := ⟨k - 1, by omega⟩
    rw [clepsydralaw01_UsecKnown.l1, if_neg (by omega), show k + 1 - (0 + 1) = k by omega]
  | succ d ih =>
    intro k j hk hj hd
    obtain ⟨k, rfl⟩ : ∃ m, k = m + 1 := ⟨k - 1, by omega⟩
    have hjl : j < l.length := by omega
    have hm : (i + j) % l.length < l.length := Nat.mod_lt _ (by omega)
    have b1 := rd_in hl i hi
    have b2 := rd_in hl j hjl
    have b3 := rd_in hl _ hm
    have e := idx (i := j) (by omega)
    have hr := ring_idx hn hi hjl
    have hnx := ih k (j + 1) (by omega) (by omega) (by omega)
    have hk2 : 11 < k := by omega
    have c1 : (j : Int) < (l.length : Int) := by omega
    have c2 : ¬ (l.length : Int) = 0 := by omega
    have c3 : 0 ≤ (((i + j) % l.length : Nat) : Int) := by omega
    have c4 : (((i + j) % l.length : Nat) : Int) < (l.length : Int) := by omega
    have c5 : 0 ≤ (i : Int) := by omega
    have c6 : (i : Int) < (l.length : Int) := by omega
    have c7 : 0 ≤ (j : Int) := by omega
    clear ih hd hj hk
    rw [clepsydralaw01_UsecKnown.l1, hr, if_pos c1, if_neg c2, if_pos c3, if_pos c4, if_pos c5, if_pos c6, if_pos c7, sums_law k (by omega) b1 b2, bindS, if_pos rfl, div_law k (by omega) b1 b2, bindS, if_pos rfl, clamp_law k (by omega) b1 b3, bindS, if_pos rfl,
      clamp_law k (by omega) b3 b2, bindS, if_pos rfl, rules_law k (by omega) b1 b2 b3, bindS, if_pos rfl, e, hnx, show k + 1 - (d + 1 + 1) = k - (d + 1) by omega]
theorem known0 (l : List Int) (hl : Fit64 l) (hn : l.length ≤ 1000) (d : Nat) : ∀ (k i : Nat), 1002 * d + 30 < k → i ≤ l.length → l.length - i = d → clepsydralaw01_UsecKnown.l0 k l (i : Int) = some true := by
  induction d with
  | zero =>
    intro k i hk hi hd
    obtain ⟨k, rfl⟩ : ∃ m, k = m + 1 := ⟨k - 1, by omega⟩
    rw [clepsydralaw01_UsecKnown.l0, if_neg (by omega), works_at k (by omega), bindS]
  | succ d ih =>
    intro k i hk hi hd
    obtain ⟨k, rfl⟩ : ∃ m, k = m + 1 := ⟨k - 1, by omega⟩
    have h1 := known1 l hl hn i (by omega) l.length k 0 (by omega) (by omega) (by omega)
    rw [show ((0 : Nat) : Int) = 0 from rfl] at h1
    rw [clepsydralaw01_UsecKnown.l0, if_pos (by omega), h1, idx (by omega)]
    exact ih _ (i + 1) (by omega) (by omega) (by omega)
theorem known_fit : Fit64 [0, 1, (-1), 2, (-2), 7, (-7), 1000000, 2147483648, 4294967296, (-4294967296), 3037000499, 3037000500, (-3037000500), 4611686018427387904, (-4611686018427387904), 9223372036854775807, 9223372036854775806, (-9223372036854775808), (-9223372036854775807)] := by
  unfold Fit64 In64; decide
theorem known_law (k : Nat) (hk : 30000 < k) : clepsydralaw01_UsecKnown.f k = some true := by
  unfold clepsydralaw01_UsecKnown.f
  exact known0 _ known_fit (by decide) 20 k 0 (by omega) (by decide) (by decide)
end Go.Proofs.Ytbegglmcbcepeaa.All
namespace Go.Proofs.Ytbegglmcbcepeaa.Pure
theorem UsecKnown : All.clepsydralaw01_UsecKnown.Pure := ⟨30001, All.known_law 30001 (by omega)⟩
end Go.Proofs.Ytbegglmcbcepeaa.Pure
