/- Plain facts on rows of starts that rise: which of them count. -/
import Derived.Test.YteceacbnfgjkfaaXCounts
namespace Go.Proofs.Yteceacbnfgjkfaa.Cnt
open Go.RowKit

/-- What holds of one start holds of each later one. -/
def Up (p : Int → Bool) : Prop := ∀ x y : Int, x ≤ y → p x = true → p y = true
theorem up_cnt (now n : Int) : Up (cntB now n) := by
  intro x y h hx
  unfold cntB at hx ⊢
  rcases (Bool.or_eq_true _ _).mp hx with e | e
  · rw [e]; rfl
  · have := of_decide_eq_true e
    rw [decide_eq_true (show wrap64 (now - n) < y by omega), Bool.or_true]

def Rising (xs : List Int) : Prop := xs.Pairwise (· ≤ ·)
theorem rising_get {xs : List Int} (h : Rising xs) {i j : Nat} (hij : i ≤ j) (hj : j < xs.length) : xs.getD i 0 ≤ xs.getD j 0 := by
  have hi : i < xs.length := by omega
  rw [List.getD_eq_getElem?_getD, List.getD_eq_getElem?_getD, List.getElem?_eq_getElem hi, List.getElem?_eq_getElem hj]
  by_cases e : i = j
  · subst e; exact Int.le_refl _
  · exact (List.pairwise_iff_getElem.1 h) i j hi hj (by omega)

theorem idx_not {p : Int → Bool} {xs : List Int} {i : Nat} (h : i < xs.findIdx p) (hi : i < xs.length) : p (xs.getD i 0) = false := by
  have := List.not_of_lt_findIdx h
  rw [List.getD_eq_getElem?_getD, List.getElem?_eq_getElem hi]
  simpa using this
theorem idx_yes {p : Int → Bool} {xs : List Int} (hu : Up p) (hr : Rising xs) {i : Nat} (h : xs.findIdx p ≤ i) (hi : i < xs.length) : p (xs.getD i 0) = true := by
  have hl : xs.findIdx p < xs.length := by omega
  have h1 := List.findIdx_getElem (w := hl)
  refine hu _ _ (rising_get hr h hi) ?_
  rw [List.getD_eq_getElem?_getD, List.getElem?_eq_getElem hl]
  simpa using h1
theorem idx_le_of {p : Int → Bool} {xs : List Int} {i : Nat} (hi : i < xs.length) (h : p (xs.getD i 0) = true) : xs.findIdx p ≤ i := by
  apply Classical.byContradiction
  intro hc
  have := idx_not (p := p) (xs := xs) (i := i) (by omega) hi
  rw [h] at this; cases this
theorem idx_gt_of {p : Int → Bool} {xs : List Int} (hu : Up p) (hr : Rising xs) {i : Nat} (hi : i < xs.length) (h : p (xs.getD i 0) = false) : i < xs.findIdx p := by
  apply Classical.byContradiction
  intro hc
  have := idx_yes hu hr (i := i) (by omega) hi
  rw [h] at this; cases this
theorem idx_drop {p : Int → Bool} {xs : List Int} (hu : Up p) (hr : Rising xs) (j : Nat) : (xs.drop j).findIdx p = xs.findIdx p - j := by
  have hl : (xs.drop j).length = xs.length - j := List.length_drop ..
  have hg : ∀ i, (xs.drop j).getD i 0 = xs.getD (j + i) 0 := fun i => by simp [List.getD_eq_getElem?_getD]
  have hr2 : Rising (xs.drop j) := List.Pairwise.sublist (List.drop_sublist j xs) hr
  have h1 : xs.findIdx p ≤ xs.length := List.findIdx_le_length
  have h2 : (xs.drop j).findIdx p ≤ (xs.drop j).length := List.findIdx_le_length
  apply Nat.le_antisymm
  · apply Classical.byContradiction
    intro hc
    have hi : xs.findIdx p - j < (xs.drop j).length := by omega
    have := idx_not (p := p) (xs := xs.drop j) (i := xs.findIdx p - j) (by omega) hi
    rw [hg, idx_yes hu hr (by omega) (by omega)] at this; cases this
  · apply Classical.byContradiction
    intro hc
    have hi : j + (xs.drop j).findIdx p < xs.length := by omega
    have h3 := idx_not (p := p) (xs := xs) (i := j + (xs.drop j).findIdx p) (by omega) hi
    rw [← hg, idx_yes hu hr2 (Nat.le_refl _) (by omega)] at h3; cases h3
theorem rising_drop {xs : List Int} (h : Rising xs) (j : Nat) : Rising (xs.drop j) := List.Pairwise.sublist (List.drop_sublist j xs) h
theorem rising_snoc {xs : List Int} (h : Rising xs) {t : Int} (ht : ∀ x ∈ xs, x ≤ t) : Rising (xs ++ [t]) := by
  unfold Rising
  rw [List.pairwise_append]
  exact ⟨h, List.pairwise_singleton _ _, fun a ha b hb => by rw [List.mem_singleton.1 hb]; exact ht a ha⟩

/-- Where the starts that count begin. -/
def from_ (xs : List Int) (now n b : Int) : Nat := max (xs.findIdx (cntB now n)) (xs.length - b.toNat)
theorem counts_drop (xs : List Int) (now n b : Int) : countsOf xs now n b = xs.drop (from_ xs now n b) := by
  unfold countsOf from_
  cases h : xs.findIdx? (cntB now n) with
  | none =>
    have h' := List.findIdx?_eq_none_iff_findIdx_eq.1 h
    rw [h', List.drop_eq_nil_of_le (by omega)]
  | some i =>
    have h' : xs.findIdx (cntB now n) = i := (List.findIdx?_eq_some_iff_findIdx_eq.1 h).2
    show List.drop ((List.drop i xs).length - b.toNat) (List.drop i xs) = _
    rw [List.drop_drop, List.length_drop, h']
    congr 1
    omega
theorem from_le (xs : List Int) (now n b : Int) : from_ xs now n b ≤ xs.length := by
  have := List.findIdx_le_length (p := cntB now n) (xs := xs)
  unfold from_; omega
theorem counts_len (xs : List Int) (now n b : Int) : (countsOf xs now n b).length = xs.length - from_ xs now n b := by
  rw [counts_drop, List.length_drop]
theorem from_drop {xs : List Int} (hr : Rising xs) (now n b : Int) (j : Nat) (hj : j ≤ from_ xs now n b) : j + from_ (xs.drop j) now n b = from_ xs now n b := by
  unfold from_ at *
  rw [idx_drop (up_cnt now n) hr, List.length_drop]
  omega
theorem counts_of_drop {xs : List Int} (hr : Rising xs) (now n b : Int) (j : Nat) (hj : j ≤ from_ xs now n b) : countsOf (xs.drop j) now n b = xs.drop (from_ xs now n b) := by
  rw [counts_drop, List.drop_drop, from_drop hr now n b j hj]
end Go.Proofs.Yteceacbnfgjkfaa.Cnt
