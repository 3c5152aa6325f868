/- The plain laws of the rate: what the printed functions compute is true for every input. -/
import Derived.Test.YteceacbnfgjkfaaPureC
import Derived.Test.YteceacbnfgjkfaaA5
namespace Go.Proofs.Yteceacbnfgjkfaa.All
open Go.RowKit Go.Proofs.YteceacbnfgjkfaaW.PrintWords Go.Proofs.YteceacbnfgjkfaaW.PrintLast Go.Proofs.YteceacbnfgjkfaaW.PrintMore
open Go.Proofs.Yteceacbnfgjkfaa.Cnt

theorem rd_getD (xs : List Int) (i : Nat) : rd xs (i : Int) = xs.getD i 0 := rfl

/-! ### Start -/
theorem start_easy (k : Nat) (l : List Int) (now n b : Int) (h : n < 1 ∨ b < 1) : rate_Start.f k l now n b = some ([], true) := by
  unfold rate_Start.f
  rw [if_pos (by unfold mn; split <;> omega)]
theorem start_eq (k : Nat) (l : List Int) (now n b : Int) (hn : 1 ≤ n) (hb : 1 ≤ b) (hb2 : b ≤ 9223372036854775807) (hl : l.length ≤ 1000) :
    rate_Start.f k l now n b = some (if ((countsOf l now n b).length : Int) ≥ b then (countsOf l now n b, false) else (countsOf l now n b ++ [now], true)) := by
  unfold rate_Start.f
  rw [if_neg (by unfold mn; split <;> omega)]
  unfold rate_counts.f
  rw [if_pos ⟨hb, hb2, by omega⟩]
  simp only [Option.bind_some]
  have := counts_len l now n b
  by_cases h : ((countsOf l now n b).length : Int) ≥ b
  · rw [if_pos h, if_pos h]
  · rw [if_neg h, if_neg h, if_pos (by omega)]

/-! ### works -/
theorem works_at : clepsydralaw27_works.f 12 = some true := by decide +kernel
theorem works_true (k : Nat) (hk : 12 ≤ k) : clepsydralaw27_works.f k = some true := by
  obtain ⟨d, rfl⟩ : ∃ d, k = 12 + d := ⟨k - 12, by omega⟩
  induction d with
  | zero => exact works_at
  | succ d ih => exact clepsydralaw27_works.mono _ _ (ih (by omega))

/-! ### times -/
def timesL : Int → List Int → List Int
  | _, [] => []
  | t, s :: r => (t + s) :: timesL (t + s) r
theorem timesL_len : ∀ (t : Int) (r : List Int), (timesL t r).length = r.length
  | _, [] => rfl
  | t, s :: r => by simp [timesL, timesL_len (t + s) r]
def Small (r : List Int) : Prop := ∀ s ∈ r, 0 ≤ s ∧ s ≤ 65535
theorem timesL_mem : ∀ (t : Int) (r : List Int), Small r → ∀ x ∈ timesL t r, t ≤ x ∧ x ≤ t + 65535 * r.length
  | _, [], _ => fun x hx => by simp [timesL] at hx
  | t, s :: r, h => fun x hx => by
    have hs := h s List.mem_cons_self
    rcases List.mem_cons.1 hx with rfl | hx
    · simp only [List.length_cons]; omega
    · have := timesL_mem (t + s) r (fun y hy => h y (List.mem_cons_of_mem _ hy)) x hx
      simp only [List.length_cons]; omega
theorem timesL_rising : ∀ (t : Int) (r : List Int), Small r → Rising (timesL t r)
  | _, [], _ => List.Pairwise.nil
  | t, s :: r, h => List.Pairwise.cons (fun x hx => (timesL_mem (t + s) r (fun y hy => h y (List.mem_cons_of_mem _ hy)) x hx).1) (timesL_rising (t + s) r (fun y hy => h y (List.mem_cons_of_mem _ hy)))
theorem wrap_fit {x : Int} (h0 : -9223372036854775808 ≤ x) (h1 : x ≤ 9223372036854775807) : wrap64 x = x := by
  unfold wrap64; omega
theorem wrap_idx {i : Nat} (h : i ≤ 1000) : wrap64 ((i : Int) + 1) = ((i + 1 : Nat) : Int) := by
  unfold wrap64; omega
theorem times_tells (steps : List Int) (hs : Small steps) (hn : steps.length ≤ 300) (d : Nat) : ∀ (k i : Nat) (acc : List Int) (t : Int), i ≤ steps.length → steps.length - i = d → d < k → acc.length ≤ i → 0 ≤ t → t ≤ 4294967295 + 65535 * i →
    clepsydralaw27_times.l0 k steps acc t (i : Int) = some (acc ++ timesL t (steps.drop i)) := by
  induction d with
  | zero =>
    intro k i acc t hi hd hk ha h0 h1
    obtain ⟨k, rfl⟩ : ∃ m, k = m + 1 := ⟨k - 1, by omega⟩
    simp only [clepsydralaw27_times.l0]
    rw [if_neg (by omega), List.drop_eq_nil_of_le (by omega)]
    simp [timesL]
  | succ d ih =>
    intro k i acc t hi hd hk ha h0 h1
    obtain ⟨k, rfl⟩ : ∃ m, k = m + 1 := ⟨k - 1, by omega⟩
    have hlt : i < steps.length := by omega
    have c1 : (i : Int) < (steps.length : Int) := by omega
    have c2 : (0 : Int) ≤ (i : Int) := by omega
    have c3 : acc.length < 17592186044416 := by omega
    have c4 : i + 1 ≤ steps.length := by omega
    have c5 : steps.length - (i + 1) = d := by omega
    have c6 : d < k := by omega
    have hi300 : (i : Int) ≤ 300 := by omega
    have hg : steps.getD i 0 = steps[i] := by simp [List.getD_eq_getElem?_getD, List.getElem?_eq_getElem hlt]
    have hb := hs _ (List.getElem_mem hlt)
    rw [← hg] at hb
    have hdrop : steps.drop i = steps.getD i 0 :: steps.drop (i + 1) := by rw [hg]; exact List.drop_eq_getElem_cons hlt
    have e4 : rd steps (i : Int) = steps.getD i 0 := rfl
    generalize steps.getD i 0 = x at *
    have hl : (acc ++ [t + x]).length ≤ i + 1 := by rw [List.length_append]; exact Nat.succ_le_succ ha
    have b1 : t + x ≤ 9223372036854775807 := by clear hdrop hg ih; omega
    have b2 : -9223372036854775808 ≤ t + x := by clear hdrop hg ih; omega
    have hle : t + x ≤ 4294967295 + 65535 * ((i + 1 : Nat) : Int) := by clear hdrop hg ih; omega
    have h0x : 0 ≤ t + x := by clear hdrop hg ih; omega
    have e1 : wrap64 x = x := wrap_fit (by clear hdrop hg ih; omega) (by clear hdrop hg ih; omega)
    have e2 : wrap64 (t + x) = t + x := wrap_fit b2 b1
    have e3 : wrap64 ((i : Int) + 1) = ((i + 1 : Nat) : Int) := wrap_idx (by clear hdrop hg ih e1 e2; omega)
    simp only [clepsydralaw27_times.l0]
    rw [if_pos c1, if_pos c2, if_pos c3, e4, e1, e2, e3]
    rw [ih k (i + 1) _ _ c4 c5 c6 hl h0x hle, hdrop]
    simp [timesL]
theorem times_true (k : Nat) (a0 : Int) (steps : List Int) (hs : Small steps) (hn : steps.length ≤ 300) (h0 : 0 ≤ a0) (h1 : a0 ≤ 4294967295) (hk : 400 ≤ k) : clepsydralaw27_times.f k a0 steps = some (timesL a0 steps) := by
  unfold clepsydralaw27_times.f
  have e1 : wrap64 a0 = a0 := by unfold wrap64; omega
  rw [e1]
  have := times_tells steps hs hn steps.length k 0 [] a0 (by omega) (by omega) (by omega) (by simp) h0 (by omega)
  simpa using this

/-! ### same -/
theorem same_tells (xs : List Int) (hn : xs.length ≤ 1000) (d : Nat) : ∀ (k i : Nat), i ≤ xs.length → xs.length - i = d → d < k → clepsydralaw27_same.l0 k xs xs (i : Int) = some true := by
  induction d with
  | zero =>
    intro k i hi hd hk
    obtain ⟨k, rfl⟩ : ∃ m, k = m + 1 := ⟨k - 1, by omega⟩
    simp only [clepsydralaw27_same.l0]
    rw [if_neg (by omega)]
  | succ d ih =>
    intro k i hi hd hk
    obtain ⟨k, rfl⟩ : ∃ m, k = m + 1 := ⟨k - 1, by omega⟩
    have e3 : wrap64 ((i : Int) + 1) = ((i + 1 : Nat) : Int) := by unfold wrap64; omega
    simp only [clepsydralaw27_same.l0]
    rw [if_pos (by omega), if_pos (by omega), if_pos (by omega), if_pos trivial, e3]
    exact ih k (i + 1) (by omega) (by omega) (by omega)
theorem same_true (k : Nat) (xs : List Int) (hn : xs.length ≤ 1000) (hk : 1100 ≤ k) : clepsydralaw27_same.f k xs xs = some true := by
  unfold clepsydralaw27_same.f
  rw [if_pos rfl]
  exact same_tells xs hn xs.length k 0 (by omega) (by omega) (by omega)

/-! ### the reference -/
theorem ref1_tells (b : Int) (hb : 1 ≤ b) (d : Nat) : ∀ (k : Nat) (xs : List Int), xs.length ≤ d → d < k → clepsydraref27_Counts.l1 k b xs = some (xs.drop (xs.length - b.toNat)) := by
  induction d with
  | zero =>
    intro k xs h hk
    obtain ⟨k, rfl⟩ : ∃ m, k = m + 1 := ⟨k - 1, by omega⟩
    simp only [clepsydraref27_Counts.l1]
    rw [if_neg (by omega), show xs.length - b.toNat = 0 from by omega, List.drop_zero]
  | succ d ih =>
    intro k xs h hk
    obtain ⟨k, rfl⟩ : ∃ m, k = m + 1 := ⟨k - 1, by omega⟩
    simp only [clepsydraref27_Counts.l1]
    by_cases hx : (xs.length : Int) > b
    · rw [if_pos hx, if_pos (by omega), ih k _ (by simp; omega) (by omega), List.drop_drop]
      congr 2
      simp
      omega
    · rw [if_neg hx, show xs.length - b.toNat = 0 from by omega, List.drop_zero]
theorem ref0_tells (xs : List Int) (now n b : Int) (hn : xs.length ≤ 300) (hb : 1 ≤ b) (d : Nat) : ∀ (k i : Nat) (acc : List Int), i ≤ xs.length → xs.length - i = d → d + 700 < k → acc.length ≤ i →
    clepsydraref27_Counts.l0 k xs now n b acc (i : Int) = some ((acc ++ (xs.drop i).filter (cntB now n)).drop ((acc ++ (xs.drop i).filter (cntB now n)).length - b.toNat)) := by
  induction d with
  | zero =>
    intro k i acc hi hd hk ha
    obtain ⟨k, rfl⟩ : ∃ m, k = m + 1 := ⟨k - 1, by omega⟩
    simp only [clepsydraref27_Counts.l0]
    rw [if_neg (by omega), List.drop_eq_nil_of_le (show xs.length ≤ i by omega), ref1_tells b hb 600 k _ (by omega) (by omega)]
    simp
  | succ d ih =>
    intro k i acc hi hd hk ha
    obtain ⟨k, rfl⟩ : ∃ m, k = m + 1 := ⟨k - 1, by omega⟩
    have hlt : i < xs.length := by omega
    have hg : xs.getD i 0 = xs[i] := by simp [List.getD_eq_getElem?_getD, List.getElem?_eq_getElem hlt]
    have hdrop : xs.drop i = xs.getD i 0 :: xs.drop (i + 1) := by rw [hg]; exact List.drop_eq_getElem_cons hlt
    have e3 : wrap64 ((i : Int) + 1) = ((i + 1 : Nat) : Int) := by unfold wrap64; omega
    simp only [clepsydraref27_Counts.l0]
    rw [if_pos (by omega), rd_getD, e3, hdrop]
    by_cases h1 : n = 9223372036854775807
    · have hc : cntB now n (xs.getD i 0) = true := by unfold cntB; rw [h1]; rfl
      rw [if_pos h1, if_pos (by omega), if_pos (by omega), ih k (i + 1) _ (by omega) (by omega) (by omega) (by simp; omega), List.filter_cons, if_pos hc]
      simp
    · rw [if_neg h1, if_pos (by omega)]
      by_cases h2 : xs.getD i 0 > wrap64 (now - n)
      · have hc : cntB now n (xs.getD i 0) = true := by unfold cntB; rw [decide_eq_true h2, Bool.or_true]
        rw [if_pos h2, if_pos (by omega), ih k (i + 1) _ (by omega) (by omega) (by omega) (by simp; omega), List.filter_cons, if_pos hc]
        simp
      · have hc : cntB now n (xs.getD i 0) = false := by
          unfold cntB; rw [decide_eq_false h2, Bool.or_false]; simpa using h1
        rw [if_neg h2, ih k (i + 1) _ (by omega) (by omega) (by omega) (by omega), List.filter_cons, if_neg (by rw [hc]; simp)]
theorem filter_rising {p : Int → Bool} (hu : Up p) : ∀ (xs : List Int), Rising xs → xs.filter p = xs.drop (xs.findIdx p)
  | [], _ => rfl
  | x :: r, h => by
    rw [List.findIdx_cons, List.filter_cons]
    by_cases hx : p x = true
    · have : r.filter p = r := List.filter_eq_self.2 fun y hy => hu x y ((List.pairwise_cons.1 h).1 y hy) hx
      rw [if_pos hx, this, hx]; rfl
    · have hx' : p x = false := by simpa using hx
      rw [if_neg hx, filter_rising hu r (List.pairwise_cons.1 h).2, hx']; rfl
theorem ref_true (k : Nat) (xs : List Int) (now n b : Int) (hr : Rising xs) (hn : xs.length ≤ 300) (hb : 1 ≤ b) (hk : 1100 ≤ k) : clepsydraref27_Counts.f k xs now n b = some (countsOf xs now n b) := by
  unfold clepsydraref27_Counts.f
  have := ref0_tells xs now n b hn hb xs.length k 0 [] (by omega) (by omega) (by omega) (by simp)
  rw [show ((0 : Nat) : Int) = 0 from rfl] at this
  rw [this, List.nil_append, List.drop_zero, filter_rising (up_cnt now n) xs hr, counts_drop, List.drop_drop, List.length_drop]
  congr 2
  unfold from_
  have := List.findIdx_le_length (p := cntB now n) (xs := xs)
  omega
theorem refstart_true (k : Nat) (xs : List Int) (now n b : Int) (hr : Rising xs) (hn : xs.length ≤ 300) (hb2 : b ≤ 9223372036854775807) (hk : 1200 ≤ k) : clepsydraref27_Start.f k xs now n b = rate_Start.f k xs now n b := by
  unfold clepsydraref27_Start.f
  by_cases h1 : n < 1
  · obtain ⟨k, rfl⟩ : ∃ m, k = m + 1 := ⟨k - 1, by omega⟩
    rw [if_pos h1, start_easy _ _ _ _ _ (.inl h1)]; rfl
  · rw [if_neg h1]
    by_cases h2 : b < 1
    · obtain ⟨k, rfl⟩ : ∃ m, k = m + 1 := ⟨k - 1, by omega⟩
      rw [start_easy _ _ _ _ _ (.inr h2), decide_eq_true h2]; rfl
    · rw [start_eq k xs now n b (by omega) (by omega) hb2 (by omega), decide_eq_false h2]
      obtain ⟨k, rfl⟩ : ∃ m, k = m + 1 := ⟨k - 1, by omega⟩
      simp only [clepsydraref27_Start.j0]
      rw [if_neg (by simp), ref_true k xs now n b hr hn (by omega) (by omega)]
      simp only [Option.bind_some]
      have := counts_len xs now n b
      by_cases h : ((countsOf xs now n b).length : Int) ≥ b
      · rw [if_pos h, if_pos h]
      · rw [if_neg h, if_neg h, if_pos (by omega)]

/-! ### RateStart -/
theorem start_some (k : Nat) (l : List Int) (now n b : Int) (hb2 : b ≤ 9223372036854775807) (hl : l.length ≤ 900) : ∃ r ok, rate_Start.f k l now n b = some (r, ok) ∧ r.length ≤ l.length + 1 := by
  by_cases h : n < 1 ∨ b < 1
  · exact ⟨_, _, start_easy k l now n b h, by simp⟩
  · have hc := counts_len l now n b
    rw [start_eq k l now n b (by omega) (by omega) hb2 (by omega)]
    by_cases hh : ((countsOf l now n b).length : Int) ≥ b
    · rw [if_pos hh]; exact ⟨_, _, rfl, by omega⟩
    · rw [if_neg hh]; exact ⟨_, _, rfl, by simp; omega⟩
theorem ratestart_j0 (k : Nat) (a0 : Int) (steps : List Int) (n b now : Int) (hs : Small steps) (hn : steps.length ≤ 100) (h0 : 0 ≤ a0) (h1 : a0 ≤ 4294967295) (hb2 : b ≤ 9223372036854775807) (hk : 1500 ≤ k) :
    clepsydralaw27_RateStart.j0 k a0 steps n b (timesL a0 steps) now = some true := by
  obtain ⟨k, rfl⟩ : ∃ m, k = m + 1 := ⟨k - 1, by omega⟩
  simp only [clepsydralaw27_RateStart.j0]
  have hl := timesL_len a0 steps
  obtain ⟨r, ok, e, hr⟩ := start_some k (timesL a0 steps) now n b hb2 (by omega)
  rw [times_true k a0 steps hs (by omega) h0 h1 (by omega)]
  simp only [Option.bind_some]
  rw [refstart_true k _ now n b (timesL_rising a0 steps hs) (by omega) hb2 (by omega), e]
  simp only [Option.bind_some]
  rw [if_pos (by simp), same_true k r (by omega) (by omega)]
  simp only [Option.bind_some]
  rw [same_true k _ (by omega) (by omega), works_true k (by omega)]
  rfl
theorem last_rd (xs : List Int) (h : 0 < xs.length) (hn : xs.length ≤ 300) : wrap64 ((xs.length : Int) - 1) = ((xs.length - 1 : Nat) : Int) := by
  unfold wrap64; omega
theorem ratestart_true (k : Nat) (a0 : Int) (steps : List Int) (a2 n b : Int) (hs : Small steps) (h0 : 0 ≤ a0) (h1 : a0 ≤ 4294967295) (hb2 : b ≤ 9223372036854775807) (hk : 1500 ≤ k) :
    clepsydralaw27_RateStart.f k a0 steps a2 n b = some true := by
  unfold clepsydralaw27_RateStart.f
  by_cases h : (steps.length : Int) > 100
  · rw [if_pos h, works_true k (by omega)]; rfl
  · rw [if_neg h, times_true k a0 steps hs (by omega) h0 h1 (by omega)]
    simp only [Option.bind_some]
    have hl := timesL_len a0 steps
    by_cases hp : ((timesL a0 steps).length : Int) > 0
    · have hw := last_rd (timesL a0 steps) (by omega) (by omega)
      rw [if_pos hp, hw, if_pos (by omega), if_pos (by omega)]
      exact ratestart_j0 k a0 steps n b _ hs (by omega) h0 h1 hb2 hk
    · rw [if_neg hp]
      exact ratestart_j0 k a0 steps n b _ hs (by omega) h0 h1 hb2 hk
end Go.Proofs.Yteceacbnfgjkfaa.All
