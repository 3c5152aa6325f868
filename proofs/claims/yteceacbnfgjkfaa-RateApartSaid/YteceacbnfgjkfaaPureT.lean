/- The plain laws of the rate, the third part: when one may be again; starts far apart; the closed statement. -/
import Derived.Test.YteceacbnfgjkfaaPureS
namespace Go.Proofs.Yteceacbnfgjkfaa.All
open Go.RowKit Go.Proofs.YteceacbnfgjkfaaW.PrintWords Go.Proofs.YteceacbnfgjkfaaW.PrintLast Go.Proofs.YteceacbnfgjkfaaW.PrintMore
open Go.Proofs.Yteceacbnfgjkfaa.Cnt

theorem minus_at {a : Int} (h0 : -9223372036854775808 ≤ a) (h1 : a ≤ 9223372036854775807) : usec_minus.f a = some (if a < 0 then 1 else 0) := by
  unfold usec_minus.f
  rw [IntKind.wrap_u64]
  congr 1
  split <;> omega
theorem add_at {a s : Int} (ha : 0 ≤ a ∧ a ≤ 9223372036854775807) (hs : 0 ≤ s ∧ s ≤ 9223372036854775807) : usec_Add.f a s = some (if a + s ≤ 9223372036854775807 then (a + s, true) else (0, false)) := by
  unfold usec_Add.f
  rw [minus_at (by omega) (by omega), minus_at (a := s) (by omega) (by omega), if_neg (show ¬ a < 0 by omega), if_neg (show ¬ s < 0 by omega)]
  simp only [Option.bind_some]
  rw [if_pos trivial]
  by_cases h : a + s ≤ 9223372036854775807
  · have e : wrap64 (a + s) = a + s := wrap_fit (by omega) h
    rw [e, minus_at (by omega) (by omega), if_neg (show ¬ a + s < 0 by omega), if_pos h]
    rfl
  · have e : wrap64 (a + s) = a + s - 18446744073709551616 := by unfold wrap64; omega
    rw [e, minus_at (by omega) (by omega), if_pos (show a + s - 18446744073709551616 < 0 by omega), if_neg h]
    rfl
theorem later_at {a s : Int} (ha : 0 ≤ a ∧ a < 9223372036854775807) (hs : 0 ≤ s ∧ s ≤ 9223372036854775807) :
    usec_Later.f a s = some (if s = 9223372036854775807 ∨ a + s ≥ 9223372036854775807 then 9223372036854775807 else a + s) := by
  unfold usec_Later.f
  have e : mx 0 s = s := by unfold mx; split <;> omega
  rw [e, add_at ⟨ha.1, by omega⟩ hs]
  simp only [Option.bind_some]
  by_cases h : a + s ≤ 9223372036854775807
  · rw [if_pos h, if_pos rfl, if_neg (show ¬ a = 9223372036854775807 by omega)]
    by_cases h2 : s = 9223372036854775807
    · rw [if_pos h2, if_pos (.inl h2)]
    · rw [if_neg h2]
      by_cases h3 : a + s ≥ 9223372036854775807
      · rw [if_pos (.inr h3)]
        congr 1; show a + s = _; omega
      · rw [if_neg (by omega)]
  · rw [if_neg h, if_neg (by simp), if_pos (.inr (by omega))]

/-- Of a row with m starts ahead of those that count: one may not be. -/
theorem start_not (k : Nat) (l : List Int) (t n b : Int) (hn : 1 ≤ n) (hb : 1 ≤ b) (hb2 : b ≤ 9223372036854775807) (hl : l.length ≤ 1000) (h : ((l.length - from_ l t n b : Nat) : Int) ≥ b) :
    ∃ r, rate_Start.f k l t n b = some (r, false) := by
  rw [start_eq k l t n b hn hb hb2 hl, if_pos (by rw [counts_len]; exact h)]
  exact ⟨_, rfl⟩
theorem start_yes (k : Nat) (l : List Int) (t n b : Int) (hb2 : b ≤ 9223372036854775807) (hl : l.length ≤ 1000) (h : n < 1 ∨ b < 1 ∨ ((l.length - from_ l t n b : Nat) : Int) < b) :
    ∃ r, rate_Start.f k l t n b = some (r, true) := by
  by_cases h1 : n < 1 ∨ b < 1
  · exact ⟨_, start_easy k l t n b h1⟩
  · rw [start_eq k l t n b (by omega) (by omega) hb2 hl, if_neg (by rw [counts_len]; omega)]
    exact ⟨_, rfl⟩

theorem next_loop (l : List Int) (n b now t : Int) (hnow : 0 ≤ now ∧ now ≤ t) (ht : t ≤ 9223372036854775807) (hno : ∀ k x, now ≤ x → x < t → ∃ r, rate_Start.f k l x n b = some (r, false)) (d : Nat) :
    ∀ (k : Nat) (x : Int), x < t → x = t - 50 + d → 2 * d + 40 < k → clepsydralaw27_RateNext.l0 k n b l now t x = some true := by
  induction d with
  | zero =>
    intro k x hx hd hk
    obtain ⟨k, rfl⟩ : ∃ m, k = m + 2 := ⟨k - 2, by omega⟩
    have e : wrap64 (t - 50) = t - 50 := wrap_fit (by omega) (by omega)
    simp only [clepsydralaw27_RateNext.l0, clepsydralaw27_RateNext.j3]
    rw [e, decide_eq_false (show ¬ x > t - 50 by omega), works_true k (by omega)]
    split <;> rfl
  | succ d ih =>
    intro k x hx hd hk
    obtain ⟨k, rfl⟩ : ∃ m, k = m + 2 := ⟨k - 2, by omega⟩
    have hih := ih k (x - 1) (by omega) (by omega) (by omega)
    have e : wrap64 (t - 50) = t - 50 := wrap_fit (by omega) (by omega)
    have e2 : wrap64 (x - 1) = x - 1 := wrap_fit (by omega) (by omega)
    simp only [clepsydralaw27_RateNext.l0, clepsydralaw27_RateNext.j3]
    by_cases hw : x ≥ now
    · obtain ⟨r, hr⟩ := hno k x hw hx
      rw [if_pos hw, e, decide_eq_true (show x > t - 50 by omega), if_pos rfl, hr]
      simp only [Option.bind_some]
      rw [if_neg (by simp), e2]
      exact hih
    · rw [if_neg hw, works_true k (by omega)]
      rfl
theorem next_end (k : Nat) (l : List Int) (n b now : Int) (hnow : 0 ≤ now ∧ now ≤ 17179869184) (hk : 40 < k) (x : Int) (hx : x = now - 1) (t : Int) : clepsydralaw27_RateNext.l0 k n b l now t x = some true := by
  obtain ⟨k, rfl⟩ : ∃ m, k = m + 2 := ⟨k - 2, by omega⟩
  simp only [clepsydralaw27_RateNext.l0, clepsydralaw27_RateNext.j3]
  rw [if_neg (by omega), works_true k (by omega)]
  rfl

theorem next_j0 (k : Nat) (l : List Int) (n b now : Int) (hr : Rising l) (hrg : ∀ x ∈ l, 0 ≤ x ∧ x ≤ now) (hl : l.length ≤ 100) (hnow : 0 ≤ now ∧ now ≤ 17179869184) (hn2 : n ≤ 9223372036854775807) (hb2 : b ≤ 9223372036854775807) (hk : 300 < k) :
    clepsydralaw27_RateNext.j0 k n b l now = some true := by
  obtain ⟨k, rfl⟩ : ∃ m, k = m + 2 := ⟨k - 2, by omega⟩
  by_cases hy : n < 1 ∨ b < 1 ∨ ((l.length - from_ l now n b : Nat) : Int) < b
  · have e : rate_Next.f (k + 1) l now n b = some now := by
      obtain ⟨r, hs⟩ := start_yes (k + 1) l now n b hb2 (by omega) hy
      unfold rate_Next.f
      rw [hs]; rfl
    obtain ⟨r, hs⟩ := start_yes (k + 1) l now n b hb2 (by omega) hy
    have e2 : wrap64 (now - 1) = now - 1 := wrap_fit (by omega) (by omega)
    simp only [clepsydralaw27_RateNext.j0, clepsydralaw27_RateNext.j1]
    rw [e]
    simp only [Option.bind_some]
    rw [if_neg (by omega), if_neg (by omega), hs]
    simp only [Option.bind_some]
    rw [if_pos trivial, if_neg (by simp), e2]
    exact next_end k l n b now hnow (by omega) _ rfl _
  · have hn : 1 ≤ n := by omega
    have hb : 1 ≤ b := by omega
    have hge : ((l.length - from_ l now n b : Nat) : Int) ≥ b := by omega
    have hfl := from_le l now n b
    obtain ⟨m, hm⟩ : ∃ m, from_ l now n b = m := ⟨_, rfl⟩
    have hmb : m = l.length - b.toNat ∧ b ≤ (l.length : Int) := by
      have : l.length - b.toNat ≤ m := by rw [← hm]; unfold from_; omega
      omega
    have hml : m < l.length := by omega
    have hc0 := hrg (l.getD m 0) (by rw [List.getD_eq_getElem?_getD, List.getElem?_eq_getElem hml]; exact List.getElem_mem hml)
    have hcm : cntB now n (l.getD m 0) = true := by
      refine idx_yes (up_cnt now n) hr ?_ hml
      rw [← hm]; unfold from_; omega
    have hfrom : ∀ x, cntB x n (l.getD m 0) = true → ((l.length - from_ l x n b : Nat) : Int) ≥ b := fun x hx => by
      have := idx_le_of hml hx
      unfold from_
      omega
    -- what is told
    have e : rate_Next.f (k + 1) l now n b = usec_Later.f (l.getD m 0) n := by
      unfold rate_Next.f
      rw [start_eq (k + 1) l now n b hn hb hb2 (by omega), if_pos (by rw [counts_len]; exact hge)]
      simp only [Option.bind_some]
      rw [if_neg (by simp)]
      unfold rate_counts.f
      rw [if_pos ⟨hb, hb2, by omega⟩]
      simp only [Option.bind_some]
      rw [if_pos (by rw [counts_len]; omega), counts_drop, hm]
      have : rd (l.drop m) 0 = l.getD m 0 := by simp [rd, List.getD_eq_getElem?_getD]
      rw [this]
      cases usec_Later.f (l.getD m 0) n <;> rfl
    rw [later_at ⟨hc0.1, by omega⟩ ⟨by omega, hn2⟩] at e
    generalize hce : l.getD m 0 = c0 at *
    simp only [clepsydralaw27_RateNext.j0, clepsydralaw27_RateNext.j1]
    rw [e]
    simp only [Option.bind_some]
    by_cases hinf : n = 9223372036854775807 ∨ c0 + n ≥ 9223372036854775807
    · rw [if_pos hinf, if_neg (by omega), if_pos rfl]
      obtain ⟨r1, h1⟩ := start_not (k + 1) l now n b hn hb hb2 (by omega) hge
      have hq : cntB 4611686018427387904 n c0 = true := by
        by_cases hnn : n = 9223372036854775807
        · unfold cntB; rw [hnn]; rfl
        · rw [cnt_small (by omega) (by omega) (by omega)]; exact decide_eq_true (by omega)
      obtain ⟨r2, h2⟩ := start_not (k + 1) l 4611686018427387904 n b hn hb hb2 (by omega) (hfrom _ hq)
      rw [h1, h2]
      simp only [Option.bind_some]
      rw [if_neg (by simp), if_neg (by simp), works_true _ (by omega)]
      rfl
    · rw [if_neg hinf]
      have hnn : n < 9223372036854775807 := by omega
      have hlt : now < c0 + n := by
        rw [cnt_small hnn (by omega) (by omega)] at hcm
        have := of_decide_eq_true hcm
        omega
      rw [if_neg (by omega), if_neg (by omega)]
      have hidx : ((l.length - from_ l (c0 + n) n b : Nat) : Int) < b := by
        have hp : cntB (c0 + n) n (l.getD m 0) = false := by
          rw [hce, cnt_small hnn (by omega) (by omega)]; exact decide_eq_false (by omega)
        have := idx_gt_of (up_cnt (c0 + n) n) hr hml hp
        unfold from_; omega
      obtain ⟨r, hs⟩ := start_yes (k + 1) l (c0 + n) n b hb2 (by omega) (.inr (.inr hidx))
      rw [hs]
      simp only [Option.bind_some]
      have e2 : wrap64 (c0 + n - 1) = c0 + n - 1 := wrap_fit (by omega) (by omega)
      rw [if_pos trivial, if_neg (by simp), e2]
      refine next_loop l n b now (c0 + n) ⟨by omega, by omega⟩ (by omega) (fun k x h1 h2 => ?_) 49 k _ (by omega) (by omega) (by omega)
      exact start_not k l x n b hn hb hb2 (by omega) (hfrom x (by rw [cnt_small hnn (by omega) (by omega)]; exact decide_eq_true (by omega)))

theorem ratenext_true (k : Nat) (a0 : Int) (steps : List Int) (a2 n b : Int) (hs : Small steps) (h0 : 0 ≤ a0) (h1 : a0 ≤ 4294967295) (h2 : 0 ≤ a2 ∧ a2 ≤ 65535) (hn2 : n ≤ 9223372036854775807) (hb2 : b ≤ 9223372036854775807) (hk : 1500 ≤ k) :
    clepsydralaw27_RateNext.f k a0 steps a2 n b = some true := by
  unfold clepsydralaw27_RateNext.f
  have ea : wrap64 a0 = a0 := wrap_fit (by omega) (by omega)
  have e2 : wrap64 a2 = a2 := wrap_fit (by omega) (by omega)
  by_cases h : (steps.length : Int) > 60
  · rw [if_pos h, works_true k (by omega)]; rfl
  · rw [if_neg h, times_true k a0 steps hs (by omega) h0 h1 (by omega)]
    simp only [Option.bind_some]
    have hl := timesL_len a0 steps
    have hm := timesL_mem a0 steps hs
    have hr := timesL_rising a0 steps hs
    by_cases hp : ((timesL a0 steps).length : Int) > 0
    · have hw := last_rd (timesL a0 steps) (by omega) (by omega)
      rw [if_pos hp, hw, if_pos (by omega), if_pos (by omega), rd_getD, e2]
      have hi : (timesL a0 steps).length - 1 < (timesL a0 steps).length := by omega
      have hb := hm ((timesL a0 steps).getD ((timesL a0 steps).length - 1) 0) (by rw [List.getD_eq_getElem?_getD, List.getElem?_eq_getElem hi]; exact List.getElem_mem hi)
      have hle : ∀ x ∈ timesL a0 steps, x ≤ (timesL a0 steps).getD ((timesL a0 steps).length - 1) 0 := fun x hx => by
        obtain ⟨i, hi', rfl⟩ := List.mem_iff_getElem.1 hx
        have := rising_get hr (i := i) (j := (timesL a0 steps).length - 1) (by omega) hi
        have e : (timesL a0 steps).getD i 0 = (timesL a0 steps)[i] := by simp [List.getD_eq_getElem?_getD, List.getElem?_eq_getElem hi']
        rwa [e] at this
      generalize (timesL a0 steps).getD ((timesL a0 steps).length - 1) 0 = last at *
      rw [wrap_fit (x := last + a2) (by omega) (by omega)]
      refine next_j0 k _ n b (last + a2) hr (fun x hx => ?_) (by omega) (by omega) hn2 hb2 (by omega)
      have := hm x hx
      have := hle x hx
      omega
    · rw [if_neg hp, ea, e2, wrap_fit (x := a0 + a2) (by omega) (by omega)]
      refine next_j0 k _ n b (a0 + a2) hr (fun x hx => ?_) (by omega) (by omega) hn2 hb2 (by omega)
      have : timesL a0 steps = [] := List.eq_nil_of_length_eq_zero (by omega)
      rw [this] at hx; cases hx

/-! ### RateApart -/
theorem apart2 (n b now : Int) (hn : 1 ≤ n ∧ n ≤ 4294967296) (hb : 1 ≤ b ∧ b ≤ 20) (hnow : 0 ≤ now ∧ now ≤ 4000000000000) (d : Nat) :
    ∀ (k i : Nat), (i : Int) ≤ b + 3 → (b + 3 - i : Int) = d → d + 20 < k → clepsydralaw27_RateApart.l1 k n b (List.replicate (min i b.toNat) now) now (i : Int) = some true := by
  have hcnt : cntB now n now = true := by rw [cnt_small (by omega) (by omega) (by omega)]; exact decide_eq_true (by omega)
  have hfrom : ∀ j, j ≤ b.toNat → from_ (List.replicate j now) now n b = 0 := fun j hj => by
    unfold from_
    rw [List.length_replicate]
    have : (List.replicate j now).findIdx (cntB now n) = 0 := by
      cases j with
      | zero => rfl
      | succ j => rw [List.replicate_succ, List.findIdx_cons, hcnt]; rfl
    omega
  have e1 : wrap64 (b + 3) = b + 3 := wrap_fit (by omega) (by omega)
  have E1 : Hid (wrap64 (b + 3) = b + 3) := e1
  clear e1
  induction d with
  | zero =>
    intro k i hi hd hk
    obtain ⟨k, rfl⟩ : ∃ m, k = m + 1 := ⟨k - 1, by omega⟩
    simp only [clepsydralaw27_RateApart.l1]
    rw [E1.out, if_neg (by omega)]
    have em : min i b.toNat = b.toNat := by omega
    rw [em]
    have hl : (List.replicate b.toNat now).length = b.toNat := List.length_replicate
    have e : rate_Next.f k (List.replicate b.toNat now) now n b = some (now + n) := by
      unfold rate_Next.f
      rw [start_eq k _ now n b (by omega) (by omega) (by omega) (by omega), if_pos (by rw [counts_len, hl, hfrom _ (Nat.le_refl _)]; omega)]
      simp only [Option.bind_some]
      rw [if_neg (by simp)]
      unfold rate_counts.f
      rw [if_pos ⟨by omega, by omega, by omega⟩]
      simp only [Option.bind_some]
      rw [counts_drop, hfrom _ (Nat.le_refl _), List.drop_zero, if_pos (by omega)]
      have : rd (List.replicate b.toNat now) 0 = now := by
        obtain ⟨m, hm⟩ : ∃ m, b.toNat = m + 1 := ⟨b.toNat - 1, by omega⟩
        rw [hm]; rfl
      rw [this, later_at ⟨by omega, by omega⟩ ⟨by omega, by omega⟩, if_neg (by omega)]
      rfl
    rw [e]
    simp only [Option.bind_some]
    rw [wrap_fit (x := now + n) (by omega) (by omega), if_pos rfl, works_true k (by omega)]
    rfl
  | succ d ih =>
    intro k i hi hd hk
    obtain ⟨k, rfl⟩ : ∃ m, k = m + 1 := ⟨k - 1, by omega⟩
    have hI := ih k (i + 1) (by omega) (by omega) (by omega)
    have E3 : Hid (wrap64 ((i : Int) + 1) = ((i + 1 : Nat) : Int)) := wrap_idx (by omega)
    have hl : (List.replicate (min i b.toNat) now).length = min i b.toNat := List.length_replicate
    have hc : countsOf (List.replicate (min i b.toNat) now) now n b = List.replicate (min i b.toNat) now := by rw [counts_drop, hfrom _ (by omega), List.drop_zero]
    have hs := start_eq k (List.replicate (min i b.toNat) now) now n b (by omega) (by omega) (by omega) (by omega)
    rw [hc, hl] at hs
    simp only [clepsydralaw27_RateApart.l1]
    rw [E1.out, if_pos (by omega)]
    by_cases hib : (i : Int) < b
    · rw [if_neg (by omega)] at hs
      rw [hs, decide_eq_true hib]
      simp only [Option.bind_some]
      rw [if_neg (by simp), E3.out]
      have em : min i b.toNat = i := by omega
      have em1 : min (i + 1) b.toNat = i + 1 := by omega
      rw [em1] at hI
      rw [em, ← List.replicate_succ']
      exact hI
    · rw [if_pos (by omega)] at hs
      rw [hs, decide_eq_false hib]
      simp only [Option.bind_some]
      rw [if_neg (by simp), E3.out]
      have em : min (i + 1) b.toNat = min i b.toNat := by omega
      rw [em] at hI
      exact hI
theorem apart1 (n kk b more : Int) (hn : 1 ≤ n ∧ n ≤ 4294967296) (hkk : 1 ≤ kk ∧ kk ≤ 100) (hb : 1 ≤ b ∧ b ≤ 20) (hm : 0 ≤ more ∧ more ≤ 65535) (d : Nat) :
    ∀ (k i : Nat) (l : List Int) (now : Int), (i : Int) ≤ kk → (kk - i : Int) = d → d + 1200 < k → 0 ≤ now → now ≤ 5000000000 * i → (l = [] ∨ ∃ p, l = [p] ∧ p ≤ now - n) →
    clepsydralaw27_RateApart.l0 k more n kk b l now (i : Int) = some true := by
  induction d with
  | zero =>
    intro k i l now hi hd hk h0 h1 hl
    obtain ⟨k, rfl⟩ : ∃ m, k = m + 1 := ⟨k - 1, by omega⟩
    simp only [clepsydralaw27_RateApart.l0]
    rw [if_neg (by omega)]
    have := apart2 n b now hn hb ⟨h0, by omega⟩ (b + 3).toNat k 0 (by omega) (by omega) (by omega)
    simpa using this
  | succ d ih =>
    intro k i l now hi hd hk h0 h1 hl
    obtain ⟨k, rfl⟩ : ∃ m, k = m + 1 := ⟨k - 1, by omega⟩
    have hI := ih k (i + 1) [now] (now + n + more) (by omega) (by omega) (by omega) (by omega) (by omega) (.inr ⟨now, rfl, by omega⟩)
    have E3 : Hid (wrap64 ((i : Int) + 1) = ((i + 1 : Nat) : Int)) := wrap_idx (by omega)
    have E4 : Hid (wrap64 (wrap64 (now + n) + wrap64 more) = now + n + more) := by
      rw [wrap_fit (x := now + n) (by omega) (by omega), wrap_fit (x := more) (by omega) (by omega), wrap_fit (x := now + n + more) (by omega) (by omega)]
      rfl
    have hc : countsOf l now n b = [] := by
      rw [counts_drop]
      rcases hl with rfl | ⟨p, rfl, hp⟩
      · exact List.drop_nil
      · refine List.drop_eq_nil_of_le ?_
        have : cntB now n p = false := by rw [cnt_small (by omega) (by omega) (by omega)]; exact decide_eq_false (by omega)
        have h2 : [p].findIdx (cntB now n) = 1 := by rw [List.findIdx_cons, this]; rfl
        unfold from_
        rw [h2]
        show 1 ≤ _
        omega
    have hll : l.length ≤ 1000 := by
      rcases hl with rfl | ⟨p, rfl, hp⟩ <;> simp
    have hs : rate_Start.f k l now n b = some ([now], true) := by
      rw [start_eq k l now n b (by omega) (by omega) (by omega) hll, hc, if_neg (by simp; omega)]
      rfl
    simp only [clepsydralaw27_RateApart.l0]
    rw [if_pos (by omega), hs]
    simp only [Option.bind_some]
    rw [if_pos trivial, if_pos trivial, same_true k [now] (by simp) (by omega)]
    simp only [Option.bind_some]
    rw [if_pos trivial, E3.out, E4.out]
    exact hI
theorem apart_true (k : Nat) (a0 a1 a2 a3 : Int) (h0 : 0 ≤ a0 ∧ a0 ≤ 4294967295) (h1 : 0 ≤ a1 ∧ a1 ≤ 255) (h2 : 0 ≤ a2 ∧ a2 ≤ 255) (h3 : 0 ≤ a3 ∧ a3 ≤ 65535) (hk : 1500 ≤ k) :
    clepsydralaw27_RateApart.f k a0 a1 a2 a3 = some true := by
  unfold clepsydralaw27_RateApart.f
  have e1 : Int.tmod a1 100 = a1 % 100 := Int.tmod_eq_emod_of_nonneg h1.1
  have e2 : Int.tmod a2 20 = a2 % 20 := Int.tmod_eq_emod_of_nonneg h2.1
  rw [e1, e2, wrap_fit (x := a0) (by omega) (by omega), wrap_fit (x := a1 % 100) (by omega) (by omega), wrap_fit (x := a2 % 20) (by omega) (by omega), wrap_fit (x := a0 + 1) (by omega) (by omega), wrap_fit (x := a1 % 100 + 1) (by omega) (by omega), wrap_fit (x := a2 % 20 + 1) (by omega) (by omega)]
  exact apart1 (a0 + 1) (a1 % 100 + 1) (a2 % 20 + 1) a3 ⟨by omega, by omega⟩ ⟨by omega, by omega⟩ ⟨by omega, by omega⟩ h3 (a1 % 100 + 1).toNat k 0 [] 0 (by omega) (by omega) (by omega) (by omega) (by omega) (.inl rfl)
end Go.Proofs.Yteceacbnfgjkfaa.All
