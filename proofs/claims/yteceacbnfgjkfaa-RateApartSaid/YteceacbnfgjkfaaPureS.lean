/- The plain laws of the rate, the second part: windows, and rows that are far apart. -/
import Derived.Test.YteceacbnfgjkfaaPureR
namespace Go.Proofs.Yteceacbnfgjkfaa.All
open Go.RowKit Go.Proofs.YteceacbnfgjkfaaW.PrintWords Go.Proofs.YteceacbnfgjkfaaW.PrintLast Go.Proofs.YteceacbnfgjkfaaW.PrintMore
open Go.Proofs.Yteceacbnfgjkfaa.Cnt

theorem cnt_small {t n x : Int} (hn : n < 9223372036854775807) (h0 : -9223372036854775808 ≤ t - n) (h1 : t - n ≤ 9223372036854775807) : cntB t n x = decide (t - n < x) := by
  unfold cntB
  rw [wrap_fit h0 h1]
  have : (n == 9223372036854775807) = false := by simp; omega
  rw [this, Bool.false_or]
theorem from_mono {A S : List Int} {t t' n b : Int} (hn : n < 9223372036854775807) (h0 : -9223372036854775808 ≤ t - n) (h1 : t' - n ≤ 9223372036854775807) (htt : t ≤ t') :
    from_ A t n b ≤ from_ (A ++ S) t' n b := by
  have hA := List.findIdx_le_length (p := cntB t n) (xs := A)
  have key : A.findIdx (cntB t n) ≤ (A ++ S).findIdx (cntB t' n) := by
    apply Classical.byContradiction
    intro hc
    have hi : (A ++ S).findIdx (cntB t' n) < A.length := by omega
    have hi2 : (A ++ S).findIdx (cntB t' n) < (A ++ S).length := by rw [List.length_append]; omega
    have h2 := idx_not (p := cntB t n) (xs := A) (i := (A ++ S).findIdx (cntB t' n)) (by omega) hi
    have h3 := List.findIdx_getElem (w := hi2)
    have h4 : (A ++ S)[(A ++ S).findIdx (cntB t' n)] = A.getD ((A ++ S).findIdx (cntB t' n)) 0 := by
      rw [List.getElem_append_left hi, List.getD_eq_getElem?_getD, List.getElem?_eq_getElem hi]; rfl
    rw [h4] at h3
    rw [cnt_small hn h0 (by omega)] at h2
    rw [cnt_small hn (by omega) h1] at h3
    have := of_decide_eq_false h2
    have := of_decide_eq_true h3
    omega
  unfold from_
  rw [List.length_append]
  omega

/-- Refused just where the start that is b back lies less than an interval back. -/
theorem may_iff {A : List Int} {t n b : Int} (hr : Rising A) (hb : 1 ≤ b) (hn : n < 9223372036854775807) (h0 : -9223372036854775808 ≤ t - n) (h1 : t - n ≤ 9223372036854775807) :
    (((A.length - from_ A t n b : Nat) : Int) ≥ b) ↔ (b ≤ (A.length : Int) ∧ ¬ A.getD (A.length - b.toNat) 0 ≤ t - n) := by
  have hle := from_le A t n b
  constructor
  · intro h
    have hlb : b ≤ (A.length : Int) := by omega
    refine ⟨hlb, fun hc => ?_⟩
    have hi : A.length - b.toNat < A.length := by omega
    have h2 : cntB t n (A.getD (A.length - b.toNat) 0) = false := by rw [cnt_small hn h0 h1]; exact decide_eq_false (by omega)
    have h3 := idx_gt_of (up_cnt t n) hr hi h2
    unfold from_ at h hle
    omega
  · rintro ⟨hlb, hc⟩
    have hi : A.length - b.toNat < A.length := by omega
    have h2 : cntB t n (A.getD (A.length - b.toNat) 0) = true := by rw [cnt_small hn h0 h1]; exact decide_eq_true (by omega)
    have h3 := idx_le_of hi h2
    unfold from_ at hle ⊢
    omega

structure WinS (ask l all : List Int) (n b : Int) (i : Nat) : Prop where
  rising : Rising all
  range : ∀ x ∈ all, 0 ≤ x ∧ x ≤ 8589934592
  below : i < ask.length → ∀ x ∈ all, x ≤ ask.getD i 0
  len : all.length ≤ i
  row : ∃ j, l = all.drop j ∧ (i < ask.length → j ≤ from_ all (ask.getD i 0) n b)

theorem windows_tells (ask : List Int) (n b : Int) (hask : Rising ask) (hrange : ∀ x ∈ ask, 0 ≤ x ∧ x ≤ 8589934592) (hlen : ask.length ≤ 200) (hn : 1 ≤ n ∧ n ≤ 4294967296) (hb : 1 ≤ b ∧ b ≤ 20) (d : Nat) :
    ∀ (k i : Nat) (l all : List Int), i ≤ ask.length → ask.length - i = d → 3 * d + 20 < k → WinS ask l all n b i → clepsydralaw27_RateWindows.l0 k n b ask l all (i : Int) = some true := by
  induction d with
  | zero =>
    intro k i l all hi hd hk hS
    obtain ⟨k, rfl⟩ : ∃ m, k = m + 1 := ⟨k - 1, by omega⟩
    simp only [clepsydralaw27_RateWindows.l0]
    rw [if_neg (by omega), works_true k (by omega)]; rfl
  | succ d ih =>
    intro k i l all hi hd hk hS
    obtain ⟨k, rfl⟩ : ∃ m, k = m + 3 := ⟨k - 3, by omega⟩
    have hlt : i < ask.length := by omega
    obtain ⟨hr, hrg, hbl, hln, j, rfl, hj⟩ := hS
    have hj := hj hlt
    have hbl := hbl hlt
    have hg : ask.getD i 0 = ask[i] := by simp [List.getD_eq_getElem?_getD, List.getElem?_eq_getElem hlt]
    have ht := hrange _ (List.getElem_mem hlt)
    rw [← hg] at ht
    have hnext : i + 1 < ask.length → ask.getD i 0 ≤ ask.getD (i + 1) 0 ∧ 0 ≤ ask.getD (i + 1) 0 ∧ ask.getD (i + 1) 0 ≤ 8589934592 := fun h => by
      refine ⟨rising_get hask (Nat.le_succ i) h, ?_⟩
      have hg1 : ask.getD (i + 1) 0 = ask[i + 1] := by simp [List.getD_eq_getElem?_getD, List.getElem?_eq_getElem h]
      rw [hg1]; exact hrange _ (List.getElem_mem h)
    have e4 : rd ask (i : Int) = ask.getD i 0 := rfl
    have hc : countsOf (all.drop j) (ask.getD i 0) n b = all.drop (from_ all (ask.getD i 0) n b) := counts_of_drop hr _ _ _ j hj
    have hdl : (all.drop j).length ≤ 1000 := by rw [List.length_drop]; omega
    have hfl := from_le all (ask.getD i 0) n b
    have hm := may_iff (A := all) (t := ask.getD i 0) (n := n) (b := b) hr hb.1 (by omega) (by omega) (by omega)
    have c1 : (i : Int) < (ask.length : Int) := by omega
    have c2 : (0 : Int) ≤ (i : Int) := by omega
    have E5 : Hid (wrap64 ((all.length : Int) - b) = (all.length : Int) - b) := wrap_fit (by omega) (by omega)
    have E3 : Hid (wrap64 ((i : Int) + 1) = ((i + 1 : Nat) : Int)) := wrap_idx (by omega)
    have c3 : all.length < 17592186044416 := by omega
    generalize ask.getD i 0 = t at *
    have hfm : ∀ S, i + 1 < ask.length → from_ all t n b ≤ from_ (all ++ S) (ask.getD (i + 1) 0) n b := fun S h => by
      have := hnext h
      exact from_mono (by omega) (by omega) (by omega) this.1
    have ihk := fun l' all' h => ih k (i + 1) l' all' (by omega) (by omega) (by omega) h
    have hstart := start_eq (k + 2) (all.drop j) t n b hn.1 hb.1 (by omega) hdl
    rw [hc, List.length_drop] at hstart
    simp only [clepsydralaw27_RateWindows.l0]
    rw [if_pos c1, if_pos c2, e4, E5.out, hstart]
    simp only [Option.bind_some]
    by_cases hh : ((all.length - from_ all t n b : Nat) : Int) ≥ b
    · -- refused
      obtain ⟨h1, h2⟩ := hm.1 hh
      have e6 : ((all.length : Int) - b) = ((all.length - b.toNat : Nat) : Int) := by omega
      rw [if_pos hh]
      have hk0 : (all.length - b.toNat : Nat) < all.length := by omega
      rw [e6, if_pos (by omega)]
      simp only [clepsydralaw27_RateWindows.j1]
      rw [if_pos (by rw [decide_eq_true]; omega), if_pos c2, if_pos c1, if_pos (by omega), if_pos (by omega), e4]
      simp only [clepsydralaw27_RateWindows.j2]
      have e7 : rd all ((all.length - b.toNat : Nat) : Int) = all.getD (all.length - b.toNat) 0 := rfl
      have hx := hrg (all.getD (all.length - b.toNat) 0) (by rw [List.getD_eq_getElem?_getD, List.getElem?_eq_getElem hk0]; exact List.getElem_mem hk0)
      rw [e7, wrap_fit (by omega) (by omega), decide_eq_false (show ¬ (t - all.getD (all.length - b.toNat) 0) ≥ n by omega)]
      rw [if_neg (by simp), if_neg (by simp), E3.out]
      refine ihk _ _ ⟨hr, hrg, fun h x hx => Int.le_trans (hbl x hx) (hnext h).1, by omega, from_ all t n b, rfl, fun h => ?_⟩
      have := hfm [] h
      rwa [List.append_nil] at this
    · have hno : ¬ (b ≤ (all.length : Int) ∧ ¬ all.getD (all.length - b.toNat) 0 ≤ t - n) := fun h => hh (hm.2 h)
      rw [if_neg hh]
      have hS : WinS ask (all.drop (from_ all t n b) ++ [t]) (all ++ [t]) n b (i + 1) := by
        refine ⟨rising_snoc hr hbl, fun x hx => ?_, fun h x hx => ?_, by simp; omega, from_ all t n b, ?_, fun h => hfm [t] h⟩
        · rcases List.mem_append.1 hx with h | h
          · exact hrg x h
          · rw [List.mem_singleton.1 h]; exact ht
        · rcases List.mem_append.1 hx with h' | h'
          · exact Int.le_trans (hbl x h') (hnext h).1
          · rw [List.mem_singleton.1 h']; exact (hnext h).1
        · rw [List.drop_append_of_le_length hfl]
      have hfin : clepsydralaw27_RateWindows.j2 (k + 1) n b ask all (i : Int) (all.drop (from_ all t n b) ++ [t]) true true = some true := by
        simp only [clepsydralaw27_RateWindows.j2]
        rw [if_neg (by simp), if_pos trivial, if_pos c2, if_pos c1, if_pos c3, e4, E3.out]
        exact ihk _ _ hS
      by_cases hp : b ≤ (all.length : Int)
      · have h2 : all.getD (all.length - b.toNat) 0 ≤ t - n := Classical.byContradiction fun h => hno ⟨hp, h⟩
        have e6 : ((all.length : Int) - b) = ((all.length - b.toNat : Nat) : Int) := by omega
        have hk0 : (all.length - b.toNat : Nat) < all.length := by omega
        rw [e6, if_pos (by omega)]
        simp only [clepsydralaw27_RateWindows.j1]
        rw [if_pos (by rw [decide_eq_true]; omega), if_pos c2, if_pos c1, if_pos (by omega), if_pos (by omega), e4]
        have e7 : rd all ((all.length - b.toNat : Nat) : Int) = all.getD (all.length - b.toNat) 0 := rfl
        have hx := hrg (all.getD (all.length - b.toNat) 0) (by rw [List.getD_eq_getElem?_getD, List.getElem?_eq_getElem hk0]; exact List.getElem_mem hk0)
        rw [e7, wrap_fit (by omega) (by omega), decide_eq_true (show (t - all.getD (all.length - b.toNat) 0) ≥ n by omega)]
        exact hfin
      · rw [if_neg (by omega)]
        simp only [clepsydralaw27_RateWindows.j1]
        rw [if_neg (by simp)]
        exact hfin
theorem windows_true (k : Nat) (a0 : Int) (steps : List Int) (a2 a3 : Int) (hs : Small steps) (h0 : 0 ≤ a0) (h1 : a0 ≤ 4294967295) (h2 : 0 ≤ a2 ∧ a2 ≤ 4294967295) (h3 : 0 ≤ a3 ∧ a3 ≤ 255) (hk : 1500 ≤ k) :
    clepsydralaw27_RateWindows.f k a0 steps a2 a3 = some true := by
  unfold clepsydralaw27_RateWindows.f
  by_cases h : (steps.length : Int) > 200
  · rw [if_pos h, works_true k (by omega)]; rfl
  · rw [if_neg h, times_true k a0 steps hs (by omega) h0 h1 (by omega)]
    simp only [Option.bind_some]
    have hl := timesL_len a0 steps
    have e1 : wrap64 a2 = a2 := wrap_fit (by omega) (by omega)
    have e2 : Int.tmod a3 20 = a3 % 20 := Int.tmod_eq_emod_of_nonneg h3.1
    have e3 : wrap64 (a3 % 20) = a3 % 20 := wrap_fit (by omega) (by omega)
    rw [e1, e2, e3, wrap_fit (x := a2 + 1) (by omega) (by omega), wrap_fit (x := a3 % 20 + 1) (by omega) (by omega)]
    refine windows_tells (timesL a0 steps) (a2 + 1) (a3 % 20 + 1) (timesL_rising a0 steps hs) (fun x hx => ?_) (by omega) ⟨by omega, by omega⟩ ⟨by omega, by omega⟩ steps.length k 0 [] [] (by omega) (by omega) (by omega) ⟨List.Pairwise.nil, by simp, by simp, by simp, 0, rfl, fun _ => Nat.zero_le _⟩
    have := timesL_mem a0 steps hs x hx
    omega
end Go.Proofs.Yteceacbnfgjkfaa.All
