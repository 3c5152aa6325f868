/- The plain laws of the wake-ups: what the printed functions compute is true for every input. -/
import Derived.Test.YtifeepkknlglbaaPureW
import Derived.Test.YtifeepkknlglbaaA4
namespace Go.Proofs.Ytifeepkknlglbaa.All
open Go.RowKit Go.Proofs.YtifeepkknlglbaaW.PrintWords Go.Proofs.YtifeepkknlglbaaW.PrintLast Go.Proofs.YtifeepkknlglbaaW.PrintMore
open Go.Proofs.Ytifeepkknlglbaa.Ends

theorem works_true : clepsydralaw30_works.f = some true := by decide +kernel

/-- A window of numbers that fit. -/
def Fit (x : S34) : Prop := (-9223372036854775808 ≤ x.f1.f0 ∧ x.f1.f0 ≤ 9223372036854775807) ∧ -9223372036854775808 ≤ x.f1.f1 ∧ x.f1.f1 ≤ 9223372036854775807

theorem wrap_small {i : Int} {n : Nat} (h0 : 0 ≤ i) (h : i < (n : Int)) (hn : (n : Int) ≤ 300) : wrap64 (i + 1) = i + 1 := by
  unfold wrap64; omega

theorem take_at (xs : List S34) (i : Int) (h0 : 0 ≤ i) (h : i < (xs.length : Int)) (real : Bool) :
    endsOf (xs.take (i + 1).toNat) real = if ((rd_T34 xs i).f0 == real) = true then endsOf (xs.take i.toNat) real ++ [(rd_T34 xs i).f1.f1] else endsOf (xs.take i.toNat) real := by
  obtain ⟨k, rfl⟩ := Int.eq_ofNat_of_zero_le h0
  have e : ((k : Int) + 1).toNat = k + 1 := by omega
  rw [e, Int.toNat_natCast]
  by_cases hb : ((rd_T34 xs (k : Int)).f0 == real) = true
  · rw [if_pos hb]; exact ends_snoc_yes xs real k (by omega) hb
  · rw [if_neg hb]; exact ends_snoc_no xs real k (by omega) (by simpa using hb)

theorem best_tells (xs : List S34) (real : Bool) (now : Int) (hn : (xs.length : Int) ≤ 300) (d : Nat) : ∀ (k : Nat) (i : Int), 0 ≤ i → i ≤ xs.length → (xs.length : Int) - i = d → d < k →
    clepsydralaw30_best.l0 k xs real now (minW (endsOf (xs.take i.toNat) real)) (!(endsOf (xs.take i.toNat) real).isEmpty) i = some (bestOf xs real now) := by
  induction d with
  | zero =>
    intro k i h0 h1 hd hk
    obtain ⟨k, rfl⟩ : ∃ m, k = m + 1 := ⟨k - 1, by omega⟩
    have e : xs.take i.toNat = xs := List.take_of_length_le (by omega)
    rw [e]
    simp only [clepsydralaw30_best.l0]
    rw [if_neg (by omega)]
    unfold bestOf
    by_cases he : endsOf xs real = []
    · rw [if_pos he, he]; rfl
    · rw [if_neg he]
      have : (!(endsOf xs real).isEmpty) = true := by simpa using he
      rw [if_pos this]
      split <;> rfl
  | succ d ih =>
    intro k i h0 h1 hd hk
    obtain ⟨k, rfl⟩ : ∃ m, k = m + 1 := ⟨k - 1, by omega⟩
    have hlt : i < (xs.length : Int) := by omega
    have hw := wrap_small h0 hlt hn
    have hI := ih k (i + 1) (by omega) (by omega) (by omega) (by omega)
    rw [take_at xs i h0 hlt real] at hI
    simp only [clepsydralaw30_best.l0]
    rw [if_pos hlt, if_pos h0, hw]
    by_cases hb : ((rd_T34 xs i).f0 == real) = true
    · rw [if_pos hb] at hI ⊢
      rw [minW_snoc] at hI
      have hne : (!(endsOf (xs.take i.toNat) real ++ [(rd_T34 xs i).f1.f1]).isEmpty) = true := by simp
      rw [hne] at hI
      by_cases hx : (rd_T34 xs i).f1.f1 < minW (endsOf (xs.take i.toNat) real)
      · rw [if_pos hx] at hI ⊢; exact hI
      · rw [if_neg hx] at hI ⊢; exact hI
    · rw [if_neg hb] at hI ⊢; exact hI
theorem best_true (xs : List S34) (real : Bool) (now : Int) (hn : (xs.length : Int) ≤ 300) : clepsydralaw30_best.f 400 xs real now = some (bestOf xs real now) :=
  best_tells xs real now hn xs.length 400 0 (by omega) (by omega) (by omega) (by omega)

theorem ask_true (l : List S34) (a b : Int) : clepsydralaw30_WakeAsk.f 400 l a b = some true := by
  unfold clepsydralaw30_WakeAsk.f
  rw [works_true]
  by_cases h : (l.length : Int) > 300
  · rw [if_pos h]; rfl
  · rw [if_neg h]
    unfold wake_Ask.f wake_Best.f
    rw [best_true _ _ _ (by omega), best_true _ _ _ (by omega)]
    simp

theorem both_true (a b : List S34) (real : Bool) (now : Int) (hn : now ≤ 9223372036854775807) : clepsydralaw30_WakeBoth.f 1 a b real now = some true := by
  unfold clepsydralaw30_WakeBoth.f
  by_cases h : (a.length : Int) > 200
  · rw [if_pos h]; simp only [clepsydralaw30_WakeBoth.j0]; rw [works_true]; rfl
  · rw [if_neg h]
    by_cases h2 : (b.length : Int) > 200
    · simp only [clepsydralaw30_WakeBoth.j0]; rw [works_true, if_pos (decide_eq_true h2)]; rfl
    · simp only [clepsydralaw30_WakeBoth.j0]
      rw [if_neg (by simpa using h2), if_pos (by simp; omega)]
      simp only [Option.bind_some]
      rw [if_pos (by simp; omega)]
      unfold wake_Best.f
      simp only [Option.bind_some]
      rw [works_true, if_pos]
      · rfl
      · rw [List.nil_append, bestOf_both _ _ _ _ hn]; rfl

theorem rd_mem (xs : List S34) (i : Int) (h0 : 0 ≤ i) (h : i < (xs.length : Int)) : rd_T34 xs i ∈ xs := by
  have hl : i.toNat < xs.length := by omega
  unfold rd_T34
  rw [List.getD_eq_getElem?_getD, List.getElem?_eq_getElem hl]
  exact List.getElem_mem hl

/-- The state of the loop of WakeServes behind some windows. -/
structure ServesS (e : List Int) (now w later : Int) (over any late : Bool) : Prop where
  any : any = !e.isEmpty
  over : over = true → ∃ t ∈ e, t < now
  late : w ≤ 4611686018427387904 → ∀ t ∈ e, t ≤ w → late = true

theorem late_of {w t later : Int} (hl : 0 ≤ later) (hl2 : later < 4294967296) (hw : w ≤ 4611686018427387904) (hw0 : -9223372036854775808 ≤ w) (h : t ≤ w) : decide (t < wrap64 (wrap64 (w + 1) + wrap64 later)) = true := by
  apply decide_eq_true
  unfold wrap64; omega

theorem serves_skip (k : Nat) (xs : List S34) (real : Bool) (now later w i : Int) (over any late : Bool) (h0 : 0 ≤ i) (h : i < (xs.length : Int)) (hft : ¬ (rd_T34 xs i).f1.f0 > (rd_T34 xs i).f1.f1) (hm : ¬ ((rd_T34 xs i).f0 == real) = true) :
    clepsydralaw30_WakeServes.l0 (k + 1) xs real now later w over any late i = clepsydralaw30_WakeServes.l0 k xs real now later w over any late (wrap64 (i + 1)) := by
  simp only [clepsydralaw30_WakeServes.l0]
  rw [if_pos h, if_pos h0, if_neg hft, if_pos (by simpa [bne] using hm)]

theorem serves_step (k : Nat) (xs : List S34) (real : Bool) (now later w i : Int) (over any late : Bool) (h0 : 0 ≤ i) (h : i < (xs.length : Int)) (hft : ¬ (rd_T34 xs i).f1.f0 > (rd_T34 xs i).f1.f1) (hm : ((rd_T34 xs i).f0 == real) = true)
    (hA : now ≤ (rd_T34 xs i).f1.f1 → w ≤ (rd_T34 xs i).f1.f1) :
    clepsydralaw30_WakeServes.l0 (k + 1) xs real now later w over any late i =
      clepsydralaw30_WakeServes.l0 k xs real now later w (over || decide ((rd_T34 xs i).f1.f1 < now)) true (late || decide ((rd_T34 xs i).f1.f1 < wrap64 (wrap64 (w + 1) + wrap64 later))) (wrap64 (i + 1)) := by
  simp only [clepsydralaw30_WakeServes.l0]
  rw [if_pos h, if_pos h0, if_neg hft, if_neg (by simpa [bne] using hm)]
  generalize (rd_T34 xs i).f1.f1 = t at *
  generalize (rd_T34 xs i).f1.f0 = s at *
  by_cases h1 : t ≥ now
  · have h2 : ¬ w > t := by have := hA h1; omega
    by_cases h3 : s ≤ w
    · have h4 : ¬ w < s := by omega
      cases over <;> cases late <;> simp [h1, h2, h3, h4]
    · cases over <;> cases late <;> simp [h1, h2, h3]
  · cases over <;> cases late <;> simp [h1]

theorem serves_tells (xs : List S34) (real : Bool) (now later : Int) (hn : (xs.length : Int) ≤ 300) (hnow : -9223372036854775808 ≤ now ∧ now ≤ 9223372036854775807) (hl : 0 ≤ later ∧ later < 4294967296) (hfit : ∀ x ∈ xs, Fit x) (d : Nat) :
    ∀ (k : Nat) (i : Int) (over any late : Bool), 0 ≤ i → i ≤ xs.length → (xs.length : Int) - i = d → d < k →
    ServesS (endsOf (xs.take i.toNat) real) now (bestOf xs real now) later over any late →
    clepsydralaw30_WakeServes.l0 k xs real now later (bestOf xs real now) over any late i = some true := by
  have hw0 := bestOf_now xs real now hnow.2
  have hwt := bestOf_top xs real now hnow.2
  induction d with
  | zero =>
    intro k i over any late h0 h1 hd hk hS
    obtain ⟨k, rfl⟩ : ∃ m, k = m + 1 := ⟨k - 1, by omega⟩
    have e : xs.take i.toNat = xs := List.take_of_length_le (by omega)
    rw [e] at hS
    simp only [clepsydralaw30_WakeServes.l0]
    rw [if_neg (by omega), works_true]
    obtain ⟨ha, ho, hla⟩ := hS
    by_cases he : endsOf xs real = []
    · have hb : bestOf xs real now = 9223372036854775807 := by unfold bestOf; rw [if_pos he]
      have : any = false := by rw [ha, he]; rfl
      subst this
      rw [hb]; rfl
    · have : any = true := by rw [ha]; simpa using he
      subst this
      have hmin := minW_in he (fun x hx => by
        obtain ⟨y, hy, _, rfl⟩ := ends_mem.1 hx
        exact (hfit y hy).2.2)
      have hle : minW (endsOf xs real) ≤ bestOf xs real now := by
        unfold bestOf; rw [if_neg he]; split <;> omega
      have hov : over = true → bestOf xs real now = now := fun h => by
        obtain ⟨t, ht, hlt⟩ := ho h
        have := minW_le_mem ht
        unfold bestOf; rw [if_neg he, if_pos (by omega)]
      rw [if_pos rfl, if_neg (by omega)]
      have hll : ∀ b : Option Bool, b = some true → (if late = true then ((some true).bind fun t129 => (some t129)) else (if bestOf xs real now > 4611686018427387904 then ((some true).bind fun t130 => (some t130)) else (some false))) = b := by
        rintro b rfl
        by_cases hb : bestOf xs real now > 4611686018427387904
        · rw [if_pos hb]; split <;> rfl
        · have : late = true := hla (by omega) _ hmin hle
          rw [if_pos this]; rfl
      by_cases hoo : over = true
      · rw [if_pos hoo, if_pos (hov hoo)]; exact hll _ rfl
      · rw [if_neg hoo]; exact hll _ rfl
  | succ d ih =>
    intro k i over any late h0 h1 hd hk hS
    obtain ⟨k, rfl⟩ : ∃ m, k = m + 1 := ⟨k - 1, by omega⟩
    have hlt : i < (xs.length : Int) := by omega
    have hw := wrap_small h0 hlt hn
    by_cases hft : (rd_T34 xs i).f1.f0 > (rd_T34 xs i).f1.f1
    · simp only [clepsydralaw30_WakeServes.l0]
      rw [if_pos hlt, if_pos h0, if_pos hft, works_true]; rfl
    · have ht := take_at xs i h0 hlt real
      by_cases hm : ((rd_T34 xs i).f0 == real) = true
      · have hmem : (rd_T34 xs i).f1.f1 ∈ endsOf xs real := ends_mem.2 ⟨_, rd_mem xs i h0 hlt, by simpa using hm, rfl⟩
        have hne : endsOf xs real ≠ [] := fun k => by rw [k] at hmem; exact absurd hmem (by simp)
        have hmin := minW_le_mem hmem
        rw [serves_step k xs real now later _ i over any late h0 hlt hft hm (fun h => by
          unfold bestOf; rw [if_neg hne]; split <;> omega), hw]
        refine ih k (i + 1) _ _ _ (by omega) (by omega) (by omega) (by omega) ?_
        rw [ht, if_pos hm]
        obtain ⟨ha, ho, hla⟩ := hS
        refine ⟨by simp, fun h => ?_, fun hb t htm hle => ?_⟩
        · rcases (Bool.or_eq_true _ _).mp h with h | h
          · obtain ⟨t, ht, hh⟩ := ho h
            exact ⟨t, List.mem_append.2 (.inl ht), hh⟩
          · exact ⟨_, List.mem_append.2 (.inr (by simp)), of_decide_eq_true h⟩
        · rcases List.mem_append.1 htm with h | h
          · rw [hla hb t h hle]; rfl
          · obtain rfl : t = (rd_T34 xs i).f1.f1 := by simpa using h
            rw [late_of hl.1 hl.2 hb (by omega) hle, Bool.or_true]
      · rw [serves_skip k xs real now later _ i over any late h0 hlt hft hm, hw]
        refine ih k (i + 1) _ _ _ (by omega) (by omega) (by omega) (by omega) ?_
        rw [ht, if_neg hm]; exact hS
theorem serves_true (xs : List S34) (real : Bool) (now later : Int) (hnow : -9223372036854775808 ≤ now ∧ now ≤ 9223372036854775807) (hl : 0 ≤ later ∧ later < 4294967296) (hfit : ∀ x ∈ xs, Fit x) :
    clepsydralaw30_WakeServes.f 400 xs real now later = some true := by
  unfold clepsydralaw30_WakeServes.f
  by_cases h : (xs.length : Int) > 300
  · rw [if_pos h, works_true]; rfl
  · rw [if_neg h]
    unfold wake_Best.f
    simp only [Option.bind_some]
    refine serves_tells xs real now later (by omega) hnow hl hfit xs.length 400 0 false false false (by omega) (by omega) (by omega) (by omega) ⟨rfl, (fun h => by cases h), fun _ t ht => ?_⟩
    simp [endsOf] at ht

/-! ### WakeOrder -/
def place (n : Nat) (turn : Int) (i : Int) : Int := (n - 1 - i + turn) % n
theorem place_range {n : Nat} {turn i : Int} (h0 : 0 ≤ i) (h : i < (n : Int)) : 0 ≤ place n turn i ∧ place n turn i < (n : Int) := by
  unfold place
  exact ⟨Int.emod_nonneg _ (by omega), Int.emod_lt_of_pos _ (by omega)⟩
theorem place_back {n : Nat} {turn i : Int} (h0 : 0 ≤ i) (h : i < (n : Int)) : place n turn (place n turn i) = i := by
  unfold place
  have e : ((n : Int) - 1 - ((n : Int) - 1 - i + turn) % n + turn) % n = ((n : Int) - 1 - ((n : Int) - 1 - i + turn) + turn) % n := by
    rw [Int.add_emod, Int.sub_emod, Int.emod_emod_of_dvd _ (Int.dvd_refl _), ← Int.sub_emod, ← Int.add_emod]
  rw [e, show (n : Int) - 1 - ((n : Int) - 1 - i + turn) + turn = i by omega]
  exact Int.emod_eq_of_lt h0 h
theorem wrap_place {n : Nat} {turn i : Int} (hn : (n : Int) ≤ 300) (ht : 0 ≤ turn ∧ turn < 256) (h0 : 0 ≤ i) (h : i < (n : Int)) :
    Int.tmod (wrap64 ((wrap64 ((wrap64 ((n : Int) - 1)) - i)) + (wrap64 turn))) (n : Int) = place n turn i := by
  have e1 : wrap64 ((n : Int) - 1) = (n : Int) - 1 := by unfold wrap64; omega
  have e2 : wrap64 turn = turn := by unfold wrap64; omega
  have e3 : wrap64 ((n : Int) - 1 - i) = (n : Int) - 1 - i := by unfold wrap64; omega
  have e4 : wrap64 ((n : Int) - 1 - i + turn) = (n : Int) - 1 - i + turn := by unfold wrap64; omega
  rw [e1, e2, e3, e4, Int.tmod_eq_emod_of_nonneg (by omega)]
  rfl
def upto (xs : List S34) (turn : Int) (m : Nat) : List S34 := (List.range m).map fun (j : Nat) => rd_T34 xs (place xs.length turn (j : Int))
theorem upto_succ (xs : List S34) (turn : Int) (m : Nat) : upto xs turn (m + 1) = upto xs turn m ++ [rd_T34 xs (place xs.length turn (m : Int))] := by
  simp [upto, List.range_succ]
theorem upto_mem (xs : List S34) (turn : Int) (x : S34) : x ∈ upto xs turn xs.length ↔ x ∈ xs := by
  unfold upto
  rw [List.mem_map]
  constructor
  · rintro ⟨j, hj, rfl⟩
    have hj' := List.mem_range.1 hj
    obtain ⟨h1, h2⟩ := place_range (n := xs.length) (turn := turn) (i := (j : Int)) (by omega) (by omega)
    exact rd_mem xs _ h1 h2
  · intro hx
    obtain ⟨i, hi, rfl⟩ := List.mem_iff_getElem.1 hx
    obtain ⟨h1, h2⟩ := place_range (n := xs.length) (turn := turn) (i := (i : Int)) (by omega) (by omega)
    refine ⟨(place xs.length turn i).toNat, List.mem_range.2 (by omega), ?_⟩
    rw [Int.toNat_of_nonneg h1, place_back (by omega) (by omega)]
    unfold rd_T34
    rw [Int.toNat_natCast, List.getD_eq_getElem?_getD, List.getElem?_eq_getElem hi]; rfl
theorem eta34 (x : S34) : (⟨x.f0, (⟨x.f1.f0, x.f1.f1⟩ : S32)⟩ : S34) = x := rfl

theorem order_tells (xs : List S34) (turn : Int) (m0 : Bool) (m1 m2 re mo : Int) (hn : (xs.length : Int) ≤ 300) (ht : 0 ≤ turn ∧ turn < 256) (hr : re ≤ 9223372036854775807) (hm : mo ≤ 9223372036854775807) (d : Nat) :
    ∀ (k i : Nat), i ≤ xs.length → xs.length - i = d → d < k →
    clepsydralaw30_WakeOrder.l0 k xs turn (upto xs turn i) (i : Int) m0 m1 m2 re mo = some true := by
  induction d with
  | zero =>
    intro k i h1 hd hk
    obtain ⟨k, rfl⟩ : ∃ m, k = m + 1 := ⟨k - 1, by omega⟩
    obtain rfl : i = xs.length := by omega
    simp only [clepsydralaw30_WakeOrder.l0]
    have hl : (upto xs turn xs.length).length = xs.length := by simp [upto]
    unfold wake_Ask.f
    rw [if_neg (by omega)]
    simp only [Option.bind_some]
    rw [if_pos (by omega), works_true]
    have hs := upto_mem xs turn
    have hmore : ∀ x, x ∈ xs → x ∈ upto xs turn xs.length ++ [(⟨m0, (⟨m1, m2⟩ : S32)⟩ : S34)] := fun x hx => List.mem_append.2 (.inl ((hs x).2 hx))
    rw [if_pos (bestOf_perm fun x => (hs x).symm), if_pos (bestOf_perm fun x => (hs x).symm), if_pos (bestOf_more hr hmore), if_pos (bestOf_more hm hmore)]
    have a1 := bestOf_now (upto xs turn xs.length ++ [(⟨m0, (⟨m1, m2⟩ : S32)⟩ : S34)]) true re hr
    have a2 := bestOf_now (upto xs turn xs.length ++ [(⟨m0, (⟨m1, m2⟩ : S32)⟩ : S34)]) false mo hm
    rw [if_pos (show mx _ re = _ by unfold mx; rw [if_neg (by omega)]), if_pos (show mx _ mo = _ by unfold mx; rw [if_neg (by omega)])]
    split <;> rfl
  | succ d ih =>
    intro k i h1 hd hk
    obtain ⟨k, rfl⟩ : ∃ m, k = m + 1 := ⟨k - 1, by omega⟩
    have hlt : (i : Int) < (xs.length : Int) := by omega
    have hw := wrap_small (by omega : (0 : Int) ≤ i) hlt hn
    obtain ⟨p1, p2⟩ := place_range (n := xs.length) (turn := turn) (i := (i : Int)) (by omega) hlt
    have hl : (upto xs turn i).length = i := by simp [upto]
    have hI := ih k (i + 1) (by omega) (by omega) (by omega)
    rw [upto_succ] at hI
    simp only [clepsydralaw30_WakeOrder.l0]
    rw [if_pos hlt, if_neg (by omega), wrap_place hn ht (by omega) hlt, if_pos p1, if_pos p2, if_pos (by omega), hw]
    exact hI
theorem order_true (xs : List S34) (m0 : Bool) (m1 m2 re mo turn : Int) (ht : 0 ≤ turn ∧ turn < 256) (hr : re ≤ 9223372036854775807) (hm : mo ≤ 9223372036854775807) :
    clepsydralaw30_WakeOrder.f 400 xs m0 m1 m2 re mo turn = some true := by
  unfold clepsydralaw30_WakeOrder.f
  by_cases h : (xs.length : Int) > 300
  · rw [if_pos h, works_true]; rfl
  · rw [if_neg h]
    have := order_tells xs turn m0 m1 m2 re mo (by omega) ht hr hm xs.length 400 0 (by omega) (by omega) (by omega)
    simpa [upto] using this
end Go.Proofs.Ytifeepkknlglbaa.All
