/- The contract of rate.counts: slices.IndexFunc with a closure, slices.Clone. -/
import Derived.Lib.Hide
import Derived.Lib.SliceRun
import Derived.Lib.Walk
import Derived.WalkSpells
import Derived.Test.YteceacbnfgjkfaaA0
namespace Go.Proofs.Yteceacbnfgjkfaa.Cnt
open Go.RowKit
open Go.Proofs.YteceacbnfgjkfaaW.PrintWords (Kd ReadsOf)
open Go.Proofs.Yteceacbnfgjkfaa.All (info2)
open Go.Proofs.YteceacbnfgjkfaaW.PrintMore in
attribute [local go_sem] max2_int min2_int max_two min_two

/-- Does a start count? -/
def cntB (now interval t : Int) : Bool := interval == 9223372036854775807 || decide (wrap64 (now - interval) < t)

theorem pred_yes (Bi Bn : Nat) (now interval t : Int) (w : World) (hi : w.cell? ⟨Bi, 0, none⟩ = some (.int .i64 interval)) (hn : w.cell? ⟨Bn, 0, none⟩ = some (.int .i64 now)) :
    Calls Try.prog 18 #[.int .i64 t, .pointer (some ⟨Bi, 0, none⟩), .pointer (some ⟨Bn, 0, none⟩)] w fun e w' => e = .returned (.bool (cntB now interval t)) ∧ w' = w := by
  by_cases h1 : (interval == 9223372036854775807) = true
  · have hr : cntB now interval t = true := by unfold cntB; rw [h1]; rfl
    have HR := Lib.hid hr
    clear hr
    go_enter Try.func18, Try.ntmps18
    go_wp2
    go_ret
    exact ⟨by rw [HR.out]; rfl, rfl⟩
  · replace h1 : (interval == 9223372036854775807) = false := by simpa using h1
    have hr : cntB now interval t = decide (wrap64 (now - interval) < t) := by unfold cntB; rw [h1]; rfl
    have HR := Lib.hid hr
    clear hr
    go_enter Try.func18, Try.ntmps18
    go_wp2
    go_ret
    exact ⟨by rw [HR.out]; rfl, rfl⟩

def firstOf (p : Int → Bool) (xs : List Int) : Int := match xs.findIdx? p with | some i => (i : Int) | none => -1

theorem first_at (p : Int → Bool) (xs : List Int) (k : Nat) (hk : k < xs.length) (h : p (xs.getD k 0) = true) (hb : ∀ j, j < k → p (xs.getD j 0) = false) : firstOf p xs = (k : Int) := by
  unfold firstOf
  have : xs.findIdx? p = some k := by
    rw [List.findIdx?_eq_some_iff_getElem]
    refine ⟨hk, ?_, fun j hj => ?_⟩
    · simpa [List.getD_eq_getElem?_getD, List.getElem?_eq_getElem hk] using h
    · have := hb j hj
      have hj' : j < xs.length := by omega
      simpa [List.getD_eq_getElem?_getD, List.getElem?_eq_getElem hj'] using this
  rw [this]
theorem first_none (p : Int → Bool) (xs : List Int) (hb : ∀ j, j < xs.length → p (xs.getD j 0) = false) : firstOf p xs = -1 := by
  unfold firstOf
  have : xs.findIdx? p = none := by
    rw [List.findIdx?_eq_none_iff]
    intro x hx
    obtain ⟨j, hj, rfl⟩ := List.mem_iff_getElem.1 hx
    have := hb j hj
    simpa [List.getD_eq_getElem?_getD, List.getElem?_eq_getElem hj] using this
  rw [this]

set_option maxRecDepth 100000 in
set_option maxHeartbeats 1000000 in
theorem index_calls (A : Option Addr) (c : Nat) (xs : List Int) (Bi Bn : Nat) (now interval : Int) (w : World) (hC : ReadsOf (Value.int .i64) 0 w A xs.length xs) (hi : w.cell? ⟨Bi, 0, none⟩ = some (.int .i64 interval)) (hn : w.cell? ⟨Bn, 0, none⟩ = some (.int .i64 now)) :
    Calls Try.prog 17 #[.slice A xs.length c, .func (.func 18) #[] #[.pointer (some ⟨Bi, 0, none⟩), .pointer (some ⟨Bn, 0, none⟩)]] w fun e w' => e = .returned (.int .i64 (firstOf (cntB now interval) xs)) ∧ w' = w := by
  have hp := fun t => pred_yes Bi Bn now interval t w hi hn
  have HP := Lib.hid hp
  have HC := Lib.hid hC
  have hmax : xs.length ≤ 9223372036854775807 := hC.2.1
  clear hp hC hi hn
  go_enter Try.func17, Try.ntmps17
  go_wp2
  go_loop [8] (fun i => ∃ k : Nat, k ≤ xs.length ∧ i = .int .i64 k ∧ Hid (∀ j, j < k → cntB now interval (xs.getD j 0) = false)) (fun i => xs.length - (intOf i).toNat)
  case atStart => exact ⟨0, Nat.zero_le _, rfl, Lib.hid (fun j hj => absurd hj (Nat.not_lt_zero j))⟩
  case round =>
    obtain ⟨k, hk, rfl, hb⟩ := hrel
    by_cases hlt : k < xs.length
    · obtain ⟨ad, e, hcs⟩ := HC.out.2.2 (by omega)
      cases e
      have hc := hcs k hlt
      clear hcs
      by_cases hq : cntB now interval (xs.getD k 0) = true
      · have hr := first_at (cntB now interval) xs k hlt hq hb.out
        have hcall := (HP.out (xs.getD k 0))
        rw [hq] at hcall
        generalize xs.getD k 0 = x at *
        have HR := Lib.hid hr
        have HL := Lib.hid hcall
        clear hr hcall hq
        go_wp2_with (go_at_call 18; refine HL.out.mono ?_; rintro e w' ⟨rfl, rfl⟩)
        go_ret
        exact ⟨by rw [HR.out]; rfl, rfl⟩
      · replace hq : cntB now interval (xs.getD k 0) = false := by simpa using hq
        have hb' : Hid (∀ j, j < k + 1 → cntB now interval (xs.getD j 0) = false) := Lib.hid (fun j hj => by
          by_cases h : j = k
          · rw [h]; exact hq
          · exact hb.out j (by omega))
        have hcall := (HP.out (xs.getD k 0))
        rw [hq] at hcall
        generalize xs.getD k 0 = x at *
        have HL := Lib.hid hcall
        clear hcall hq
        go_wp2_with (go_at_call 18; refine HL.out.mono ?_; rintro e w' ⟨rfl, rfl⟩)
        go_round
        case rel => exact ⟨k + 1, by omega, by go_num, hb'⟩
        case measure => simp [intOf]; omega
    · obtain rfl : k = xs.length := by omega
      have hr := first_none (cntB now interval) xs hb.out
      have HR := Lib.hid hr
      clear hr
      go_wp2
      go_ret
      exact ⟨by rw [HR.out]; rfl, rfl⟩

set_option maxHeartbeats 2000000 in
set_option maxRecDepth 100000 in
theorem clone_calls (ad : Addr) (c : Nat) (xs : List Int) (w : World) (hbig : xs.length * 8 ≤ 140737488355328) (hc : ∀ j, j < xs.length → w.cell? (ad.add j) = some (.int .i64 (xs.getD j 0))) :
    Calls Try.prog 19 #[.slice (some ad) xs.length c] w fun e w' => ∃ v', e = .returned v' ∧ w'.ownsRow w.heap.size 2 1 v' xs.length (xs.map (Value.int .i64)) ∧ Below w.heap.size w w' := by
  obtain ⟨i0, hi, hz0, hz1, hz2⟩ := info_parts info2
  have q22 : ∀ (w : World) (a : Option Addr) (n c n' c' : Nat), (binOp .eql 26 (.slice a n c) (.slice none n' c')).run Try.prog w = .ok (.bool a.isNone) w := fun w a n c n' c' => Lib.run_eql_slice_nil w _ _ a n c n' c' Try.underlying26
  have HC := Lib.hid hc
  clear hc
  go_enter Try.func19, Try.ntmps19
  go_wp2_with (at_builtin; refine wpList_append_own _ rfl _ _ 26 rfl w.heap.size 2 i0 (.int .i64 0) 1 8 Try.underlying26 hi hz0 hz1 hz2 rfl (by decide) _ _ _ rfl (World.ownsRow_made w #[] 0 (Nat.le_refl _) (Nat.zero_le _) rfl) ad xs.length c (xs.map (Value.int .i64)) rfl ?qc1 ?qc2 ?qc3 ?qc4 ?qc5 ?qc6 ?_)
  case qc1 => simp
  case qc2 =>
    intro j u hj
    have hjn : j < xs.length := by
      have := (List.getElem?_eq_some_iff.1 hj).1
      simpa using this
    refine Lib.cell?_alloc_some _ ?_
    rw [HC.out j hjn]
    have e : (xs.map (Value.int .i64))[j]? = some (Value.int .i64 (xs.getD j 0)) := by simp [List.getD, List.getElem?_eq_getElem hjn]
    rw [e] at hj
    exact hj
  case qc3 => intro u hu; obtain ⟨x, _, rfl⟩ := List.mem_map.1 hu; rfl
  case qc4 => unfold maxLen; omega
  case qc5 => omega
  case qc6 => simp
  intro v' w1 hown hgrow hnil
  go_wp2
  go_ret
  refine ⟨v', rfl, by simpa using hown, ?_⟩
  exact ((Below.refl _ w).alloc (Nat.le_refl _) _).grown hgrow (by simp) (by intro k hk; simp [Value.ownBlock] at hk; omega)

theorem cells_drop {w W : World} {ad : Addr} {xs : List Int} (h : ∀ j, j < xs.length → w.cell? (ad.add j) = some (.int .i64 (xs.getD j 0))) (hb : Below w.heap.size w W) (n j : Nat) (hj : n + j < xs.length) :
    W.cell? ((ad.add n).add j) = some (.int .i64 ((xs.drop n).getD j 0)) := by
  rw [Addr.add_add]
  have := h (n + j) hj
  rw [(hb.cell (World.block_lt_of_cell? w _ this)).trans this]
  simp [List.getD_eq_getElem?_getD]
theorem own_low {w : World} {b b' : Nat} {e : TypeId} {size n : Nat} {v : Value} {xs : List Value} (h : w.ownsRow b' e size v n xs) (hb : b ≤ b') : w.ownsRow b e size v n xs := by
  obtain ⟨h1, h2⟩ := h
  refine ⟨h1, ?_⟩
  rcases h2 with h2 | ⟨g, cap, cur, e1, hg, r⟩
  · exact .inl h2
  · exact .inr ⟨g, cap, cur, e1, Nat.le_trans hb hg, r⟩
/-- The starts that count. -/
def countsOf (xs : List Int) (now interval burst : Int) : List Int :=
  match xs.findIdx? (cntB now interval) with
  | none => []
  | some n => (xs.drop n).drop ((xs.drop n).length - burst.toNat)

set_option maxHeartbeats 1000000 in
set_option maxRecDepth 100000 in
theorem counts_calls (A : Option Addr) (c : Nat) (xs : List Int) (now interval burst : Int) (w : World) (hC : ReadsOf (Value.int .i64) 0 w A xs.length xs) (hcap : xs.length ≤ c) (hbig : xs.length * 8 ≤ 140737488355328) (hb1 : 1 ≤ burst) (hb2 : burst ≤ 9223372036854775807) :
    Calls Try.prog 14 #[.slice A xs.length c, .int .i64 now, .int .i64 interval, .int .i64 burst] w fun e w' => ∃ v', e = .returned v' ∧ w'.ownsRow w.heap.size 2 1 v' (countsOf xs now interval burst).length ((countsOf xs now interval burst).map (Value.int .i64)) ∧ Below w.heap.size w w' := by
  have hB0 : Below w.heap.size w ((w.alloc (.cells #[.int .i64 now] 2)).alloc (.cells #[.int .i64 interval] 2)) := ((Below.refl _ w).alloc (Nat.le_refl _) _).alloc (by simp) _
  have hi := index_calls A c xs (w.heap.size + 1) w.heap.size now interval ((w.alloc (.cells #[.int .i64 now] 2)).alloc (.cells #[.int .i64 interval] 2)) (hC.below hB0)
    (by simp) (by simp)
  cases hf : xs.findIdx? (cntB now interval) with
  | none =>
    have hr : firstOf (cntB now interval) xs = -1 := by unfold firstOf; rw [hf]
    have hc : countsOf xs now interval burst = [] := by unfold countsOf; rw [hf]
    rw [hr] at hi
    rw [hc]
    have HI := Lib.hid hi
    have HB := Lib.hid hB0
    clear hi hr hc hf hC hB0
    go_enter Try.func14, Try.ntmps14
    go_wp2_with (go_at_call 17; refine HI.out.mono ?_; rintro e w' ⟨rfl, rfl⟩)
    go_ret
    exact ⟨_, rfl, World.ownsRow_nil _ _ _ _, HB.out⟩
  | some n =>
    have hn : n < xs.length := (List.findIdx?_eq_some_iff_getElem.1 hf).1
    have hr : firstOf (cntB now interval) xs = (n : Int) := by unfold firstOf; rw [hf]
    have hc : countsOf xs now interval burst = (xs.drop n).drop ((xs.drop n).length - burst.toNat) := by unfold countsOf; rw [hf]
    rw [hr] at hi
    rw [hc]
    obtain ⟨ad, e, hcs⟩ := hC.2.2 (by omega)
    cases e
    have hmax : xs.length ≤ 9223372036854775807 := hC.2.1
    have HI := Lib.hid hi
    have HB := Lib.hid hB0
    have HC := Lib.hid hcs
    clear hi hr hc hf hC hB0 hcs
    have hl : (xs.drop n).length = xs.length - n := by simp
    go_enter Try.func14, Try.ntmps14
    go_wp2_with (go_at_call 17; refine HI.out.mono ?_; rintro e w' ⟨rfl, rfl⟩)
    · have h : burst < ((xs.length - n : Nat) : Int) := by assumption
      obtain ⟨q, hq⟩ : ∃ q, (((xs.length - n : Nat) : Int) - burst).toNat = q := ⟨_, rfl⟩
      have hq2 : xs.length - n - burst.toNat = q := by omega
      have hl2 : ((xs.drop n).drop q).length = xs.length - n - q := by rw [List.length_drop, hl]
      have hd : (xs.drop n).drop ((xs.drop n).length - burst.toNat) = (xs.drop n).drop q := by rw [hl, hq2]
      rw [hq]
      have hk := clone_calls ((ad.add n).add q) (c - n - q) ((xs.drop n).drop q) _ (by rw [hl2]; omega) (fun j hj => by
        rw [Addr.add_add ad n q, List.drop_drop]
        exact cells_drop (W := (w.alloc (.cells #[.int .i64 now] 2)).alloc (.cells #[.int .i64 interval] 2)) HC.out HB.out (n + q) j (by rw [hl2] at hj; omega))
      rw [hl2] at hk
      refine hk.mono ?_
      rintro e w' ⟨v', rfl, hown, hb⟩
      go_wp2
      go_ret
      exact ⟨v', rfl, by rw [hd, hl2]; exact own_low hown (by simp; omega), HB.out.trans (hb.mono (by simp; omega))⟩
    · have h : ((xs.length - n : Nat) : Int) ≤ burst := by assumption
      have hd : (xs.drop n).drop ((xs.drop n).length - burst.toNat) = xs.drop n := by
        rw [hl, show xs.length - n - burst.toNat = 0 from by omega, List.drop_zero]
      have hq := clone_calls (ad.add n) (c - n) (xs.drop n) _ (by rw [hl]; omega) (fun j hj => cells_drop (W := (w.alloc (.cells #[.int .i64 now] 2)).alloc (.cells #[.int .i64 interval] 2)) HC.out HB.out n j (by rw [hl] at hj; omega))
      rw [hl] at hq
      refine hq.mono ?_
      rintro e w' ⟨v', rfl, hown, hb⟩
      go_wp2
      go_ret
      exact ⟨v', rfl, by rw [hd, hl]; exact own_low hown (by simp; omega), HB.out.trans (hb.mono (by simp; omega))⟩
end Go.Proofs.Yteceacbnfgjkfaa.Cnt
