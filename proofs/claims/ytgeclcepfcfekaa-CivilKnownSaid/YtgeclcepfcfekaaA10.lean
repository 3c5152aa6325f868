/- Printed by this session's own program (wip/tools/xprint.py) with the help of the kit's print: functions as Lean functions, each with its contract over the translation. -/
import Derived.Test.YtgeclcepfcfekaaA8
import Derived.Test.YtgeclcepfcfekaaA9
import Derived.Test.YtgeclcepfcfekaaA5
namespace Go.Proofs.Ytgeclcepfcfekaa.All
open Go.RowKit Go.Proofs.YtgeclcepfcfekaaW.PrintWords Go.Proofs.YtgeclcepfcfekaaW.PrintLast Go.Proofs.YtgeclcepfcfekaaW.PrintMore
attribute [local go_sem] max2_int min2_int max_two min_two max_three min_three max_four min_four   -- for this text's walks alone
set_option linter.unusedVariables false
set_option linter.unusedSimpArgs false


/-! ### clepsydralaw03_CivilKnown: function 8 -/
mutual
def clepsydralaw03_CivilKnown.l0 : Nat → List Int → Int → Int → Option (Bool)
  | 0, _, _, _ => none
  | k + 1, x11, x12, x13 => if x13 < x12 then (if 0 ≤ x13 then (if x13 < (x11.length : Int) then (clepsydralaw03_CivilKnown.l1 k (rd x11 x13) (-1) x11 x12 x13) else (none)) else (none)) else ((some (([(-719163), (-719162), (-719161), (-719468), (-1), 0, 1, 58, 59, 60, 789, 790, 10956, 10957, 11015, 11016, 11017, 146096, 146097, 2932895, 2932896, 2932897, 4611686018427387904, (-9223372036854775808)] : List Int) : List Int)).bind fun y292 => (clepsydralaw03_CivilKnown.l3 k y292 (y292.length : Int) 0))
def clepsydralaw03_CivilKnown.l1 : Nat → Int → Int → List Int → Int → Int → Option (Bool)
  | 0, _, _, _, _, _ => none
  | k + 1, x2, x3, x11, x12, x13 => if x3 < 14 then ((some (([(-1), 0, 1, 2, 27, 28, 29, 30, 31, 32] : List Int) : List Int)).bind fun y287 => (clepsydralaw03_CivilKnown.l2 k x2 x3 x11 x12 x13 y287 (y287.length : Int) 0)) else (clepsydralaw03_CivilKnown.l0 k x11 x12 (wrap64 (x13 + 1)))
def clepsydralaw03_CivilKnown.l2 : Nat → Int → Int → List Int → Int → Int → List Int → Int → Int → Option (Bool)
  | 0, _, _, _, _, _, _, _, _ => none
  | k + 1, x2, x3, x11, x12, x13, x21, x22, x23 => if x23 < x22 then (if 0 ≤ x23 then (if x23 < (x21.length : Int) then ((clepsydralaw03_CivilDays.f k x2 x3 (rd x21 x23)).bind fun t291 => (if t291 = true then (clepsydralaw03_CivilKnown.l2 k x2 x3 x11 x12 x13 x21 x22 (wrap64 (x23 + 1))) else (none))) else (none)) else (none)) else (clepsydralaw03_CivilKnown.l1 k x2 (wrap64 (x3 + 1)) x11 x12 x13)
def clepsydralaw03_CivilKnown.l3 : Nat → List Int → Int → Int → Option (Bool)
  | 0, _, _, _ => none
  | k + 1, x35, x36, x37 => if x37 < x36 then (if 0 ≤ x37 then (if x37 < (x35.length : Int) then ((clepsydralaw03_CivilOf.f k (rd x35 x37)).bind fun t296 => (if t296 = true then ((clepsydralaw03_CivilFrom.f k (rd x35 x37)).bind fun t297 => (if t297 = true then (if (rd x35 x37) < 1099511627776 then (if (rd x35 x37) > (-1099511627776) then ((clepsydralaw03_CivilFrom.f k (wrap64 ((rd x35 x37) * 86400000000))).bind fun t298 => (if t298 = true then ((clepsydralaw03_CivilFrom.f k (wrap64 ((wrap64 ((rd x35 x37) * 86400000000)) - 1))).bind fun t299 => (if t299 = true then (clepsydralaw03_CivilKnown.l3 k x35 x36 (wrap64 (x37 + 1))) else (none))) else (none))) else (clepsydralaw03_CivilKnown.l3 k x35 x36 (wrap64 (x37 + 1)))) else (clepsydralaw03_CivilKnown.l3 k x35 x36 (wrap64 (x37 + 1)))) else (none))) else (none))) else (none)) else (none)) else ((some (([(⟨(⟨2024, 2, 29⟩ : S23), 0, 0, 0, 0⟩ : S41), (⟨(⟨2024, 2, 29⟩ : S23), 23, 59, 59, 999999⟩ : S41), (⟨(⟨2024, 2, 29⟩ : S23), 24, 0, 0, 0⟩ : S41), (⟨(⟨2024, 2, 29⟩ : S23), 0, 60, 0, 0⟩ : S41), (⟨(⟨2024, 2, 29⟩ : S23), 0, 0, 60, 0⟩ : S41), (⟨(⟨2024, 2, 29⟩ : S23), 0, 0, 0, 1000000⟩ : S41), (⟨(⟨2024, 2, 29⟩ : S23), (-1), 0, 0, 0⟩ : S41), (⟨(⟨2024, 2, 29⟩ : S23), 0, 0, 0, (-1)⟩ : S41), (⟨(⟨0, 0, 0⟩ : S23), 0, 0, 0, 0⟩ : S41)] : List (S41)) : List (S41))).bind fun y301 => (clepsydralaw03_CivilKnown.l4 k y301 (y301.length : Int) 0))
def clepsydralaw03_CivilKnown.l4 : Nat → List (S41) → Int → Int → Option (Bool)
  | 0, _, _, _ => none
  | k + 1, x89, x90, x91 => if x91 < x90 then (if 0 ≤ x91 then (if x91 < (x89.length : Int) then ((clepsydralaw03_CivilMicro.f k ((rd_T41 x89 x91).f0.f0) ((rd_T41 x89 x91).f0.f1) ((rd_T41 x89 x91).f0.f2) ((rd_T41 x89 x91).f1) ((rd_T41 x89 x91).f2) ((rd_T41 x89 x91).f3) ((rd_T41 x89 x91).f4)).bind fun t306 => (if t306 = true then (clepsydralaw03_CivilKnown.l4 k x89 x90 (wrap64 (x91 + 1))) else (none))) else (none)) else (none)) else ((clepsydralaw03_works.f k).bind fun t307 => (some t307))
end
def clepsydralaw03_CivilKnown.f (k : Nat)  : Option (Bool) := (some (([(-1), 0, 1, 2, 3, 4, 100, 400, 1582, 1600, 1900, 1969, 1970, 1972, 2000, 2023, 2024, 2100, 2199, 2200, 9996, 9999, 10000] : List Int) : List Int)).bind fun y283 => (clepsydralaw03_CivilKnown.l0 k y283 (y283.length : Int) 0)
theorem clepsydralaw03_CivilKnown.mono_l : ∀ k, (∀ y0 y1 y2, LeO (clepsydralaw03_CivilKnown.l0 k y0 y1 y2) (clepsydralaw03_CivilKnown.l0 (k + 1) y0 y1 y2)) ∧ (∀ y0 y1 y2 y3 y4, LeO (clepsydralaw03_CivilKnown.l1 k y0 y1 y2 y3 y4) (clepsydralaw03_CivilKnown.l1 (k + 1) y0 y1 y2 y3 y4)) ∧ (∀ y0 y1 y2 y3 y4 y5 y6 y7, LeO (clepsydralaw03_CivilKnown.l2 k y0 y1 y2 y3 y4 y5 y6 y7) (clepsydralaw03_CivilKnown.l2 (k + 1) y0 y1 y2 y3 y4 y5 y6 y7)) ∧ (∀ y0 y1 y2, LeO (clepsydralaw03_CivilKnown.l3 k y0 y1 y2) (clepsydralaw03_CivilKnown.l3 (k + 1) y0 y1 y2)) ∧ (∀ y0 y1 y2, LeO (clepsydralaw03_CivilKnown.l4 k y0 y1 y2) (clepsydralaw03_CivilKnown.l4 (k + 1) y0 y1 y2))
  | 0 => ⟨fun _ _ _ r h => by simp [clepsydralaw03_CivilKnown.l0] at h, fun _ _ _ _ _ r h => by simp [clepsydralaw03_CivilKnown.l1] at h, fun _ _ _ _ _ _ _ _ r h => by simp [clepsydralaw03_CivilKnown.l2] at h, fun _ _ _ r h => by simp [clepsydralaw03_CivilKnown.l3] at h, fun _ _ _ r h => by simp [clepsydralaw03_CivilKnown.l4] at h⟩
  | k + 1 => by
    obtain ⟨ih0, ih1, ih2, ih3, ih4⟩ := clepsydralaw03_CivilKnown.mono_l k
    refine ⟨?_, ?_, ?_, ?_, ?_⟩
    · intro y0 y1 y2
      unfold clepsydralaw03_CivilKnown.l0
      repeat' first
      | (with_reducible exact ih0 _ _ _)
      | (with_reducible exact ih1 _ _ _ _ _)
      | (with_reducible exact ih2 _ _ _ _ _ _ _ _)
      | (with_reducible exact ih3 _ _ _)
      | (with_reducible exact ih4 _ _ _)
      | (with_reducible exact clepsydralaw03_CivilDays.mono _ _ _ _)
      | (with_reducible exact clepsydralaw03_CivilFrom.mono _ _)
      | (with_reducible exact clepsydralaw03_CivilMicro.mono _ _ _ _ _ _ _ _)
      | (with_reducible exact clepsydralaw03_CivilOf.mono _ _)
      | (with_reducible exact clepsydralaw03_works.mono _)
      | (with_reducible exact LeO.refl _)
      | (with_reducible exact LeO.none _)
      | (with_reducible refine LeO.ite ?_ ?_)
      | (with_reducible refine LeO.bind ?_ (fun _ => ?_))
      | exact ih0 _ _ _
      | exact ih1 _ _ _ _ _
      | exact ih2 _ _ _ _ _ _ _ _
      | exact ih3 _ _ _
      | exact ih4 _ _ _
      | exact clepsydralaw03_CivilDays.mono _ _ _ _
      | exact clepsydralaw03_CivilFrom.mono _ _
      | exact clepsydralaw03_CivilMicro.mono _ _ _ _ _ _ _ _
      | exact clepsydralaw03_CivilOf.mono _ _
      | exact clepsydralaw03_works.mono _
      | exact LeO.none _
      | refine LeO.ite ?_ ?_
      | refine LeO.bind ?_ (fun _ => ?_)
    · intro y0 y1 y2 y3 y4
      unfold clepsydralaw03_CivilKnown.l1
      repeat' first
      | (with_reducible exact ih0 _ _ _)
      | (with_reducible exact ih1 _ _ _ _ _)
      | (with_reducible exact ih2 _ _ _ _ _ _ _ _)
      | (with_reducible exact ih3 _ _ _)
      | (with_reducible exact ih4 _ _ _)
      | (with_reducible exact clepsydralaw03_CivilDays.mono _ _ _ _)
      | (with_reducible exact clepsydralaw03_CivilFrom.mono _ _)
      | (with_reducible exact clepsydralaw03_CivilMicro.mono _ _ _ _ _ _ _ _)
      | (with_reducible exact clepsydralaw03_CivilOf.mono _ _)
      | (with_reducible exact clepsydralaw03_works.mono _)
      | (with_reducible exact LeO.refl _)
      | (with_reducible exact LeO.none _)
      | (with_reducible refine LeO.ite ?_ ?_)
      | (with_reducible refine LeO.bind ?_ (fun _ => ?_))
      | exact ih0 _ _ _
      | exact ih1 _ _ _ _ _
      | exact ih2 _ _ _ _ _ _ _ _
      | exact ih3 _ _ _
      | exact ih4 _ _ _
      | exact clepsydralaw03_CivilDays.mono _ _ _ _
      | exact clepsydralaw03_CivilFrom.mono _ _
      | exact clepsydralaw03_CivilMicro.mono _ _ _ _ _ _ _ _
      | exact clepsydralaw03_CivilOf.mono _ _
      | exact clepsydralaw03_works.mono _
      | exact LeO.none _
      | refine LeO.ite ?_ ?_
      | refine LeO.bind ?_ (fun _ => ?_)
    · intro y0 y1 y2 y3 y4 y5 y6 y7
      unfold clepsydralaw03_CivilKnown.l2
      repeat' first
      | (with_reducible exact ih0 _ _ _)
      | (with_reducible exact ih1 _ _ _ _ _)
      | (with_reducible exact ih2 _ _ _ _ _ _ _ _)
      | (with_reducible exact ih3 _ _ _)
      | (with_reducible exact ih4 _ _ _)
      | (with_reducible exact clepsydralaw03_CivilDays.mono _ _ _ _)
      | (with_reducible exact clepsydralaw03_CivilFrom.mono _ _)
      | (with_reducible exact clepsydralaw03_CivilMicro.mono _ _ _ _ _ _ _ _)
      | (with_reducible exact clepsydralaw03_CivilOf.mono _ _)
      | (with_reducible exact clepsydralaw03_works.mono _)
      | (with_reducible exact LeO.refl _)
      | (with_reducible exact LeO.none _)
      | (with_reducible refine LeO.ite ?_ ?_)
      | (with_reducible refine LeO.bind ?_ (fun _ => ?_))
      | exact ih0 _ _ _
      | exact ih1 _ _ _ _ _
      | exact ih2 _ _ _ _ _ _ _ _
      | exact ih3 _ _ _
      | exact ih4 _ _ _
      | exact clepsydralaw03_CivilDays.mono _ _ _ _
      | exact clepsydralaw03_CivilFrom.mono _ _
      | exact clepsydralaw03_CivilMicro.mono _ _ _ _ _ _ _ _
      | exact clepsydralaw03_CivilOf.mono _ _
      | exact clepsydralaw03_works.mono _
      | exact LeO.none _
      | refine LeO.ite ?_ ?_
      | refine LeO.bind ?_ (fun _ => ?_)
    · intro y0 y1 y2
      unfold clepsydralaw03_CivilKnown.l3
      repeat' first
      | (with_reducible exact ih0 _ _ _)
      | (with_reducible exact ih1 _ _ _ _ _)
      | (with_reducible exact ih2 _ _ _ _ _ _ _ _)
      | (with_reducible exact ih3 _ _ _)
      | (with_reducible exact ih4 _ _ _)
      | (with_reducible exact clepsydralaw03_CivilDays.mono _ _ _ _)
      | (with_reducible exact clepsydralaw03_CivilFrom.mono _ _)
      | (with_reducible exact clepsydralaw03_CivilMicro.mono _ _ _ _ _ _ _ _)
      | (with_reducible exact clepsydralaw03_CivilOf.mono _ _)
      | (with_reducible exact clepsydralaw03_works.mono _)
      | (with_reducible exact LeO.refl _)
      | (with_reducible exact LeO.none _)
      | (with_reducible refine LeO.ite ?_ ?_)
      | (with_reducible refine LeO.bind ?_ (fun _ => ?_))
      | exact ih0 _ _ _
      | exact ih1 _ _ _ _ _
      | exact ih2 _ _ _ _ _ _ _ _
      | exact ih3 _ _ _
      | exact ih4 _ _ _
      | exact clepsydralaw03_CivilDays.mono _ _ _ _
      | exact clepsydralaw03_CivilFrom.mono _ _
      | exact clepsydralaw03_CivilMicro.mono _ _ _ _ _ _ _ _
      | exact clepsydralaw03_CivilOf.mono _ _
      | exact clepsydralaw03_works.mono _
      | exact LeO.none _
      | refine LeO.ite ?_ ?_
      | refine LeO.bind ?_ (fun _ => ?_)
    · intro y0 y1 y2
      unfold clepsydralaw03_CivilKnown.l4
      repeat' first
      | (with_reducible exact ih0 _ _ _)
      | (with_reducible exact ih1 _ _ _ _ _)
      | (with_reducible exact ih2 _ _ _ _ _ _ _ _)
      | (with_reducible exact ih3 _ _ _)
      | (with_reducible exact ih4 _ _ _)
      | (with_reducible exact clepsydralaw03_CivilDays.mono _ _ _ _)
      | (with_reducible exact clepsydralaw03_CivilFrom.mono _ _)
      | (with_reducible exact clepsydralaw03_CivilMicro.mono _ _ _ _ _ _ _ _)
      | (with_reducible exact clepsydralaw03_CivilOf.mono _ _)
      | (with_reducible exact clepsydralaw03_works.mono _)
      | (with_reducible exact LeO.refl _)
      | (with_reducible exact LeO.none _)
      | (with_reducible refine LeO.ite ?_ ?_)
      | (with_reducible refine LeO.bind ?_ (fun _ => ?_))
      | exact ih0 _ _ _
      | exact ih1 _ _ _ _ _
      | exact ih2 _ _ _ _ _ _ _ _
      | exact ih3 _ _ _
      | exact ih4 _ _ _
      | exact clepsydralaw03_CivilDays.mono _ _ _ _
      | exact clepsydralaw03_CivilFrom.mono _ _
      | exact clepsydralaw03_CivilMicro.mono _ _ _ _ _ _ _ _
      | exact clepsydralaw03_CivilOf.mono _ _
      | exact clepsydralaw03_works.mono _
      | exact LeO.none _
      | refine LeO.ite ?_ ?_
      | refine LeO.bind ?_ (fun _ => ?_)
theorem clepsydralaw03_CivilKnown.mono : ∀ k, LeO (clepsydralaw03_CivilKnown.f k ) (clepsydralaw03_CivilKnown.f (k + 1) ) := by
  intro  k
  obtain ⟨ih0, ih1, ih2, ih3, ih4⟩ := clepsydralaw03_CivilKnown.mono_l k
  unfold clepsydralaw03_CivilKnown.f
  repeat' first
      | (with_reducible exact ih0 _ _ _)
      | (with_reducible exact ih1 _ _ _ _ _)
      | (with_reducible exact ih2 _ _ _ _ _ _ _ _)
      | (with_reducible exact ih3 _ _ _)
      | (with_reducible exact ih4 _ _ _)
      | (with_reducible exact clepsydralaw03_CivilDays.mono _ _ _ _)
      | (with_reducible exact clepsydralaw03_CivilFrom.mono _ _)
      | (with_reducible exact clepsydralaw03_CivilMicro.mono _ _ _ _ _ _ _ _)
      | (with_reducible exact clepsydralaw03_CivilOf.mono _ _)
      | (with_reducible exact clepsydralaw03_works.mono _)
      | (with_reducible exact LeO.refl _)
      | (with_reducible exact LeO.none _)
      | (with_reducible refine LeO.ite ?_ ?_)
      | (with_reducible refine LeO.bind ?_ (fun _ => ?_))
      | exact ih0 _ _ _
      | exact ih1 _ _ _ _ _
      | exact ih2 _ _ _ _ _ _ _ _
      | exact ih3 _ _ _
      | exact ih4 _ _ _
      | exact clepsydralaw03_CivilDays.mono _ _ _ _
      | exact clepsydralaw03_CivilFrom.mono _ _
      | exact clepsydralaw03_CivilMicro.mono _ _ _ _ _ _ _ _
      | exact clepsydralaw03_CivilOf.mono _ _
      | exact clepsydralaw03_works.mono _
      | exact LeO.none _
      | refine LeO.ite ?_ ?_
      | refine LeO.bind ?_ (fun _ => ?_)
set_option maxHeartbeats 8000000 in
set_option maxRecDepth 100000 in
theorem clepsydralaw03_CivilKnown.calls (k : Nat)  (r : Bool) (w : World) (h : clepsydralaw03_CivilKnown.f k  = some r) :
    Calls Try.prog 8 #[] w fun e w' => e = .returned (.bool r) ∧ Below w.heap.size w w' := by
  have hu23 := Try.underlying23
  have hu41 := Try.underlying41
  have HB := Aside0.mk (Below.refl w.heap.size w)
  have H : ((some (([(-1), 0, 1, 2, 3, 4, 100, 400, 1582, 1600, 1900, 1969, 1970, 1972, 2000, 2023, 2024, 2100, 2199, 2200, 9996, 9999, 10000] : List Int) : List Int)).bind fun y283 => (clepsydralaw03_CivilKnown.l0 k y283 (y283.length : Int) 0)) = some r := h
  clear h
  obtain ⟨y283, hy283⟩ : ∃ y_ : List Int, y_ = (([(-1), 0, 1, 2, 3, 4, 100, 400, 1582, 1600, 1900, 1969, 1970, 1972, 2000, 2023, 2024, 2100, 2199, 2200, 9996, 9999, 10000] : List Int)) := ⟨_, rfl⟩
  replace H : (clepsydralaw03_CivilKnown.l0 k y283 (y283.length : Int) 0) = some r := by first | (rw [hy283]; with_reducible exact H) | (have H2_ := (Option.bind_some _ _).symm.trans H; rw [hy283]; with_reducible exact H2_) | (have H2_ := (Option.bind_some _ _).symm.trans H; with_reducible exact H2_) | with_reducible exact H | (rw [hy283]; exact H) | exact H
  have Ny283 := Aside0.mk hy283
  clear hy283
  have H' := Aside0.mk H
  clear H
  go_enter Try.func8, Try.ntmps8
  go_wp2_with (first | ((with_reducible refine gate_dst (N := 11) rfl ?_); refine Kd.R_lit (Kd.int .i64) _ 3 ?hg (N := 11) ?hd (xs := ([(-1), 0, 1, 2, 3, 4, 100, 400, 1582, 1600, 1900, 1969, 1970, 1972, 2000, 2023, 2024, 2100, 2199, 2200, 9996, 9999, 10000] : List Int)) (inner := [.int .i64 (-1), .int .i64 0, .int .i64 1, .int .i64 2, .int .i64 3, .int .i64 4, .int .i64 100, .int .i64 400, .int .i64 1582, .int .i64 1600, .int .i64 1900, .int .i64 1969, .int .i64 1970, .int .i64 1972, .int .i64 2000, .int .i64 2023, .int .i64 2024, .int .i64 2100, .int .i64 2199, .int .i64 2200, .int .i64 9996, .int .i64 9999, .int .i64 10000]) (ok := fun _ => True) (okp := fun _ => True) ?hr ?hp (fun _ hk => hk) trivial (Below.refl _ _) (Nat.le_refl _) (by simp) ?_; (case hd => rfl); (case hg => rfl); (case hr => first | (go_simp; done) | (go_simp; rfl)); (case hp => exact (Reps.one (show Kd.M (Kd.int .i64) _ _ _ (-1) [.int .i64 (-1)] from rfl) (Reps.one (show Kd.M (Kd.int .i64) _ _ _ 0 [.int .i64 0] from rfl) (Reps.one (show Kd.M (Kd.int .i64) _ _ _ 1 [.int .i64 1] from rfl) (Reps.one (show Kd.M (Kd.int .i64) _ _ _ 2 [.int .i64 2] from rfl) (Reps.one (show Kd.M (Kd.int .i64) _ _ _ 3 [.int .i64 3] from rfl) (Reps.one (show Kd.M (Kd.int .i64) _ _ _ 4 [.int .i64 4] from rfl) (Reps.one (show Kd.M (Kd.int .i64) _ _ _ 100 [.int .i64 100] from rfl) (Reps.one (show Kd.M (Kd.int .i64) _ _ _ 400 [.int .i64 400] from rfl) (Reps.one (show Kd.M (Kd.int .i64) _ _ _ 1582 [.int .i64 1582] from rfl) (Reps.one (show Kd.M (Kd.int .i64) _ _ _ 1600 [.int .i64 1600] from rfl) (Reps.one (show Kd.M (Kd.int .i64) _ _ _ 1900 [.int .i64 1900] from rfl) (Reps.one (show Kd.M (Kd.int .i64) _ _ _ 1969 [.int .i64 1969] from rfl) (Reps.one (show Kd.M (Kd.int .i64) _ _ _ 1970 [.int .i64 1970] from rfl) (Reps.one (show Kd.M (Kd.int .i64) _ _ _ 1972 [.int .i64 1972] from rfl) (Reps.one (show Kd.M (Kd.int .i64) _ _ _ 2000 [.int .i64 2000] from rfl) (Reps.one (show Kd.M (Kd.int .i64) _ _ _ 2023 [.int .i64 2023] from rfl) (Reps.one (show Kd.M (Kd.int .i64) _ _ _ 2024 [.int .i64 2024] from rfl) (Reps.one (show Kd.M (Kd.int .i64) _ _ _ 2100 [.int .i64 2100] from rfl) (Reps.one (show Kd.M (Kd.int .i64) _ _ _ 2199 [.int .i64 2199] from rfl) (Reps.one (show Kd.M (Kd.int .i64) _ _ _ 2200 [.int .i64 2200] from rfl) (Reps.one (show Kd.M (Kd.int .i64) _ _ _ 9996 [.int .i64 9996] from rfl) (Reps.one (show Kd.M (Kd.int .i64) _ _ _ 9999 [.int .i64 9999] from rfl) (Reps.one (show Kd.M (Kd.int .i64) _ _ _ 10000 [.int .i64 10000] from rfl) (Reps.none _ _))))))))))))))))))))))))); intro v284 w1 ho2 hb hg_ hnew_; clear hg_ hnew_; (first | rw [← Ny283.out] at ho2 | (simp only [Int.reduceToNat] at ho2; rw [← Ny283.out] at ho2)); have n0_ := Aside0.mk (Kd.R_lower ho2 (below_size (by repeat (first | (with_reducible first | exact HB.out | apply below_alloc | apply pw_below_drewN | apply below_drew1) | exact HB.out)))); have n1_ := Aside0.mk (below_step (by repeat (first | (with_reducible first | exact HB.out | apply below_alloc | apply pw_below_drewN | apply below_drew1) | exact HB.out)) hb); clear HB; have HO285 := n0_; have HB := n1_; clear n0_ n1_; clear hb ho2; obtain ⟨Ao3, co3, eo3⟩ := Kd.R_slice HO285.out; subst eo3))
  go_loopg [13] k (fun kq v13 w' => ∃ (x13_1 : Int), v13 = .int .i64 x13_1 ∧ Aside0 (clepsydralaw03_CivilKnown.l0 kq y283 (y283.length : Int) x13_1 = some r) ∧ Aside0 (kq ≤ k) ∧ Aside0 (Kd.R (Kd.int .i64) 3 w' w.heap.size (fun _ => True) (.slice Ao3 y283.length co3) y283) ∧ Aside0 (Below w.heap.size w w'))
  case atStart => exact ⟨(0), (by first | rfl | (simp; done) | (simp [*]; done)), H', ⟨Nat.le_refl _⟩, ⟨by (with_reducible repeat (first | apply Kd.R_alloc | apply Kd.R_drewN | apply Kd.R_drew)); exact HO285.out⟩, ⟨by repeat (first | (with_reducible first | exact HB.out | apply below_alloc | apply pw_below_drewN | apply below_drew1) | exact HB.out)⟩⟩
  case round =>
    clear H'
    try clear p2
    obtain ⟨x13_1, rfl, HA, HK1, HO_11, HB⟩ := hrel
    cases gk with
    | zero => exact absurd HA.out (by simp [clepsydralaw03_CivilKnown.l0])
    | succ k1 =>
      have H := HA.out
      clear HA
      simp only [clepsydralaw03_CivilKnown.l0] at H
      by_cases c4 : x13_1 < (y283.length : Int)
      · rw [if_pos c4] at H
        have c4b0 : decide (x13_1 < (y283.length : Int)) = true := decide_eq_true c4
        clear c4
        by_cases c5 : 0 ≤ x13_1
        · rw [if_pos c5] at H
          have c5b0 : decide (0 ≤ x13_1) = true := decide_eq_true c5
          clear c5
          by_cases c6 : x13_1 < (y283.length : Int)
          · rw [if_pos c6] at H
            have c6b0 : decide (x13_1 < (y283.length : Int)) = true := decide_eq_true c6
            clear c6
            have H' := Aside0.mk H
            clear H
            have p286 : 0 ≤ (x13_1 : Int) := of_decide_eq_true (by first | (with_reducible assumption) | assumption)
            have q286 : x13_1 < (y283.length : Int) := of_decide_eq_true (by first | (with_reducible assumption) | assumption)
            obtain ⟨ad286, e286, hx286_0⟩ := Kd.at_int (Kd.R_reads' HO_11.out).2.2 x13_1 p286 q286
            cases e286
            replace p286 := eq_true p286
            replace q286 := eq_true q286
            go_wp2
            go_loopg [3] k1 (fun kq v3 w' => ∃ (x3_2 : Int), v3 = .int .i64 x3_2 ∧ Aside0 (clepsydralaw03_CivilKnown.l1 kq (rd y283 x13_1) x3_2 y283 (y283.length : Int) x13_1 = some r) ∧ Aside0 (kq ≤ k1) ∧ Aside0 (Kd.R (Kd.int .i64) 3 w' w.heap.size (fun _ => True) (.slice (some ad286) y283.length co3) y283) ∧ Aside0 (Below w.heap.size w w'))
            case atStart => exact ⟨((-1)), (by first | rfl | (simp; done) | (simp [*]; done)), H', ⟨Nat.le_refl _⟩, ⟨by (with_reducible repeat (first | apply Kd.R_alloc | apply Kd.R_drewN | apply Kd.R_drew)); exact HO_11.out⟩, ⟨by repeat (first | (with_reducible first | exact HB.out | apply below_alloc | apply pw_below_drewN | apply below_drew1) | exact HB.out)⟩⟩
            case round =>
              clear H'
              try clear p2
              try clear q2
              try clear hx2
              try clear c4
              try clear c4b0
              try clear c5
              try clear c5b0
              try clear c6
              try clear c6b0
              try clear hx286_0
              try clear p2
              try clear p286
              try clear q286
              obtain ⟨x3_2, rfl, HA, HK2, HO_11, HB⟩ := hrel
              cases gk with
              | zero => exact absurd HA.out (by simp [clepsydralaw03_CivilKnown.l1])
              | succ k2 =>
                have H := HA.out
                clear HA
                simp only [clepsydralaw03_CivilKnown.l1] at H
                by_cases c7 : x3_2 < 14
                · rw [if_pos c7] at H
                  have c7b0 : decide (x3_2 < 14) = true := decide_eq_true c7
                  clear c7
                  obtain ⟨y287, hy287⟩ : ∃ y_ : List Int, y_ = (([(-1), 0, 1, 2, 27, 28, 29, 30, 31, 32] : List Int)) := ⟨_, rfl⟩
                  replace H : (clepsydralaw03_CivilKnown.l2 k2 (rd y283 x13_1) x3_2 y283 (y283.length : Int) x13_1 y287 (y287.length : Int) 0) = some r := by first | (rw [hy287]; with_reducible exact H) | (have H2_ := (Option.bind_some _ _).symm.trans H; rw [hy287]; with_reducible exact H2_) | (have H2_ := (Option.bind_some _ _).symm.trans H; with_reducible exact H2_) | with_reducible exact H | (rw [hy287]; exact H) | exact H
                  have Ny287 := Aside0.mk hy287
                  clear hy287
                  have H' := Aside0.mk H
                  clear H
                  go_wp2_with (first | ((with_reducible refine gate_dst (N := 21) rfl ?_); refine Kd.R_lit (Kd.int .i64) _ 3 ?hg (N := 21) ?hd (xs := ([(-1), 0, 1, 2, 27, 28, 29, 30, 31, 32] : List Int)) (inner := [.int .i64 (-1), .int .i64 0, .int .i64 1, .int .i64 2, .int .i64 27, .int .i64 28, .int .i64 29, .int .i64 30, .int .i64 31, .int .i64 32]) (ok := fun _ => True) (okp := fun _ => True) ?hr ?hp (fun _ hk => hk) trivial (Below.refl _ _) (Nat.le_refl _) (by simp) ?_; (case hd => rfl); (case hg => rfl); (case hr => first | (go_simp; done) | (go_simp; rfl)); (case hp => exact (Reps.one (show Kd.M (Kd.int .i64) _ _ _ (-1) [.int .i64 (-1)] from rfl) (Reps.one (show Kd.M (Kd.int .i64) _ _ _ 0 [.int .i64 0] from rfl) (Reps.one (show Kd.M (Kd.int .i64) _ _ _ 1 [.int .i64 1] from rfl) (Reps.one (show Kd.M (Kd.int .i64) _ _ _ 2 [.int .i64 2] from rfl) (Reps.one (show Kd.M (Kd.int .i64) _ _ _ 27 [.int .i64 27] from rfl) (Reps.one (show Kd.M (Kd.int .i64) _ _ _ 28 [.int .i64 28] from rfl) (Reps.one (show Kd.M (Kd.int .i64) _ _ _ 29 [.int .i64 29] from rfl) (Reps.one (show Kd.M (Kd.int .i64) _ _ _ 30 [.int .i64 30] from rfl) (Reps.one (show Kd.M (Kd.int .i64) _ _ _ 31 [.int .i64 31] from rfl) (Reps.one (show Kd.M (Kd.int .i64) _ _ _ 32 [.int .i64 32] from rfl) (Reps.none _ _)))))))))))); intro v288 w8 ho9 hb hg_ hnew_; clear hg_ hnew_; (first | rw [← Ny287.out] at ho9 | (simp only [Int.reduceToNat] at ho9; rw [← Ny287.out] at ho9)); have n0_ := Aside0.mk (Kd.R_elder' (by (with_reducible repeat (first | apply Kd.R_alloc | apply Kd.R_drewN | apply Kd.R_drew)); exact HO_11.out) (Kd.R_base ho9) hb); have n1_ := Aside0.mk (Kd.R_lower (Kd.R_new' ho9 (Kd.R_lt (by (with_reducible repeat (first | apply Kd.R_alloc | apply Kd.R_drewN | apply Kd.R_drew)); exact HO_11.out))) (below_size (by repeat (first | (with_reducible first | exact HB.out | apply below_alloc | apply pw_below_drewN | apply below_drew1) | exact HB.out)))); have n2_ := Aside0.mk (below_step (by repeat (first | (with_reducible first | exact HB.out | apply below_alloc | apply pw_below_drewN | apply below_drew1) | exact HB.out)) hb); clear HO_11; clear HB; have HO_11 := n0_; have HO289 := n1_; have HB := n2_; clear n0_ n1_ n2_; clear hb ho9; obtain ⟨Ao10, co10, eo10⟩ := Kd.R_slice HO289.out; subst eo10))
                  go_loopg [23] k2 (fun kq v23 w' => ∃ (x23_3 : Int), v23 = .int .i64 x23_3 ∧ Aside0 (clepsydralaw03_CivilKnown.l2 kq (rd y283 x13_1) x3_2 y283 (y283.length : Int) x13_1 y287 (y287.length : Int) x23_3 = some r) ∧ Aside0 (kq ≤ k2) ∧ Aside0 (Kd.R (Kd.int .i64) 3 w' w.heap.size (fun k_ => some k_ ≠ ((.slice Ao10 y287.length co10) : Value).ownBlock) (.slice (some ad286) y283.length co3) y283) ∧ Aside0 (Kd.R (Kd.int .i64) 3 w' w.heap.size (fun k_ => some k_ ≠ ((.slice (some ad286) y283.length co3) : Value).ownBlock) (.slice Ao10 y287.length co10) y287) ∧ Aside0 (Below w.heap.size w w'))
                  case atStart => exact ⟨(0), (by first | rfl | (simp; done) | (simp [*]; done)), H', ⟨Nat.le_refl _⟩, ⟨by (with_reducible repeat (first | apply Kd.R_alloc | apply Kd.R_drewN | apply Kd.R_drew)); exact Kd.R_mono HO_11.out (fun _ hk => hk.2)⟩, ⟨by (with_reducible repeat (first | apply Kd.R_alloc | apply Kd.R_drewN | apply Kd.R_drew)); exact Kd.R_mono HO289.out (fun _ hk => hk.2)⟩, ⟨by repeat (first | (with_reducible first | exact HB.out | apply below_alloc | apply pw_below_drewN | apply below_drew1) | exact HB.out)⟩⟩
                  case round =>
                    clear H'
                    try clear p2
                    try clear q2
                    try clear hx2
                    try clear c4
                    try clear c4b0
                    try clear c5
                    try clear c5b0
                    try clear c6
                    try clear c6b0
                    try clear c7
                    try clear c7b0
                    try clear c8
                    try clear hx286_0
                    try clear p2
                    try clear p286
                    try clear q2
                    try clear q286
                    obtain ⟨x23_3, rfl, HA, HK3, HO_11, HO_21, HB⟩ := hrel
                    cases gk with
                    | zero => exact absurd HA.out (by simp [clepsydralaw03_CivilKnown.l2])
                    | succ k3 =>
                      have H := HA.out
                      clear HA
                      simp only [clepsydralaw03_CivilKnown.l2] at H
                      by_cases c11 : x23_3 < (y287.length : Int)
                      · rw [if_pos c11] at H
                        have c11b0 : decide (x23_3 < (y287.length : Int)) = true := decide_eq_true c11
                        clear c11
                        by_cases c12 : 0 ≤ x23_3
                        · rw [if_pos c12] at H
                          have c12b0 : decide (0 ≤ x23_3) = true := decide_eq_true c12
                          clear c12
                          by_cases c13 : x23_3 < (y287.length : Int)
                          · rw [if_pos c13] at H
                            have c13b0 : decide (x23_3 < (y287.length : Int)) = true := decide_eq_true c13
                            clear c13
                            replace H := Option.bind_eq_some_iff.mp H
                            obtain ⟨t291, A140, H⟩ := H
                            replace H : (if t291 = true then (clepsydralaw03_CivilKnown.l2 k3 (rd y283 x13_1) x3_2 y283 (y283.length : Int) x13_1 y287 (y287.length : Int) (wrap64 (x23_3 + 1))) else (none)) = some r := H
                            have A14 := Aside0.mk A140
                            clear A140
                            by_cases c15 : t291 = true
                            · subst c15
                              have H1 : (clepsydralaw03_CivilKnown.l2 k3 (rd y283 x13_1) x3_2 y283 (y283.length : Int) x13_1 y287 (y287.length : Int) (wrap64 (x23_3 + 1))) = some r := by rw [if_pos rfl] at H; exact H
                              clear H
                              have H := H1
                              clear H1
                              have H' := Aside0.mk H
                              clear H
                              have p290 : 0 ≤ (x23_3 : Int) := of_decide_eq_true (by first | (with_reducible assumption) | assumption)
                              have q290 : x23_3 < (y287.length : Int) := of_decide_eq_true (by first | (with_reducible assumption) | assumption)
                              obtain ⟨ad290, e290, hx290_0⟩ := Kd.at_int (Kd.R_reads' HO_21.out).2.2 x23_3 p290 q290
                              cases e290
                              replace p290 := eq_true p290
                              replace q290 := eq_true q290
                              go_wp2_with (first | ((with_reducible refine gate_callee (f := 3) rfl ?_); refine goesL_ (some 31) rfl rfl Try.func3 (by kernel_rfl) rfl #[.agg #[.int .i64 (rd y283 x13_1), .int .i64 x3_2, .int .i64 (rd y287 x23_3)]] rfl (by (try simp only [List.map_toArray, List.map_cons, List.map_nil]); first | done | rfl | (simp only [List.length_drop, List.length_take]; rfl)) ?_; (with_reducible refine (clepsydralaw03_CivilDays.calls k3 (rd y283 x13_1) x3_2 (rd y287 x23_3) true _ A14.out).mono ?_); rintro e w16 ⟨rfl, hb⟩; refine ⟨_, rfl, ?_⟩; have n0_ := Aside0.mk (Kd.R_below (by (with_reducible repeat (first | apply Kd.R_alloc | apply Kd.R_drewN | apply Kd.R_drew)); exact HO_11.out) hb); have n1_ := Aside0.mk (Kd.R_below (by (with_reducible repeat (first | apply Kd.R_alloc | apply Kd.R_drewN | apply Kd.R_drew)); exact HO_21.out) hb); have n2_ := Aside0.mk (below_step (by repeat (first | (with_reducible first | exact HB.out | apply below_alloc | apply pw_below_drewN | apply below_drew1) | exact HB.out)) hb); clear HO_11; clear HO_21; clear HB; have HO_11 := n0_; have HO_21 := n1_; have HB := n2_; clear n0_ n1_ n2_; (try clear hb); (try clear hb2); (try clear hk); (try clear hi)))
                              go_roundg k3
                              case measure => have := HK1.out; have := HK2.out; have := HK3.out; omega
                              case rel => exact ⟨(wrap64 (x23_3 + 1)), (by first | rfl | (simp; done) | (simp [*]; done)), H', ⟨by have := HK1.out; have := HK2.out; have := HK3.out; omega⟩, ⟨by (with_reducible repeat (first | apply Kd.R_alloc | apply Kd.R_drewN | apply Kd.R_drew)); exact HO_11.out⟩, ⟨by (with_reducible repeat (first | apply Kd.R_alloc | apply Kd.R_drewN | apply Kd.R_drew)); exact HO_21.out⟩, ⟨by repeat (first | (with_reducible first | exact HB.out | apply below_alloc | apply pw_below_drewN | apply below_drew1) | exact HB.out)⟩⟩
                            · replace c15 := Bool.eq_false_iff.mpr c15
                              subst c15
                              have H1 : (none) = some r := by rw [if_neg (show ¬ (false = true) by decide)] at H; exact H
                              clear H
                              have H := H1
                              clear H1
                              exact absurd H (by simp)
                          · rw [if_neg c13] at H
                            exact absurd H (by simp)
                        · rw [if_neg c12] at H
                          exact absurd H (by simp)
                      · rw [if_neg c11] at H
                        have c11b0 : decide (x23_3 < (y287.length : Int)) = false := decide_eq_false c11
                        clear c11
                        have H' := Aside0.mk H
                        clear H
                        go_wp2
                        go_roundg k3
                        case measure => have := HK1.out; have := HK2.out; have := HK3.out; omega
                        case rel => exact ⟨(wrap64 (x3_2 + 1)), (by first | rfl | (simp; done) | (simp [*]; done)), H', ⟨by have := HK1.out; have := HK2.out; have := HK3.out; omega⟩, ⟨by (with_reducible repeat (first | apply Kd.R_alloc | apply Kd.R_drewN | apply Kd.R_drew)); exact Kd.R_mono HO_11.out (fun _ hk => trivial)⟩, ⟨by repeat (first | (with_reducible first | exact HB.out | apply below_alloc | apply pw_below_drewN | apply below_drew1) | exact HB.out)⟩⟩
                · rw [if_neg c7] at H
                  have c7b0 : decide (x3_2 < 14) = false := decide_eq_false c7
                  clear c7
                  have H' := Aside0.mk H
                  clear H
                  go_wp2
                  go_roundg k2
                  case measure => have := HK1.out; have := HK2.out; omega
                  case rel => exact ⟨(wrap64 (x13_1 + 1)), (by first | rfl | (simp; done) | (simp [*]; done)), H', ⟨by have := HK1.out; have := HK2.out; omega⟩, ⟨by (with_reducible repeat (first | apply Kd.R_alloc | apply Kd.R_drewN | apply Kd.R_drew)); exact HO_11.out⟩, ⟨by repeat (first | (with_reducible first | exact HB.out | apply below_alloc | apply pw_below_drewN | apply below_drew1) | exact HB.out)⟩⟩
          · rw [if_neg c6] at H
            exact absurd H (by simp)
        · rw [if_neg c5] at H
          exact absurd H (by simp)
      · rw [if_neg c4] at H
        have c4b0 : decide (x13_1 < (y283.length : Int)) = false := decide_eq_false c4
        clear c4
        obtain ⟨y292, hy292⟩ : ∃ y_ : List Int, y_ = (([(-719163), (-719162), (-719161), (-719468), (-1), 0, 1, 58, 59, 60, 789, 790, 10956, 10957, 11015, 11016, 11017, 146096, 146097, 2932895, 2932896, 2932897, 4611686018427387904, (-9223372036854775808)] : List Int)) := ⟨_, rfl⟩
        replace H : (clepsydralaw03_CivilKnown.l3 k1 y292 (y292.length : Int) 0) = some r := by first | (rw [hy292]; with_reducible exact H) | (have H2_ := (Option.bind_some _ _).symm.trans H; rw [hy292]; with_reducible exact H2_) | (have H2_ := (Option.bind_some _ _).symm.trans H; with_reducible exact H2_) | with_reducible exact H | (rw [hy292]; exact H) | exact H
        have Ny292 := Aside0.mk hy292
        clear hy292
        have H' := Aside0.mk H
        clear H
        go_wp2_with (first | ((with_reducible refine gate_dst (N := 35) rfl ?_); refine Kd.R_lit (Kd.int .i64) _ 2 ?hg (N := 35) ?hd (xs := ([(-719163), (-719162), (-719161), (-719468), (-1), 0, 1, 58, 59, 60, 789, 790, 10956, 10957, 11015, 11016, 11017, 146096, 146097, 2932895, 2932896, 2932897, 4611686018427387904, (-9223372036854775808)] : List Int)) (inner := [.int .i64 (-719163), .int .i64 (-719162), .int .i64 (-719161), .int .i64 (-719468), .int .i64 (-1), .int .i64 0, .int .i64 1, .int .i64 58, .int .i64 59, .int .i64 60, .int .i64 789, .int .i64 790, .int .i64 10956, .int .i64 10957, .int .i64 11015, .int .i64 11016, .int .i64 11017, .int .i64 146096, .int .i64 146097, .int .i64 2932895, .int .i64 2932896, .int .i64 2932897, .int .i64 4611686018427387904, .int .i64 (-9223372036854775808)]) (ok := fun _ => True) (okp := fun _ => True) ?hr ?hp (fun _ hk => hk) trivial (Below.refl _ _) (Nat.le_refl _) (by simp) ?_; (case hd => rfl); (case hg => rfl); (case hr => first | (go_simp; done) | (go_simp; rfl)); (case hp => exact (Reps.one (show Kd.M (Kd.int .i64) _ _ _ (-719163) [.int .i64 (-719163)] from rfl) (Reps.one (show Kd.M (Kd.int .i64) _ _ _ (-719162) [.int .i64 (-719162)] from rfl) (Reps.one (show Kd.M (Kd.int .i64) _ _ _ (-719161) [.int .i64 (-719161)] from rfl) (Reps.one (show Kd.M (Kd.int .i64) _ _ _ (-719468) [.int .i64 (-719468)] from rfl) (Reps.one (show Kd.M (Kd.int .i64) _ _ _ (-1) [.int .i64 (-1)] from rfl) (Reps.one (show Kd.M (Kd.int .i64) _ _ _ 0 [.int .i64 0] from rfl) (Reps.one (show Kd.M (Kd.int .i64) _ _ _ 1 [.int .i64 1] from rfl) (Reps.one (show Kd.M (Kd.int .i64) _ _ _ 58 [.int .i64 58] from rfl) (Reps.one (show Kd.M (Kd.int .i64) _ _ _ 59 [.int .i64 59] from rfl) (Reps.one (show Kd.M (Kd.int .i64) _ _ _ 60 [.int .i64 60] from rfl) (Reps.one (show Kd.M (Kd.int .i64) _ _ _ 789 [.int .i64 789] from rfl) (Reps.one (show Kd.M (Kd.int .i64) _ _ _ 790 [.int .i64 790] from rfl) (Reps.one (show Kd.M (Kd.int .i64) _ _ _ 10956 [.int .i64 10956] from rfl) (Reps.one (show Kd.M (Kd.int .i64) _ _ _ 10957 [.int .i64 10957] from rfl) (Reps.one (show Kd.M (Kd.int .i64) _ _ _ 11015 [.int .i64 11015] from rfl) (Reps.one (show Kd.M (Kd.int .i64) _ _ _ 11016 [.int .i64 11016] from rfl) (Reps.one (show Kd.M (Kd.int .i64) _ _ _ 11017 [.int .i64 11017] from rfl) (Reps.one (show Kd.M (Kd.int .i64) _ _ _ 146096 [.int .i64 146096] from rfl) (Reps.one (show Kd.M (Kd.int .i64) _ _ _ 146097 [.int .i64 146097] from rfl) (Reps.one (show Kd.M (Kd.int .i64) _ _ _ 2932895 [.int .i64 2932895] from rfl) (Reps.one (show Kd.M (Kd.int .i64) _ _ _ 2932896 [.int .i64 2932896] from rfl) (Reps.one (show Kd.M (Kd.int .i64) _ _ _ 2932897 [.int .i64 2932897] from rfl) (Reps.one (show Kd.M (Kd.int .i64) _ _ _ 4611686018427387904 [.int .i64 4611686018427387904] from rfl) (Reps.one (show Kd.M (Kd.int .i64) _ _ _ (-9223372036854775808) [.int .i64 (-9223372036854775808)] from rfl) (Reps.none _ _)))))))))))))))))))))))))); intro v293 w17 ho18 hb hg_ hnew_; clear hg_ hnew_; (first | rw [← Ny292.out] at ho18 | (simp only [Int.reduceToNat] at ho18; rw [← Ny292.out] at ho18)); have n0_ := Aside0.mk (Kd.R_below (by (with_reducible repeat (first | apply Kd.R_alloc | apply Kd.R_drewN | apply Kd.R_drew)); exact HO_11.out) hb); have n1_ := Aside0.mk (Kd.R_lower ho18 (below_size (by repeat (first | (with_reducible first | exact HB.out | apply below_alloc | apply pw_below_drewN | apply below_drew1) | exact HB.out)))); have n2_ := Aside0.mk (below_step (by repeat (first | (with_reducible first | exact HB.out | apply below_alloc | apply pw_below_drewN | apply below_drew1) | exact HB.out)) hb); clear HO_11; clear HB; have HO_11 := n0_; have HO294 := n1_; have HB := n2_; clear n0_ n1_ n2_; clear hb ho18; obtain ⟨Ao19, co19, eo19⟩ := Kd.R_slice HO294.out; subst eo19))
        go_loopg [37] k1 (fun kq v37 w' => ∃ (x37_2 : Int), v37 = .int .i64 x37_2 ∧ Aside0 (clepsydralaw03_CivilKnown.l3 kq y292 (y292.length : Int) x37_2 = some r) ∧ Aside0 (kq ≤ k1) ∧ Aside0 (Kd.R (Kd.int .i64) 2 w' w.heap.size (fun _ => True) (.slice Ao19 y292.length co19) y292) ∧ Aside0 (Below w.heap.size w w'))
        case atStart => exact ⟨(0), (by first | rfl | (simp; done) | (simp [*]; done)), H', ⟨Nat.le_refl _⟩, ⟨by (with_reducible repeat (first | apply Kd.R_alloc | apply Kd.R_drewN | apply Kd.R_drew)); exact HO294.out⟩, ⟨by repeat (first | (with_reducible first | exact HB.out | apply below_alloc | apply pw_below_drewN | apply below_drew1) | exact HB.out)⟩⟩
        case round =>
          clear H'
          try clear c1
          try clear p2
          try clear q2
          try clear hx2
          try clear c3
          try clear c4
          try clear c4b0
          try clear c5
          try clear c5b0
          try clear c6
          try clear c6b0
          try clear p6
          try clear c7
          try clear c7b0
          try clear c8
          try clear c11
          try clear c11b0
          try clear c12
          try clear c12b0
          try clear c13
          try clear c13b0
          try clear c15
          try clear hx286_0
          try clear hx290_0
          try clear p2
          try clear p286
          try clear p290
          try clear q2
          try clear q286
          try clear q290
          obtain ⟨x37_2, rfl, HA, HK2, HO_35, HB⟩ := hrel
          cases gk with
          | zero => exact absurd HA.out (by simp [clepsydralaw03_CivilKnown.l3])
          | succ k2 =>
            have H := HA.out
            clear HA
            simp only [clepsydralaw03_CivilKnown.l3] at H
            by_cases c20 : x37_2 < (y292.length : Int)
            · rw [if_pos c20] at H
              have c20b0 : decide (x37_2 < (y292.length : Int)) = true := decide_eq_true c20
              clear c20
              by_cases c21 : 0 ≤ x37_2
              · rw [if_pos c21] at H
                have c21b0 : decide (0 ≤ x37_2) = true := decide_eq_true c21
                clear c21
                by_cases c22 : x37_2 < (y292.length : Int)
                · rw [if_pos c22] at H
                  have c22b0 : decide (x37_2 < (y292.length : Int)) = true := decide_eq_true c22
                  clear c22
                  replace H := Option.bind_eq_some_iff.mp H
                  obtain ⟨t296, A230, H⟩ := H
                  replace H : (if t296 = true then ((clepsydralaw03_CivilFrom.f k2 (rd y292 x37_2)).bind fun t297 => (if t297 = true then (if (rd y292 x37_2) < 1099511627776 then (if (rd y292 x37_2) > (-1099511627776) then ((clepsydralaw03_CivilFrom.f k2 (wrap64 ((rd y292 x37_2) * 86400000000))).bind fun t298 => (if t298 = true then ((clepsydralaw03_CivilFrom.f k2 (wrap64 ((wrap64 ((rd y292 x37_2) * 86400000000)) - 1))).bind fun t299 => (if t299 = true then (clepsydralaw03_CivilKnown.l3 k2 y292 (y292.length : Int) (wrap64 (x37_2 + 1))) else (none))) else (none))) else (clepsydralaw03_CivilKnown.l3 k2 y292 (y292.length : Int) (wrap64 (x37_2 + 1)))) else (clepsydralaw03_CivilKnown.l3 k2 y292 (y292.length : Int) (wrap64 (x37_2 + 1)))) else (none))) else (none)) = some r := H
                  have A23 := Aside0.mk A230
                  clear A230
                  by_cases c24 : t296 = true
                  · subst c24
                    have H1 : ((clepsydralaw03_CivilFrom.f k2 (rd y292 x37_2)).bind fun t297 => (if t297 = true then (if (rd y292 x37_2) < 1099511627776 then (if (rd y292 x37_2) > (-1099511627776) then ((clepsydralaw03_CivilFrom.f k2 (wrap64 ((rd y292 x37_2) * 86400000000))).bind fun t298 => (if t298 = true then ((clepsydralaw03_CivilFrom.f k2 (wrap64 ((wrap64 ((rd y292 x37_2) * 86400000000)) - 1))).bind fun t299 => (if t299 = true then (clepsydralaw03_CivilKnown.l3 k2 y292 (y292.length : Int) (wrap64 (x37_2 + 1))) else (none))) else (none))) else (clepsydralaw03_CivilKnown.l3 k2 y292 (y292.length : Int) (wrap64 (x37_2 + 1)))) else (clepsydralaw03_CivilKnown.l3 k2 y292 (y292.length : Int) (wrap64 (x37_2 + 1)))) else (none))) = some r := by rw [if_pos rfl] at H; exact H
                    clear H
                    have H := H1
                    clear H1
                    replace H := Option.bind_eq_some_iff.mp H
                    obtain ⟨t297, A250, H⟩ := H
                    replace H : (if t297 = true then (if (rd y292 x37_2) < 1099511627776 then (if (rd y292 x37_2) > (-1099511627776) then ((clepsydralaw03_CivilFrom.f k2 (wrap64 ((rd y292 x37_2) * 86400000000))).bind fun t298 => (if t298 = true then ((clepsydralaw03_CivilFrom.f k2 (wrap64 ((wrap64 ((rd y292 x37_2) * 86400000000)) - 1))).bind fun t299 => (if t299 = true then (clepsydralaw03_CivilKnown.l3 k2 y292 (y292.length : Int) (wrap64 (x37_2 + 1))) else (none))) else (none))) else (clepsydralaw03_CivilKnown.l3 k2 y292 (y292.length : Int) (wrap64 (x37_2 + 1)))) else (clepsydralaw03_CivilKnown.l3 k2 y292 (y292.length : Int) (wrap64 (x37_2 + 1)))) else (none)) = some r := H
                    have A25 := Aside0.mk A250
                    clear A250
                    by_cases c26 : t297 = true
                    · subst c26
                      have H1 : (if (rd y292 x37_2) < 1099511627776 then (if (rd y292 x37_2) > (-1099511627776) then ((clepsydralaw03_CivilFrom.f k2 (wrap64 ((rd y292 x37_2) * 86400000000))).bind fun t298 => (if t298 = true then ((clepsydralaw03_CivilFrom.f k2 (wrap64 ((wrap64 ((rd y292 x37_2) * 86400000000)) - 1))).bind fun t299 => (if t299 = true then (clepsydralaw03_CivilKnown.l3 k2 y292 (y292.length : Int) (wrap64 (x37_2 + 1))) else (none))) else (none))) else (clepsydralaw03_CivilKnown.l3 k2 y292 (y292.length : Int) (wrap64 (x37_2 + 1)))) else (clepsydralaw03_CivilKnown.l3 k2 y292 (y292.length : Int) (wrap64 (x37_2 + 1)))) = some r := by rw [if_pos rfl] at H; exact H
                      clear H
                      have H := H1
                      clear H1
                      by_cases c27 : (rd y292 x37_2) < 1099511627776
                      · rw [if_pos c27] at H
                        have c27b0 : decide ((rd y292 x37_2) < 1099511627776) = true := decide_eq_true c27
                        clear c27
                        by_cases c28 : (rd y292 x37_2) > (-1099511627776)
                        · rw [if_pos c28] at H
                          have c28b0 : decide ((-1099511627776) < (rd y292 x37_2)) = true := decide_eq_true c28
                          clear c28
                          replace H := Option.bind_eq_some_iff.mp H
                          obtain ⟨t298, A290, H⟩ := H
                          replace H : (if t298 = true then ((clepsydralaw03_CivilFrom.f k2 (wrap64 ((wrap64 ((rd y292 x37_2) * 86400000000)) - 1))).bind fun t299 => (if t299 = true then (clepsydralaw03_CivilKnown.l3 k2 y292 (y292.length : Int) (wrap64 (x37_2 + 1))) else (none))) else (none)) = some r := H
                          have A29 := Aside0.mk A290
                          clear A290
                          by_cases c30 : t298 = true
                          · subst c30
                            have H1 : ((clepsydralaw03_CivilFrom.f k2 (wrap64 ((wrap64 ((rd y292 x37_2) * 86400000000)) - 1))).bind fun t299 => (if t299 = true then (clepsydralaw03_CivilKnown.l3 k2 y292 (y292.length : Int) (wrap64 (x37_2 + 1))) else (none))) = some r := by rw [if_pos rfl] at H; exact H
                            clear H
                            have H := H1
                            clear H1
                            replace H := Option.bind_eq_some_iff.mp H
                            obtain ⟨t299, A310, H⟩ := H
                            replace H : (if t299 = true then (clepsydralaw03_CivilKnown.l3 k2 y292 (y292.length : Int) (wrap64 (x37_2 + 1))) else (none)) = some r := H
                            have A31 := Aside0.mk A310
                            clear A310
                            by_cases c32 : t299 = true
                            · subst c32
                              have H1 : (clepsydralaw03_CivilKnown.l3 k2 y292 (y292.length : Int) (wrap64 (x37_2 + 1))) = some r := by rw [if_pos rfl] at H; exact H
                              clear H
                              have H := H1
                              clear H1
                              have H' := Aside0.mk H
                              clear H
                              have p295 : 0 ≤ (x37_2 : Int) := of_decide_eq_true (by first | (with_reducible assumption) | assumption)
                              have q295 : x37_2 < (y292.length : Int) := of_decide_eq_true (by first | (with_reducible assumption) | assumption)
                              obtain ⟨ad295, e295, hx295_0⟩ := Kd.at_int (Kd.R_reads' HO_35.out).2.2 x37_2 p295 q295
                              cases e295
                              replace p295 := eq_true p295
                              replace q295 := eq_true q295
                              go_wp2_with (first | ((with_reducible refine gate_callee (f := 4) rfl ?_); refine goesL_ (some 42) rfl rfl Try.func4 (by kernel_rfl) rfl #[.int .i64 (rd y292 x37_2)] rfl (by (try simp only [List.map_toArray, List.map_cons, List.map_nil]); first | done | rfl | (simp only [List.length_drop, List.length_take]; rfl)) ?_; (with_reducible refine (clepsydralaw03_CivilOf.calls k2 (rd y292 x37_2) true _ A23.out).mono ?_); rintro e w33 ⟨rfl, hb⟩; refine ⟨_, rfl, ?_⟩; have n0_ := Aside0.mk (Kd.R_below (by (with_reducible repeat (first | apply Kd.R_alloc | apply Kd.R_drewN | apply Kd.R_drew)); exact HO_35.out) hb); have n1_ := Aside0.mk (below_step (by repeat (first | (with_reducible first | exact HB.out | apply below_alloc | apply pw_below_drewN | apply below_drew1) | exact HB.out)) hb); clear HO_35; clear HB; have HO_35 := n0_; have HB := n1_; clear n0_ n1_; (try clear hb); (try clear hb2); (try clear hk); (try clear hi)) | (go_at_call 7; (with_reducible refine (clepsydralaw03_CivilFrom.calls k2 (rd y292 x37_2) true _ A25.out).mono ?_); rintro e w34 ⟨rfl, hb⟩; have n0_ := Aside0.mk (Kd.R_below (by (with_reducible repeat (first | apply Kd.R_alloc | apply Kd.R_drewN | apply Kd.R_drew)); exact HO_35.out) hb); have n1_ := Aside0.mk (below_step (by repeat (first | (with_reducible first | exact HB.out | apply below_alloc | apply pw_below_drewN | apply below_drew1) | exact HB.out)) hb); clear HO_35; clear HB; have HO_35 := n0_; have HB := n1_; clear n0_ n1_; (try clear hb); (try clear hb2); (try clear hk); (try clear hi)) | (go_at_call 7; (with_reducible refine (clepsydralaw03_CivilFrom.calls k2 (wrap64 ((rd y292 x37_2) * 86400000000)) true _ A29.out).mono ?_); rintro e w35 ⟨rfl, hb⟩; have n0_ := Aside0.mk (Kd.R_below (by (with_reducible repeat (first | apply Kd.R_alloc | apply Kd.R_drewN | apply Kd.R_drew)); exact HO_35.out) hb); have n1_ := Aside0.mk (below_step (by repeat (first | (with_reducible first | exact HB.out | apply below_alloc | apply pw_below_drewN | apply below_drew1) | exact HB.out)) hb); clear HO_35; clear HB; have HO_35 := n0_; have HB := n1_; clear n0_ n1_; (try clear hb); (try clear hb2); (try clear hk); (try clear hi)) | (go_at_call 7; (with_reducible refine (clepsydralaw03_CivilFrom.calls k2 (wrap64 ((wrap64 ((rd y292 x37_2) * 86400000000)) - 1)) true _ A31.out).mono ?_); rintro e w36 ⟨rfl, hb⟩; have n0_ := Aside0.mk (Kd.R_below (by (with_reducible repeat (first | apply Kd.R_alloc | apply Kd.R_drewN | apply Kd.R_drew)); exact HO_35.out) hb); have n1_ := Aside0.mk (below_step (by repeat (first | (with_reducible first | exact HB.out | apply below_alloc | apply pw_below_drewN | apply below_drew1) | exact HB.out)) hb); clear HO_35; clear HB; have HO_35 := n0_; have HB := n1_; clear n0_ n1_; (try clear hb); (try clear hb2); (try clear hk); (try clear hi)))
                              go_roundg k2
                              case measure => have := HK1.out; have := HK2.out; omega
                              case rel => exact ⟨(wrap64 (x37_2 + 1)), (by first | rfl | (simp; done) | (simp [*]; done)), H', ⟨by have := HK1.out; have := HK2.out; omega⟩, ⟨by (with_reducible repeat (first | apply Kd.R_alloc | apply Kd.R_drewN | apply Kd.R_drew)); exact HO_35.out⟩, ⟨by repeat (first | (with_reducible first | exact HB.out | apply below_alloc | apply pw_below_drewN | apply below_drew1) | exact HB.out)⟩⟩
                            · replace c32 := Bool.eq_false_iff.mpr c32
                              subst c32
                              have H1 : (none) = some r := by rw [if_neg (show ¬ (false = true) by decide)] at H; exact H
                              clear H
                              have H := H1
                              clear H1
                              exact absurd H (by simp)
                          · replace c30 := Bool.eq_false_iff.mpr c30
                            subst c30
                            have H1 : (none) = some r := by rw [if_neg (show ¬ (false = true) by decide)] at H; exact H
                            clear H
                            have H := H1
                            clear H1
                            exact absurd H (by simp)
                        · rw [if_neg c28] at H
                          have c28b0 : decide ((-1099511627776) < (rd y292 x37_2)) = false := decide_eq_false c28
                          clear c28
                          have H' := Aside0.mk H
                          clear H
                          have p295 : 0 ≤ (x37_2 : Int) := of_decide_eq_true (by first | (with_reducible assumption) | assumption)
                          have q295 : x37_2 < (y292.length : Int) := of_decide_eq_true (by first | (with_reducible assumption) | assumption)
                          obtain ⟨ad295, e295, hx295_0⟩ := Kd.at_int (Kd.R_reads' HO_35.out).2.2 x37_2 p295 q295
                          cases e295
                          replace p295 := eq_true p295
                          replace q295 := eq_true q295
                          go_wp2_with (first | ((with_reducible refine gate_callee (f := 4) rfl ?_); refine goesL_ (some 42) rfl rfl Try.func4 (by kernel_rfl) rfl #[.int .i64 (rd y292 x37_2)] rfl (by (try simp only [List.map_toArray, List.map_cons, List.map_nil]); first | done | rfl | (simp only [List.length_drop, List.length_take]; rfl)) ?_; (with_reducible refine (clepsydralaw03_CivilOf.calls k2 (rd y292 x37_2) true _ A23.out).mono ?_); rintro e w37 ⟨rfl, hb⟩; refine ⟨_, rfl, ?_⟩; have n0_ := Aside0.mk (Kd.R_below (by (with_reducible repeat (first | apply Kd.R_alloc | apply Kd.R_drewN | apply Kd.R_drew)); exact HO_35.out) hb); have n1_ := Aside0.mk (below_step (by repeat (first | (with_reducible first | exact HB.out | apply below_alloc | apply pw_below_drewN | apply below_drew1) | exact HB.out)) hb); clear HO_35; clear HB; have HO_35 := n0_; have HB := n1_; clear n0_ n1_; (try clear hb); (try clear hb2); (try clear hk); (try clear hi)) | (go_at_call 7; (with_reducible refine (clepsydralaw03_CivilFrom.calls k2 (rd y292 x37_2) true _ A25.out).mono ?_); rintro e w38 ⟨rfl, hb⟩; have n0_ := Aside0.mk (Kd.R_below (by (with_reducible repeat (first | apply Kd.R_alloc | apply Kd.R_drewN | apply Kd.R_drew)); exact HO_35.out) hb); have n1_ := Aside0.mk (below_step (by repeat (first | (with_reducible first | exact HB.out | apply below_alloc | apply pw_below_drewN | apply below_drew1) | exact HB.out)) hb); clear HO_35; clear HB; have HO_35 := n0_; have HB := n1_; clear n0_ n1_; (try clear hb); (try clear hb2); (try clear hk); (try clear hi)))
                          go_roundg k2
                          case measure => have := HK1.out; have := HK2.out; omega
                          case rel => exact ⟨(wrap64 (x37_2 + 1)), (by first | rfl | (simp; done) | (simp [*]; done)), H', ⟨by have := HK1.out; have := HK2.out; omega⟩, ⟨by (with_reducible repeat (first | apply Kd.R_alloc | apply Kd.R_drewN | apply Kd.R_drew)); exact HO_35.out⟩, ⟨by repeat (first | (with_reducible first | exact HB.out | apply below_alloc | apply pw_below_drewN | apply below_drew1) | exact HB.out)⟩⟩
                      · rw [if_neg c27] at H
                        have c27b0 : decide ((rd y292 x37_2) < 1099511627776) = false := decide_eq_false c27
                        clear c27
                        have H' := Aside0.mk H
                        clear H
                        have p295 : 0 ≤ (x37_2 : Int) := of_decide_eq_true (by first | (with_reducible assumption) | assumption)
                        have q295 : x37_2 < (y292.length : Int) := of_decide_eq_true (by first | (with_reducible assumption) | assumption)
                        obtain ⟨ad295, e295, hx295_0⟩ := Kd.at_int (Kd.R_reads' HO_35.out).2.2 x37_2 p295 q295
                        cases e295
                        replace p295 := eq_true p295
                        replace q295 := eq_true q295
                        go_wp2_with (first | ((with_reducible refine gate_callee (f := 4) rfl ?_); refine goesL_ (some 42) rfl rfl Try.func4 (by kernel_rfl) rfl #[.int .i64 (rd y292 x37_2)] rfl (by (try simp only [List.map_toArray, List.map_cons, List.map_nil]); first | done | rfl | (simp only [List.length_drop, List.length_take]; rfl)) ?_; (with_reducible refine (clepsydralaw03_CivilOf.calls k2 (rd y292 x37_2) true _ A23.out).mono ?_); rintro e w39 ⟨rfl, hb⟩; refine ⟨_, rfl, ?_⟩; have n0_ := Aside0.mk (Kd.R_below (by (with_reducible repeat (first | apply Kd.R_alloc | apply Kd.R_drewN | apply Kd.R_drew)); exact HO_35.out) hb); have n1_ := Aside0.mk (below_step (by repeat (first | (with_reducible first | exact HB.out | apply below_alloc | apply pw_below_drewN | apply below_drew1) | exact HB.out)) hb); clear HO_35; clear HB; have HO_35 := n0_; have HB := n1_; clear n0_ n1_; (try clear hb); (try clear hb2); (try clear hk); (try clear hi)) | (go_at_call 7; (with_reducible refine (clepsydralaw03_CivilFrom.calls k2 (rd y292 x37_2) true _ A25.out).mono ?_); rintro e w40 ⟨rfl, hb⟩; have n0_ := Aside0.mk (Kd.R_below (by (with_reducible repeat (first | apply Kd.R_alloc | apply Kd.R_drewN | apply Kd.R_drew)); exact HO_35.out) hb); have n1_ := Aside0.mk (below_step (by repeat (first | (with_reducible first | exact HB.out | apply below_alloc | apply pw_below_drewN | apply below_drew1) | exact HB.out)) hb); clear HO_35; clear HB; have HO_35 := n0_; have HB := n1_; clear n0_ n1_; (try clear hb); (try clear hb2); (try clear hk); (try clear hi)))
                        go_roundg k2
                        case measure => have := HK1.out; have := HK2.out; omega
                        case rel => exact ⟨(wrap64 (x37_2 + 1)), (by first | rfl | (simp; done) | (simp [*]; done)), H', ⟨by have := HK1.out; have := HK2.out; omega⟩, ⟨by (with_reducible repeat (first | apply Kd.R_alloc | apply Kd.R_drewN | apply Kd.R_drew)); exact HO_35.out⟩, ⟨by repeat (first | (with_reducible first | exact HB.out | apply below_alloc | apply pw_below_drewN | apply below_drew1) | exact HB.out)⟩⟩
                    · replace c26 := Bool.eq_false_iff.mpr c26
                      subst c26
                      have H1 : (none) = some r := by rw [if_neg (show ¬ (false = true) by decide)] at H; exact H
                      clear H
                      have H := H1
                      clear H1
                      exact absurd H (by simp)
                  · replace c24 := Bool.eq_false_iff.mpr c24
                    subst c24
                    have H1 : (none) = some r := by rw [if_neg (show ¬ (false = true) by decide)] at H; exact H
                    clear H
                    have H := H1
                    clear H1
                    exact absurd H (by simp)
                · rw [if_neg c22] at H
                  exact absurd H (by simp)
              · rw [if_neg c21] at H
                exact absurd H (by simp)
            · rw [if_neg c20] at H
              have c20b0 : decide (x37_2 < (y292.length : Int)) = false := decide_eq_false c20
              clear c20
              obtain ⟨y301, hy301⟩ : ∃ y_ : List (S41), y_ = (([(⟨(⟨2024, 2, 29⟩ : S23), 0, 0, 0, 0⟩ : S41), (⟨(⟨2024, 2, 29⟩ : S23), 23, 59, 59, 999999⟩ : S41), (⟨(⟨2024, 2, 29⟩ : S23), 24, 0, 0, 0⟩ : S41), (⟨(⟨2024, 2, 29⟩ : S23), 0, 60, 0, 0⟩ : S41), (⟨(⟨2024, 2, 29⟩ : S23), 0, 0, 60, 0⟩ : S41), (⟨(⟨2024, 2, 29⟩ : S23), 0, 0, 0, 1000000⟩ : S41), (⟨(⟨2024, 2, 29⟩ : S23), (-1), 0, 0, 0⟩ : S41), (⟨(⟨2024, 2, 29⟩ : S23), 0, 0, 0, (-1)⟩ : S41), (⟨(⟨0, 0, 0⟩ : S23), 0, 0, 0, 0⟩ : S41)] : List (S41))) := ⟨_, rfl⟩
              replace H : (clepsydralaw03_CivilKnown.l4 k2 y301 (y301.length : Int) 0) = some r := by first | (rw [hy301]; with_reducible exact H) | (have H2_ := (Option.bind_some _ _).symm.trans H; rw [hy301]; with_reducible exact H2_) | (have H2_ := (Option.bind_some _ _).symm.trans H; with_reducible exact H2_) | with_reducible exact H | (rw [hy301]; exact H) | exact H
              have Ny301 := Aside0.mk hy301
              clear hy301
              have H' := Aside0.mk H
              clear H
              go_wp2_with (first | ((with_reducible refine gate_dst (N := 8) rfl ?_); refine box_event ?hg (N := 8) ?hd (cs := #[.int .i64 0, .int .i64 0, .int .i64 0]) (t := 23) ?hr ?_; (case hd => rfl); (case hg => rfl); (case hr => first | (go_simp; done) | (go_simp; rfl)); intro gb300 hg w41 hbox hb; have n0_ := Aside0.mk (Kd.R_below (by (with_reducible repeat (first | apply Kd.R_alloc | apply Kd.R_drewN | apply Kd.R_drew)); exact HO_35.out) hb); have n1_ := Aside0.mk (below_step (by repeat (first | (with_reducible first | exact HB.out | apply below_alloc | apply pw_below_drewN | apply below_drew1) | exact HB.out)) hb); have n2_ := Aside0.mk (hbox); have n3_ := Aside0.mk ((by rw [hg]; exact (below_size (by repeat (first | (with_reducible first | exact HB.out | apply below_alloc | apply pw_below_drewN | apply below_drew1) | exact HB.out))) : w.heap.size ≤ gb300)); have n4_ := Aside0.mk ((by rw [hg]; exact (below_size (by repeat (first | (with_reducible first | exact HB.out | apply below_alloc | apply pw_below_drewN | apply below_drew1) | exact HB.out))) : w.heap.size ≤ gb300)); clear HO_35; clear HB; have HO_35 := n0_; have HB := n1_; have BK300 := n2_; have GW300 := n3_; have GE300 := n4_; clear n0_ n1_ n2_ n3_ n4_; clear hb hbox hg; have hcz42_0 : w41.cell? ⟨gb300, 0, none⟩ = some (.int .i64 0) := (blk_cell BK300.out 0).trans rfl; have hcz42_1 : w41.cell? ⟨gb300, 1, none⟩ = some (.int .i64 0) := (blk_cell BK300.out 1).trans rfl; have hcz42_2 : w41.cell? ⟨gb300, 2, none⟩ = some (.int .i64 0) := (blk_cell BK300.out 2).trans rfl; have hfz42_0 := blk_frozen BK300.out 0; have hfz42_1 := blk_frozen BK300.out 1; have hfz42_2 := blk_frozen BK300.out 2) | ((with_reducible refine gate_dst (N := 89) rfl ?_); refine Kd.R_lit k41 _ 41 ?hg (N := 89) ?hd (xs := ([(⟨(⟨2024, 2, 29⟩ : S23), 0, 0, 0, 0⟩ : S41), (⟨(⟨2024, 2, 29⟩ : S23), 23, 59, 59, 999999⟩ : S41), (⟨(⟨2024, 2, 29⟩ : S23), 24, 0, 0, 0⟩ : S41), (⟨(⟨2024, 2, 29⟩ : S23), 0, 60, 0, 0⟩ : S41), (⟨(⟨2024, 2, 29⟩ : S23), 0, 0, 60, 0⟩ : S41), (⟨(⟨2024, 2, 29⟩ : S23), 0, 0, 0, 1000000⟩ : S41), (⟨(⟨2024, 2, 29⟩ : S23), (-1), 0, 0, 0⟩ : S41), (⟨(⟨2024, 2, 29⟩ : S23), 0, 0, 0, (-1)⟩ : S41), (⟨(⟨0, 0, 0⟩ : S23), 0, 0, 0, 0⟩ : S41)] : List (S41))) (inner := [.int .i64 2024, .int .i64 2, .int .i64 29, .int .i64 0, .int .i64 0, .int .i64 0, .int .i64 0, .int .i64 2024, .int .i64 2, .int .i64 29, .int .i64 23, .int .i64 59, .int .i64 59, .int .i64 999999, .int .i64 2024, .int .i64 2, .int .i64 29, .int .i64 24, .int .i64 0, .int .i64 0, .int .i64 0, .int .i64 2024, .int .i64 2, .int .i64 29, .int .i64 0, .int .i64 60, .int .i64 0, .int .i64 0, .int .i64 2024, .int .i64 2, .int .i64 29, .int .i64 0, .int .i64 0, .int .i64 60, .int .i64 0, .int .i64 2024, .int .i64 2, .int .i64 29, .int .i64 0, .int .i64 0, .int .i64 0, .int .i64 1000000, .int .i64 2024, .int .i64 2, .int .i64 29, .int .i64 (-1), .int .i64 0, .int .i64 0, .int .i64 0, .int .i64 2024, .int .i64 2, .int .i64 29, .int .i64 0, .int .i64 0, .int .i64 0, .int .i64 (-1), .int .i64 0, .int .i64 0, .int .i64 0, .int .i64 0, .int .i64 0, .int .i64 0, .int .i64 0]) (ok := fun _ => True) (okp := fun _ => True) ?hr ?hp (fun _ hk => hk) trivial (Below.refl _ _) (Nat.le_refl _) (by simp) ?_; (case hd => rfl); (case hg => rfl); (case hr => first | (go_simp; done) | (go_simp; rfl)); (case hp => exact (Reps.c7 (show Kd.M k41 _ _ _ (⟨(⟨2024, 2, 29⟩ : S23), 0, 0, 0, 0⟩ : S41) [.int .i64 2024, .int .i64 2, .int .i64 29, .int .i64 0, .int .i64 0, .int .i64 0, .int .i64 0] from (k41_mkM _ _ _ (⟨(⟨2024, 2, 29⟩ : S23), 0, 0, 0, 0⟩ : S41) )) (Reps.c7 (show Kd.M k41 _ _ _ (⟨(⟨2024, 2, 29⟩ : S23), 23, 59, 59, 999999⟩ : S41) [.int .i64 2024, .int .i64 2, .int .i64 29, .int .i64 23, .int .i64 59, .int .i64 59, .int .i64 999999] from (k41_mkM _ _ _ (⟨(⟨2024, 2, 29⟩ : S23), 23, 59, 59, 999999⟩ : S41) )) (Reps.c7 (show Kd.M k41 _ _ _ (⟨(⟨2024, 2, 29⟩ : S23), 24, 0, 0, 0⟩ : S41) [.int .i64 2024, .int .i64 2, .int .i64 29, .int .i64 24, .int .i64 0, .int .i64 0, .int .i64 0] from (k41_mkM _ _ _ (⟨(⟨2024, 2, 29⟩ : S23), 24, 0, 0, 0⟩ : S41) )) (Reps.c7 (show Kd.M k41 _ _ _ (⟨(⟨2024, 2, 29⟩ : S23), 0, 60, 0, 0⟩ : S41) [.int .i64 2024, .int .i64 2, .int .i64 29, .int .i64 0, .int .i64 60, .int .i64 0, .int .i64 0] from (k41_mkM _ _ _ (⟨(⟨2024, 2, 29⟩ : S23), 0, 60, 0, 0⟩ : S41) )) (Reps.c7 (show Kd.M k41 _ _ _ (⟨(⟨2024, 2, 29⟩ : S23), 0, 0, 60, 0⟩ : S41) [.int .i64 2024, .int .i64 2, .int .i64 29, .int .i64 0, .int .i64 0, .int .i64 60, .int .i64 0] from (k41_mkM _ _ _ (⟨(⟨2024, 2, 29⟩ : S23), 0, 0, 60, 0⟩ : S41) )) (Reps.c7 (show Kd.M k41 _ _ _ (⟨(⟨2024, 2, 29⟩ : S23), 0, 0, 0, 1000000⟩ : S41) [.int .i64 2024, .int .i64 2, .int .i64 29, .int .i64 0, .int .i64 0, .int .i64 0, .int .i64 1000000] from (k41_mkM _ _ _ (⟨(⟨2024, 2, 29⟩ : S23), 0, 0, 0, 1000000⟩ : S41) )) (Reps.c7 (show Kd.M k41 _ _ _ (⟨(⟨2024, 2, 29⟩ : S23), (-1), 0, 0, 0⟩ : S41) [.int .i64 2024, .int .i64 2, .int .i64 29, .int .i64 (-1), .int .i64 0, .int .i64 0, .int .i64 0] from (k41_mkM _ _ _ (⟨(⟨2024, 2, 29⟩ : S23), (-1), 0, 0, 0⟩ : S41) )) (Reps.c7 (show Kd.M k41 _ _ _ (⟨(⟨2024, 2, 29⟩ : S23), 0, 0, 0, (-1)⟩ : S41) [.int .i64 2024, .int .i64 2, .int .i64 29, .int .i64 0, .int .i64 0, .int .i64 0, .int .i64 (-1)] from (k41_mkM _ _ _ (⟨(⟨2024, 2, 29⟩ : S23), 0, 0, 0, (-1)⟩ : S41) )) (Reps.c7 (show Kd.M k41 _ _ _ (⟨(⟨0, 0, 0⟩ : S23), 0, 0, 0, 0⟩ : S41) [.int .i64 0, .int .i64 0, .int .i64 0, .int .i64 0, .int .i64 0, .int .i64 0, .int .i64 0] from (k41_mkM _ _ _ (⟨(⟨0, 0, 0⟩ : S23), 0, 0, 0, 0⟩ : S41) )) (Reps.none _ _))))))))))); intro v302 w43 ho44 hb hg_ hnew_; clear hg_ hnew_; (first | rw [← Ny301.out] at ho44 | (simp only [Int.reduceToNat] at ho44; rw [← Ny301.out] at ho44)); have n0_ := Aside0.mk (Kd.R_below (by (with_reducible repeat (first | apply Kd.R_alloc | apply Kd.R_drewN | apply Kd.R_drew)); exact (Kd.R_mono (Kd.R_far (p := ⟨gb300, 2, none⟩) (Kd.R_far (p := ⟨gb300, 1, none⟩) (Kd.R_far (p := ⟨gb300, 0, none⟩) (Kd.R_types HO_35.out BK300.out (by decide)) (fun _ hk => hk.2) (.int .i64 2024)) (fun _ hk => hk.2) (.int .i64 2)) (fun _ hk => hk.2) (.int .i64 29)) (fun _ h_ => h_.1))) hb); have n1_ := Aside0.mk (Kd.R_lower ho44 (below_size (by repeat (first | (with_reducible first | exact HB.out | apply below_alloc | apply pw_below_drewN | apply below_drew1 | refine below_set ?_ GE300.out) | exact HB.out)))); have n2_ := Aside0.mk (blk_below (g := gb300) (o := .cells #[.int .i64 2024, .int .i64 2, .int .i64 29] 23 (0, 0)) (by (with_reducible repeat (first | refine blk_drewN ?_ _ | refine blk_drew ?_ | refine blk_alloc ?_ _)); refine blk_put (cs := #[.int .i64 2024, .int .i64 2, .int .i64 0]) ?_ 2 _ rfl; (with_reducible repeat (first | refine blk_drewN ?_ _ | refine blk_drew ?_ | refine blk_alloc ?_ _)); refine blk_put (cs := #[.int .i64 2024, .int .i64 0, .int .i64 0]) ?_ 1 _ rfl; (with_reducible repeat (first | refine blk_drewN ?_ _ | refine blk_drew ?_ | refine blk_alloc ?_ _)); refine blk_put (cs := #[.int .i64 0, .int .i64 0, .int .i64 0]) ?_ 0 _ rfl; (with_reducible repeat (first | refine blk_drewN ?_ _ | refine blk_drew ?_ | refine blk_alloc ?_ _)); exact BK300.out) hb); have n3_ := Aside0.mk (below_step (by repeat (first | (with_reducible first | exact HB.out | apply below_alloc | apply pw_below_drewN | apply below_drew1 | refine below_set ?_ GE300.out) | exact HB.out)) hb); clear HO_35; clear BK300; clear HB; have HO_35 := n0_; have HO303 := n1_; have BK300 := n2_; have HB := n3_; clear n0_ n1_ n2_ n3_; clear hb ho44; obtain ⟨Ao45, co45, eo45⟩ := Kd.R_slice HO303.out; subst eo45))
              go_loopg [91] k2 (fun kq v91 w' => ∃ (x91_3 : Int), v91 = .int .i64 x91_3 ∧ Aside0 (clepsydralaw03_CivilKnown.l4 kq y301 (y301.length : Int) x91_3 = some r) ∧ Aside0 (kq ≤ k2) ∧ Aside0 (Kd.R k41 41 w' w.heap.size (fun _ => True) (.slice Ao45 y301.length co45) y301) ∧ Aside0 (w'.heap[gb300]? = some (.cells #[.int .i64 2024, .int .i64 2, .int .i64 29] 23 (0, 0))) ∧ Aside0 (Below w.heap.size w w'))
              case atStart => exact ⟨(0), (by first | rfl | (simp; done) | (simp [*]; done)), H', ⟨Nat.le_refl _⟩, ⟨by (with_reducible repeat (first | apply Kd.R_alloc | apply Kd.R_drewN | apply Kd.R_drew)); exact HO303.out⟩, ⟨by (with_reducible repeat (first | refine blk_drewN ?_ _ | refine blk_drew ?_ | refine blk_alloc ?_ _)); exact BK300.out⟩, ⟨by repeat (first | (with_reducible first | exact HB.out | apply below_alloc | apply pw_below_drewN | apply below_drew1 | refine below_set ?_ GE300.out) | exact HB.out)⟩⟩
              case round =>
                clear H'
                try clear c1
                try clear c2
                try clear p2
                try clear q2
                try clear hx2
                try clear c3
                try clear c4
                try clear c4b0
                try clear c5
                try clear c5b0
                try clear c6
                try clear c6b0
                try clear p6
                try clear c7
                try clear c7b0
                try clear c8
                try clear c11
                try clear c11b0
                try clear c12
                try clear c12b0
                try clear c13
                try clear c13b0
                try clear c15
                try clear c20
                try clear c20b0
                try clear c21
                try clear c21b0
                try clear c22
                try clear c22b0
                try clear c24
                try clear c26
                try clear c27
                try clear c27b0
                try clear c28
                try clear c28b0
                try clear p28
                try clear q28
                try clear hx28
                try clear p29
                try clear q29
                try clear hx29
                try clear c30
                try clear c32
                try clear hcz42_0
                try clear hcz42_1
                try clear hcz42_2
                try clear hfz42_0
                try clear hfz42_1
                try clear hfz42_2
                try clear hx286_0
                try clear hx290_0
                try clear hx295_0
                try clear p2
                try clear p286
                try clear p290
                try clear p295
                try clear p6
                try clear q2
                try clear q286
                try clear q290
                try clear q295
                obtain ⟨x91_3, rfl, HA, HK3, HO_89, BK300, HB⟩ := hrel
                cases gk with
                | zero => exact absurd HA.out (by simp [clepsydralaw03_CivilKnown.l4])
                | succ k3 =>
                  have H := HA.out
                  clear HA
                  simp only [clepsydralaw03_CivilKnown.l4] at H
                  by_cases c46 : x91_3 < (y301.length : Int)
                  · rw [if_pos c46] at H
                    have c46b0 : decide (x91_3 < (y301.length : Int)) = true := decide_eq_true c46
                    clear c46
                    by_cases c47 : 0 ≤ x91_3
                    · rw [if_pos c47] at H
                      have c47b0 : decide (0 ≤ x91_3) = true := decide_eq_true c47
                      clear c47
                      by_cases c48 : x91_3 < (y301.length : Int)
                      · rw [if_pos c48] at H
                        have c48b0 : decide (x91_3 < (y301.length : Int)) = true := decide_eq_true c48
                        clear c48
                        replace H := Option.bind_eq_some_iff.mp H
                        obtain ⟨t306, A490, H⟩ := H
                        replace H : (if t306 = true then (clepsydralaw03_CivilKnown.l4 k3 y301 (y301.length : Int) (wrap64 (x91_3 + 1))) else (none)) = some r := H
                        have A49 := Aside0.mk A490
                        clear A490
                        by_cases c50 : t306 = true
                        · subst c50
                          have H1 : (clepsydralaw03_CivilKnown.l4 k3 y301 (y301.length : Int) (wrap64 (x91_3 + 1))) = some r := by rw [if_pos rfl] at H; exact H
                          clear H
                          have H := H1
                          clear H1
                          have H' := Aside0.mk H
                          clear H
                          have p304 : 0 ≤ (x91_3 : Int) := of_decide_eq_true (by first | (with_reducible assumption) | assumption)
                          have q304 : x91_3 < (y301.length : Int) := of_decide_eq_true (by first | (with_reducible assumption) | assumption)
                          obtain ⟨ad304, e304, hx304_0, hx304_1, hx304_2, hx304_3, hx304_4, hx304_5, hx304_6⟩ := at_T41 (Kd.R_reads' HO_89.out).2.2 x91_3 p304 q304
                          cases e304
                          replace p304 := eq_true p304
                          replace q304 := eq_true q304
                          go_wp2_with (first | ((with_reducible refine gate_dst (N := 10) rfl ?_); refine box_event ?hg (N := 10) ?hd (cs := #[.int .i64 0, .int .i64 0, .int .i64 0, .int .i64 0, .int .i64 0, .int .i64 0, .int .i64 0]) (t := 41) ?hr ?_; (case hd => rfl); (case hg => rfl); (case hr => first | (go_simp; done) | (go_simp; rfl)); intro gb305 hg w51 hbox hb; have n0_ := Aside0.mk (Kd.R_below (Kd.R_elderB (by (with_reducible repeat (first | apply Kd.R_alloc | apply Kd.R_drewN | apply Kd.R_drew)); exact HO_89.out) gb305 (Nat.le_of_eq hg.symm)) hb); have n1_ := Aside0.mk (blk_below (g := gb300) (o := .cells #[.int .i64 2024, .int .i64 2, .int .i64 29] 23 (0, 0)) (by (with_reducible repeat (first | refine blk_drewN ?_ _ | refine blk_drew ?_ | refine blk_alloc ?_ _)); exact BK300.out) hb); have n2_ := Aside0.mk (below_step (by repeat (first | (with_reducible first | exact HB.out | apply below_alloc | apply pw_below_drewN | apply below_drew1 | refine below_set ?_ GE300.out) | exact HB.out)) hb); have n3_ := Aside0.mk (hbox); have n4_ := Aside0.mk ((by rw [hg]; exact (below_size (by repeat (first | (with_reducible first | exact HB.out | apply below_alloc | apply pw_below_drewN | apply below_drew1 | refine below_set ?_ GE300.out) | exact HB.out))) : w.heap.size ≤ gb305)); have n5_ := Aside0.mk ((by rw [hg]; exact (below_size (by repeat (first | (with_reducible first | exact HB.out | apply below_alloc | apply pw_below_drewN | apply below_drew1 | refine below_set ?_ GE300.out) | exact HB.out))) : w.heap.size ≤ gb305)); have n6_ := Aside0.mk ((by rw [hg]; exact Nat.ne_of_lt (blk_lt (g := gb300) (o := .cells #[.int .i64 2024, .int .i64 2, .int .i64 29] 23 (0, 0)) (by (with_reducible repeat (first | refine blk_drewN ?_ _ | refine blk_drew ?_ | refine blk_alloc ?_ _)); exact BK300.out)) : gb300 ≠ gb305)); have n7_ := Aside0.mk ((by rw [hg]; exact Nat.ne_of_gt (blk_lt (g := gb300) (o := .cells #[.int .i64 2024, .int .i64 2, .int .i64 29] 23 (0, 0)) (by (with_reducible repeat (first | refine blk_drewN ?_ _ | refine blk_drew ?_ | refine blk_alloc ?_ _)); exact BK300.out)) : gb305 ≠ gb300)); clear HO_89; clear BK300; clear HB; have HO_89 := n0_; have BK300 := n1_; have HB := n2_; have BK305 := n3_; have GW305 := n4_; have GE305 := n5_; have NB300_305 := n6_; have NB305_300 := n7_; clear n0_ n1_ n2_ n3_ n4_ n5_ n6_ n7_; clear hb hbox hg; have hnb52 := NB305_300.out; have hnc52 := NB300_305.out; have hcz53_0 : w51.cell? ⟨gb305, 0, none⟩ = some (.int .i64 0) := (blk_cell BK305.out 0).trans rfl; have hcz53_1 : w51.cell? ⟨gb305, 1, none⟩ = some (.int .i64 0) := (blk_cell BK305.out 1).trans rfl; have hcz53_2 : w51.cell? ⟨gb305, 2, none⟩ = some (.int .i64 0) := (blk_cell BK305.out 2).trans rfl; have hcz53_3 : w51.cell? ⟨gb305, 3, none⟩ = some (.int .i64 0) := (blk_cell BK305.out 3).trans rfl; have hcz53_4 : w51.cell? ⟨gb305, 4, none⟩ = some (.int .i64 0) := (blk_cell BK305.out 4).trans rfl; have hcz53_5 : w51.cell? ⟨gb305, 5, none⟩ = some (.int .i64 0) := (blk_cell BK305.out 5).trans rfl; have hcz53_6 : w51.cell? ⟨gb305, 6, none⟩ = some (.int .i64 0) := (blk_cell BK305.out 6).trans rfl; have hfz53_0 := blk_frozen BK305.out 0; have hfz53_1 := blk_frozen BK305.out 1; have hfz53_2 := blk_frozen BK305.out 2; have hfz53_3 := blk_frozen BK305.out 3; have hfz53_4 := blk_frozen BK305.out 4; have hfz53_5 := blk_frozen BK305.out 5; have hfz53_6 := blk_frozen BK305.out 6) | ((with_reducible refine gate_callee (f := 6) rfl ?_); refine goesL_ (some 96) rfl rfl Try.func6 (by kernel_rfl) rfl #[.agg #[.int .i64 ((rd_T41 y301 x91_3).f0.f0), .int .i64 ((rd_T41 y301 x91_3).f0.f1), .int .i64 ((rd_T41 y301 x91_3).f0.f2), .int .i64 ((rd_T41 y301 x91_3).f1), .int .i64 ((rd_T41 y301 x91_3).f2), .int .i64 ((rd_T41 y301 x91_3).f3), .int .i64 ((rd_T41 y301 x91_3).f4)]] rfl (by (try simp only [List.map_toArray, List.map_cons, List.map_nil]); first | done | rfl | (simp only [List.length_drop, List.length_take]; rfl)) ?_; (with_reducible refine (clepsydralaw03_CivilMicro.calls k3 ((rd_T41 y301 x91_3).f0.f0) ((rd_T41 y301 x91_3).f0.f1) ((rd_T41 y301 x91_3).f0.f2) ((rd_T41 y301 x91_3).f1) ((rd_T41 y301 x91_3).f2) ((rd_T41 y301 x91_3).f3) ((rd_T41 y301 x91_3).f4) true _ A49.out).mono ?_); rintro e w54 ⟨rfl, hb⟩; refine ⟨_, rfl, ?_⟩; have n0_ := Aside0.mk (Kd.R_below (by (with_reducible repeat (first | apply Kd.R_alloc | apply Kd.R_drewN | apply Kd.R_drew)); exact (Kd.R_mono (Kd.R_far (p := ⟨gb305, 6, none⟩) (Kd.R_far (p := ⟨gb305, 5, none⟩) (Kd.R_far (p := ⟨gb305, 4, none⟩) (Kd.R_far (p := ⟨gb305, 3, none⟩) (Kd.R_far (p := ⟨gb305, 2, none⟩) (Kd.R_far (p := ⟨gb305, 1, none⟩) (Kd.R_far (p := ⟨gb305, 0, none⟩) (Kd.R_mono HO_89.out (fun k_ hk => (⟨hk, hk.2⟩ : _ ∧ k_ ≠ gb305))) (fun _ hk => hk.2) (.int .i64 ((rd_T41 y301 x91_3).f0.f0))) (fun _ hk => hk.2) (.int .i64 ((rd_T41 y301 x91_3).f0.f1))) (fun _ hk => hk.2) (.int .i64 ((rd_T41 y301 x91_3).f0.f2))) (fun _ hk => hk.2) (.int .i64 ((rd_T41 y301 x91_3).f1))) (fun _ hk => hk.2) (.int .i64 ((rd_T41 y301 x91_3).f2))) (fun _ hk => hk.2) (.int .i64 ((rd_T41 y301 x91_3).f3))) (fun _ hk => hk.2) (.int .i64 ((rd_T41 y301 x91_3).f4))) (fun _ h_ => h_.1))) hb); have n1_ := Aside0.mk (blk_below (g := gb300) (o := .cells #[.int .i64 2024, .int .i64 2, .int .i64 29] 23 (0, 0)) (by (with_reducible repeat (first | refine blk_drewN ?_ _ | refine blk_drew ?_ | refine blk_alloc ?_ _)); refine blk_far ?_ NB300_305.out _; (with_reducible repeat (first | refine blk_drewN ?_ _ | refine blk_drew ?_ | refine blk_alloc ?_ _)); refine blk_far ?_ NB300_305.out _; (with_reducible repeat (first | refine blk_drewN ?_ _ | refine blk_drew ?_ | refine blk_alloc ?_ _)); refine blk_far ?_ NB300_305.out _; (with_reducible repeat (first | refine blk_drewN ?_ _ | refine blk_drew ?_ | refine blk_alloc ?_ _)); refine blk_far ?_ NB300_305.out _; (with_reducible repeat (first | refine blk_drewN ?_ _ | refine blk_drew ?_ | refine blk_alloc ?_ _)); refine blk_far ?_ NB300_305.out _; (with_reducible repeat (first | refine blk_drewN ?_ _ | refine blk_drew ?_ | refine blk_alloc ?_ _)); refine blk_far ?_ NB300_305.out _; (with_reducible repeat (first | refine blk_drewN ?_ _ | refine blk_drew ?_ | refine blk_alloc ?_ _)); refine blk_far ?_ NB300_305.out _; (with_reducible repeat (first | refine blk_drewN ?_ _ | refine blk_drew ?_ | refine blk_alloc ?_ _)); exact BK300.out) hb); have n2_ := Aside0.mk (blk_below (g := gb305) (o := .cells #[.int .i64 ((rd_T41 y301 x91_3).f0.f0), .int .i64 ((rd_T41 y301 x91_3).f0.f1), .int .i64 ((rd_T41 y301 x91_3).f0.f2), .int .i64 ((rd_T41 y301 x91_3).f1), .int .i64 ((rd_T41 y301 x91_3).f2), .int .i64 ((rd_T41 y301 x91_3).f3), .int .i64 ((rd_T41 y301 x91_3).f4)] 41 (0, 0)) (by (with_reducible repeat (first | refine blk_drewN ?_ _ | refine blk_drew ?_ | refine blk_alloc ?_ _)); refine blk_put (cs := #[.int .i64 ((rd_T41 y301 x91_3).f0.f0), .int .i64 ((rd_T41 y301 x91_3).f0.f1), .int .i64 ((rd_T41 y301 x91_3).f0.f2), .int .i64 ((rd_T41 y301 x91_3).f1), .int .i64 ((rd_T41 y301 x91_3).f2), .int .i64 ((rd_T41 y301 x91_3).f3), .int .i64 0]) ?_ 6 _ rfl; (with_reducible repeat (first | refine blk_drewN ?_ _ | refine blk_drew ?_ | refine blk_alloc ?_ _)); refine blk_put (cs := #[.int .i64 ((rd_T41 y301 x91_3).f0.f0), .int .i64 ((rd_T41 y301 x91_3).f0.f1), .int .i64 ((rd_T41 y301 x91_3).f0.f2), .int .i64 ((rd_T41 y301 x91_3).f1), .int .i64 ((rd_T41 y301 x91_3).f2), .int .i64 0, .int .i64 0]) ?_ 5 _ rfl; (with_reducible repeat (first | refine blk_drewN ?_ _ | refine blk_drew ?_ | refine blk_alloc ?_ _)); refine blk_put (cs := #[.int .i64 ((rd_T41 y301 x91_3).f0.f0), .int .i64 ((rd_T41 y301 x91_3).f0.f1), .int .i64 ((rd_T41 y301 x91_3).f0.f2), .int .i64 ((rd_T41 y301 x91_3).f1), .int .i64 0, .int .i64 0, .int .i64 0]) ?_ 4 _ rfl; (with_reducible repeat (first | refine blk_drewN ?_ _ | refine blk_drew ?_ | refine blk_alloc ?_ _)); refine blk_put (cs := #[.int .i64 ((rd_T41 y301 x91_3).f0.f0), .int .i64 ((rd_T41 y301 x91_3).f0.f1), .int .i64 ((rd_T41 y301 x91_3).f0.f2), .int .i64 0, .int .i64 0, .int .i64 0, .int .i64 0]) ?_ 3 _ rfl; (with_reducible repeat (first | refine blk_drewN ?_ _ | refine blk_drew ?_ | refine blk_alloc ?_ _)); refine blk_put (cs := #[.int .i64 ((rd_T41 y301 x91_3).f0.f0), .int .i64 ((rd_T41 y301 x91_3).f0.f1), .int .i64 0, .int .i64 0, .int .i64 0, .int .i64 0, .int .i64 0]) ?_ 2 _ rfl; (with_reducible repeat (first | refine blk_drewN ?_ _ | refine blk_drew ?_ | refine blk_alloc ?_ _)); refine blk_put (cs := #[.int .i64 ((rd_T41 y301 x91_3).f0.f0), .int .i64 0, .int .i64 0, .int .i64 0, .int .i64 0, .int .i64 0, .int .i64 0]) ?_ 1 _ rfl; (with_reducible repeat (first | refine blk_drewN ?_ _ | refine blk_drew ?_ | refine blk_alloc ?_ _)); refine blk_put (cs := #[.int .i64 0, .int .i64 0, .int .i64 0, .int .i64 0, .int .i64 0, .int .i64 0, .int .i64 0]) ?_ 0 _ rfl; (with_reducible repeat (first | refine blk_drewN ?_ _ | refine blk_drew ?_ | refine blk_alloc ?_ _)); exact BK305.out) hb); have n3_ := Aside0.mk (below_step (by repeat (first | (with_reducible first | exact HB.out | apply below_alloc | apply pw_below_drewN | apply below_drew1 | refine below_set ?_ GE300.out | refine below_set ?_ GE305.out) | exact HB.out)) hb); clear HO_89; clear BK300; clear BK305; clear HB; have HO_89 := n0_; have BK300 := n1_; have BK305 := n2_; have HB := n3_; clear n0_ n1_ n2_ n3_; (try clear hb); (try clear hb2); (try clear hk); (try clear hi)))
                          go_roundg k3
                          case measure => have := HK1.out; have := HK2.out; have := HK3.out; omega
                          case rel => exact ⟨(wrap64 (x91_3 + 1)), (by first | rfl | (simp; done) | (simp [*]; done)), H', ⟨by have := HK1.out; have := HK2.out; have := HK3.out; omega⟩, ⟨by (with_reducible repeat (first | apply Kd.R_alloc | apply Kd.R_drewN | apply Kd.R_drew)); exact Kd.R_mono HO_89.out (fun _ hk => trivial)⟩, ⟨by (with_reducible repeat (first | refine blk_drewN ?_ _ | refine blk_drew ?_ | refine blk_alloc ?_ _)); exact BK300.out⟩, ⟨by repeat (first | (with_reducible first | exact HB.out | apply below_alloc | apply pw_below_drewN | apply below_drew1 | refine below_set ?_ GE300.out | refine below_set ?_ GE305.out) | exact HB.out)⟩⟩
                        · replace c50 := Bool.eq_false_iff.mpr c50
                          subst c50
                          have H1 : (none) = some r := by rw [if_neg (show ¬ (false = true) by decide)] at H; exact H
                          clear H
                          have H := H1
                          clear H1
                          exact absurd H (by simp)
                      · rw [if_neg c48] at H
                        exact absurd H (by simp)
                    · rw [if_neg c47] at H
                      exact absurd H (by simp)
                  · rw [if_neg c46] at H
                    have c46b0 : decide (x91_3 < (y301.length : Int)) = false := decide_eq_false c46
                    clear c46
                    replace H := Option.bind_eq_some_iff.mp H
                    obtain ⟨t307, A550, H⟩ := H
                    replace H : (some t307) = some r := H
                    have A55 := Aside0.mk A550
                    clear A550
                    obtain rfl := Option.some.inj H
                    go_wp2_with (first | ((with_reducible refine gate_callee (f := 16) rfl ?_); refine goesL_ (some 99) rfl rfl Try.func16 (by kernel_rfl) rfl #[] rfl (by (try simp only [List.map_toArray, List.map_cons, List.map_nil]); first | done | rfl | (simp only [List.length_drop, List.length_take]; rfl)) ?_; (with_reducible refine (clepsydralaw03_works.calls k3  t307 _ A55.out).mono ?_); rintro e w56 ⟨rfl, hb⟩; refine ⟨_, rfl, ?_⟩; have n0_ := Aside0.mk (Kd.R_below (by (with_reducible repeat (first | apply Kd.R_alloc | apply Kd.R_drewN | apply Kd.R_drew)); exact HO_89.out) hb); have n1_ := Aside0.mk (blk_below (g := gb300) (o := .cells #[.int .i64 2024, .int .i64 2, .int .i64 29] 23 (0, 0)) (by (with_reducible repeat (first | refine blk_drewN ?_ _ | refine blk_drew ?_ | refine blk_alloc ?_ _)); exact BK300.out) hb); have n2_ := Aside0.mk (below_step (by repeat (first | (with_reducible first | exact HB.out | apply below_alloc | apply pw_below_drewN | apply below_drew1 | refine below_set ?_ GE300.out) | exact HB.out)) hb); clear HO_89; clear BK300; clear HB; have HO_89 := n0_; have BK300 := n1_; have HB := n2_; clear n0_ n1_ n2_; (try clear hb); (try clear hb2); (try clear hk); (try clear hi)))
                    go_ret
                    exact ⟨by first | rfl | (simp [errW_none, errW_some] <;> rfl) | (simp [*, errW_none, errW_some] <;> rfl), by repeat (first | (with_reducible first | exact HB.out | apply below_alloc | apply pw_below_drewN | apply below_drew1 | refine below_set ?_ GE300.out) | exact HB.out)⟩

/-- THE ONE PURE STATEMENT of clepsydralaw03_CivilKnown: yours. -/
def clepsydralaw03_CivilKnown.Pure : Prop := ∃ k, clepsydralaw03_CivilKnown.f k  = some true
theorem clepsydralaw03_CivilKnown.walk (P : clepsydralaw03_CivilKnown.Pure)  (w : World)  :
    Calls Try.prog 8 #[] w fun e w' => e = .returned (.bool true) ∧ Below w.heap.size w w' := by
  obtain ⟨k, h⟩ := P  
  refine (clepsydralaw03_CivilKnown.calls k  true w h).mono ?_
  rintro e w' ⟨rfl, hd⟩
  exact ⟨rfl, hd⟩

end Go.Proofs.Ytgeclcepfcfekaa.All
