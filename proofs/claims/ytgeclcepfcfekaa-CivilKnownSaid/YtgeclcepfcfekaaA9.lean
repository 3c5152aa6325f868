/- Printed by this session's own program (wip/tools/xprint.py) with the help of the kit's print: functions as Lean functions, each with its contract over the translation. -/
import Derived.Test.YtgeclcepfcfekaaA7
namespace Go.Proofs.Ytgeclcepfcfekaa.All
open Go.RowKit Go.Proofs.YtgeclcepfcfekaaW.PrintWords Go.Proofs.YtgeclcepfcfekaaW.PrintLast Go.Proofs.YtgeclcepfcfekaaW.PrintMore
attribute [local go_sem] max2_int min2_int max_two min_two max_three min_three max_four min_four   -- for this text's walks alone
set_option linter.unusedVariables false
set_option linter.unusedSimpArgs false


attribute [local go_sem high] eqA23 eqA41
/-! ### clepsydralaw03_CivilFrom: function 7 -/
mutual
def clepsydralaw03_CivilFrom.j0 : Nat → Int → Int → Int → Int → Int → Int → Int → Int → Int → Int → Option (Bool)
  | 0, _, _, _, _, _, _, _, _, _, _ => none
  | k + 1, x0, x4, x6, x274000, x274001, x274002, x274003, x274004, x274005, x274006 => if x6 < (-719162) then (clepsydralaw03_CivilFrom.j1 k x0 x4 x6 true x274000 x274001 x274002 x274003 x274004 x274005 x274006) else (clepsydralaw03_CivilFrom.j1 k x0 x4 x6 (decide (x6 > 2932896)) x274000 x274001 x274002 x274003 x274004 x274005 x274006)
def clepsydralaw03_CivilFrom.j1 : Nat → Int → Int → Int → Bool → Int → Int → Int → Int → Int → Int → Int → Option (Bool)
  | 0, _, _, _, _, _, _, _, _, _, _, _ => none
  | k + 1, x0, x4, x6, x30, x274000, x274001, x274002, x274003, x274004, x274005, x274006 => if x30 = true then (if ((x274000 == 0 && (x274001 == 0 && (x274002 == 0))) && (x274003 == 0 && (x274004 == 0 && (x274005 == 0 && (x274006 == 0))))) = true then (if x4 = 6 then ((clepsydralaw03_works.f k).bind fun t274 => (some t274)) else (none)) else (none)) else ((civil_Micro.f x274000 x274001 x274002 x274003 x274004 x274005 x274006).bind fun bt275 => ((civil_Of.f k x6).bind fun bt277 => (if x4 = 0 then (if bt275.2 = 0 then (if bt275.1 = x0 then (if bt277.2.2.2 = 0 then (if (x274000 == bt277.1 && (x274001 == bt277.2.1 && (x274002 == bt277.2.2.1))) = true then ((clepsydralaw03_works.f k).bind fun t282 => (some t282)) else (none)) else (none)) else (none)) else (none)) else (none))))
end
def clepsydralaw03_CivilFrom.f (k : Nat) (a0 : Int) : Option (Bool) := (civil_FromMicro.f k a0).bind fun bt265 => (if (Int.tmod a0 86400000000) < 0 then (clepsydralaw03_CivilFrom.j0 k a0 bt265.2.2.2.2.2.2.2 (wrap64 ((wrap64 (Int.tdiv a0 86400000000)) - 1)) bt265.1 bt265.2.1 bt265.2.2.1 bt265.2.2.2.1 bt265.2.2.2.2.1 bt265.2.2.2.2.2.1 bt265.2.2.2.2.2.2.1) else (clepsydralaw03_CivilFrom.j0 k a0 bt265.2.2.2.2.2.2.2 (wrap64 (Int.tdiv a0 86400000000)) bt265.1 bt265.2.1 bt265.2.2.1 bt265.2.2.2.1 bt265.2.2.2.2.1 bt265.2.2.2.2.2.1 bt265.2.2.2.2.2.2.1))
theorem clepsydralaw03_CivilFrom.mono_l : ∀ k, (∀ y0 y1 y2 y3 y4 y5 y6 y7 y8 y9, LeO (clepsydralaw03_CivilFrom.j0 k y0 y1 y2 y3 y4 y5 y6 y7 y8 y9) (clepsydralaw03_CivilFrom.j0 (k + 1) y0 y1 y2 y3 y4 y5 y6 y7 y8 y9)) ∧ (∀ y0 y1 y2 y3 y4 y5 y6 y7 y8 y9 y10, LeO (clepsydralaw03_CivilFrom.j1 k y0 y1 y2 y3 y4 y5 y6 y7 y8 y9 y10) (clepsydralaw03_CivilFrom.j1 (k + 1) y0 y1 y2 y3 y4 y5 y6 y7 y8 y9 y10))
  | 0 => ⟨fun _ _ _ _ _ _ _ _ _ _ r h => by simp [clepsydralaw03_CivilFrom.j0] at h, fun _ _ _ _ _ _ _ _ _ _ _ r h => by simp [clepsydralaw03_CivilFrom.j1] at h⟩
  | k + 1 => by
    obtain ⟨ih0, ih1⟩ := clepsydralaw03_CivilFrom.mono_l k
    refine ⟨?_, ?_⟩
    · intro y0 y1 y2 y3 y4 y5 y6 y7 y8 y9
      unfold clepsydralaw03_CivilFrom.j0
      repeat' first
      | (with_reducible exact ih0 _ _ _ _ _ _ _ _ _ _)
      | (with_reducible exact ih1 _ _ _ _ _ _ _ _ _ _ _)
      | (with_reducible exact civil_FromMicro.mono _ _)
      | (with_reducible exact civil_Of.mono _ _)
      | (with_reducible exact clepsydralaw03_works.mono _)
      | (with_reducible exact LeO.refl _)
      | (with_reducible exact LeO.none _)
      | (with_reducible refine LeO.ite ?_ ?_)
      | (with_reducible refine LeO.bind ?_ (fun _ => ?_))
      | exact ih0 _ _ _ _ _ _ _ _ _ _
      | exact ih1 _ _ _ _ _ _ _ _ _ _ _
      | exact civil_FromMicro.mono _ _
      | exact civil_Of.mono _ _
      | exact clepsydralaw03_works.mono _
      | exact LeO.none _
      | refine LeO.ite ?_ ?_
      | refine LeO.bind ?_ (fun _ => ?_)
    · intro y0 y1 y2 y3 y4 y5 y6 y7 y8 y9 y10
      unfold clepsydralaw03_CivilFrom.j1
      repeat' first
      | (with_reducible exact ih0 _ _ _ _ _ _ _ _ _ _)
      | (with_reducible exact ih1 _ _ _ _ _ _ _ _ _ _ _)
      | (with_reducible exact civil_FromMicro.mono _ _)
      | (with_reducible exact civil_Of.mono _ _)
      | (with_reducible exact clepsydralaw03_works.mono _)
      | (with_reducible exact LeO.refl _)
      | (with_reducible exact LeO.none _)
      | (with_reducible refine LeO.ite ?_ ?_)
      | (with_reducible refine LeO.bind ?_ (fun _ => ?_))
      | exact ih0 _ _ _ _ _ _ _ _ _ _
      | exact ih1 _ _ _ _ _ _ _ _ _ _ _
      | exact civil_FromMicro.mono _ _
      | exact civil_Of.mono _ _
      | exact clepsydralaw03_works.mono _
      | exact LeO.none _
      | refine LeO.ite ?_ ?_
      | refine LeO.bind ?_ (fun _ => ?_)
theorem clepsydralaw03_CivilFrom.mono : ∀ a0 k, LeO (clepsydralaw03_CivilFrom.f k a0) (clepsydralaw03_CivilFrom.f (k + 1) a0) := by
  intro a0 k
  obtain ⟨ih0, ih1⟩ := clepsydralaw03_CivilFrom.mono_l k
  unfold clepsydralaw03_CivilFrom.f
  repeat' first
      | (with_reducible exact ih0 _ _ _ _ _ _ _ _ _ _)
      | (with_reducible exact ih1 _ _ _ _ _ _ _ _ _ _ _)
      | (with_reducible exact civil_FromMicro.mono _ _)
      | (with_reducible exact civil_Of.mono _ _)
      | (with_reducible exact clepsydralaw03_works.mono _)
      | (with_reducible exact LeO.refl _)
      | (with_reducible exact LeO.none _)
      | (with_reducible refine LeO.ite ?_ ?_)
      | (with_reducible refine LeO.bind ?_ (fun _ => ?_))
      | exact ih0 _ _ _ _ _ _ _ _ _ _
      | exact ih1 _ _ _ _ _ _ _ _ _ _ _
      | exact civil_FromMicro.mono _ _
      | exact civil_Of.mono _ _
      | exact clepsydralaw03_works.mono _
      | exact LeO.none _
      | refine LeO.ite ?_ ?_
      | refine LeO.bind ?_ (fun _ => ?_)
set_option maxHeartbeats 8000000 in
set_option maxRecDepth 100000 in
theorem clepsydralaw03_CivilFrom.calls (k : Nat) (a0 : Int) (r : Bool) (w : World) (h : clepsydralaw03_CivilFrom.f k a0 = some r) :
    Calls Try.prog 7 #[.int .i64 a0] w fun e w' => e = .returned (.bool r) ∧ Below w.heap.size w w' := by
  have hu41 := Try.underlying41
  have hu23 := Try.underlying23
  have HB := Aside0.mk (Below.refl w.heap.size w)
  have H : ((civil_FromMicro.f k a0).bind fun bt265 => (if (Int.tmod a0 86400000000) < 0 then (clepsydralaw03_CivilFrom.j0 k a0 bt265.2.2.2.2.2.2.2 (wrap64 ((wrap64 (Int.tdiv a0 86400000000)) - 1)) bt265.1 bt265.2.1 bt265.2.2.1 bt265.2.2.2.1 bt265.2.2.2.2.1 bt265.2.2.2.2.2.1 bt265.2.2.2.2.2.2.1) else (clepsydralaw03_CivilFrom.j0 k a0 bt265.2.2.2.2.2.2.2 (wrap64 (Int.tdiv a0 86400000000)) bt265.1 bt265.2.1 bt265.2.2.1 bt265.2.2.2.1 bt265.2.2.2.2.1 bt265.2.2.2.2.2.1 bt265.2.2.2.2.2.2.1))) = some r := h
  clear h
  replace H := Option.bind_eq_some_iff.mp H
  obtain ⟨⟨t265, t266, t267, t268, t269, t270, t271, t272⟩, A20, H⟩ := H
  replace H : (if (Int.tmod a0 86400000000) < 0 then (clepsydralaw03_CivilFrom.j0 k a0 t272 (wrap64 ((wrap64 (Int.tdiv a0 86400000000)) - 1)) t265 t266 t267 t268 t269 t270 t271) else (clepsydralaw03_CivilFrom.j0 k a0 t272 (wrap64 (Int.tdiv a0 86400000000)) t265 t266 t267 t268 t269 t270 t271)) = some r := H
  have A2 := Aside0.mk A20
  clear A20
  have HC3 := Aside0.mk H
  clear H
  go_enter Try.func7, Try.ntmps7
  go_upto_if 22 with (first | ((with_reducible refine gate_callee (f := 22) rfl ?_); refine goesL_ (some 13) rfl rfl Try.func22 (by kernel_rfl) rfl #[.int .i64 a0] rfl (by (try simp only [List.map_toArray, List.map_cons, List.map_nil]); first | done | rfl | (simp only [List.length_drop, List.length_take]; rfl)) ?_; (with_reducible refine (civil_FromMicro.calls k a0 t265 t266 t267 t268 t269 t270 t271 t272 _ A2.out).mono ?_); rintro e w4 ⟨rfl, hb⟩; refine ⟨_, rfl, ?_⟩; have n0_ := Aside0.mk (below_step (by repeat (first | (with_reducible first | exact HB.out | apply below_alloc | apply pw_below_drewN | apply below_drew1) | exact HB.out)) hb); clear HB; have HB := n0_; clear n0_; (try clear hb); (try clear hb2); (try clear hk); (try clear hi)) | ((with_reducible refine gate_dst (N := 3) rfl ?_); refine box_event ?hg (N := 3) ?hd (cs := #[.int .i64 0, .int .i64 0, .int .i64 0, .int .i64 0, .int .i64 0, .int .i64 0, .int .i64 0]) (t := 41) ?hr ?_; (case hd => rfl); (case hg => rfl); (case hr => first | (go_simp; done) | (go_simp; rfl)); intro gb273 hg w5 hbox hb; have n0_ := Aside0.mk (below_step (by repeat (first | (with_reducible first | exact HB.out | apply below_alloc | apply pw_below_drewN | apply below_drew1) | exact HB.out)) hb); have n1_ := Aside0.mk (hbox); have n2_ := Aside0.mk ((by rw [hg]; exact (below_size (by repeat (first | (with_reducible first | exact HB.out | apply below_alloc | apply pw_below_drewN | apply below_drew1) | exact HB.out))) : w.heap.size ≤ gb273)); have n3_ := Aside0.mk ((by rw [hg]; exact (below_size (by repeat (first | (with_reducible first | exact HB.out | apply below_alloc | apply pw_below_drewN | apply below_drew1) | exact HB.out))) : w.heap.size ≤ gb273)); clear HB; have HB := n0_; have BK273 := n1_; have GW273 := n2_; have GE273 := n3_; clear n0_ n1_ n2_ n3_; clear hb hbox hg; have hcz6_0 : w5.cell? ⟨gb273, 0, none⟩ = some (.int .i64 0) := (blk_cell BK273.out 0).trans rfl; have hcz6_1 : w5.cell? ⟨gb273, 1, none⟩ = some (.int .i64 0) := (blk_cell BK273.out 1).trans rfl; have hcz6_2 : w5.cell? ⟨gb273, 2, none⟩ = some (.int .i64 0) := (blk_cell BK273.out 2).trans rfl; have hcz6_3 : w5.cell? ⟨gb273, 3, none⟩ = some (.int .i64 0) := (blk_cell BK273.out 3).trans rfl; have hcz6_4 : w5.cell? ⟨gb273, 4, none⟩ = some (.int .i64 0) := (blk_cell BK273.out 4).trans rfl; have hcz6_5 : w5.cell? ⟨gb273, 5, none⟩ = some (.int .i64 0) := (blk_cell BK273.out 5).trans rfl; have hcz6_6 : w5.cell? ⟨gb273, 6, none⟩ = some (.int .i64 0) := (blk_cell BK273.out 6).trans rfl; have hfz6_0 := blk_frozen BK273.out 0; have hfz6_1 := blk_frozen BK273.out 1; have hfz6_2 := blk_frozen BK273.out 2; have hfz6_3 := blk_frozen BK273.out 3; have hfz6_4 := blk_frozen BK273.out 4; have hfz6_5 := blk_frozen BK273.out 5; have hfz6_6 := blk_frozen BK273.out 6))
  (try simp only [Act.put, List.setIfInBounds_toArray, List.set_cons_zero, List.set_cons_succ])
  go_cut [6] (fun v6 wc => ∃ (kq : Nat) (x6_2 : Int), v6 = .int .i64 x6_2 ∧ Aside0 (clepsydralaw03_CivilFrom.j0 kq a0 t272 x6_2 t265 t266 t267 t268 t269 t270 t271 = some r) ∧ Aside0 (kq ≤ k) ∧ Aside0 (wc.heap[gb273]? = some (.cells #[.int .i64 t265, .int .i64 t266, .int .i64 t267, .int .i64 t268, .int .i64 t269, .int .i64 t270, .int .i64 t271] 41 (0, 0))) ∧ Aside0 (Below w.heap.size w wc))
  case first =>
    have H := HC3.out
    clear HC3
    by_cases c7 : (Int.tmod a0 86400000000) < 0
    · rw [if_pos c7] at H
      have c7b0 : decide ((Int.tmod a0 86400000000) < 0) = true := decide_eq_true c7
      clear c7
      (first | rw [c7b0] | (simp only [i64_w, i32_w]; rw [c7b0]) | rw [c7b1] | skip)
      have H' := Aside0.mk H
      clear H
      go_wp2
      go_meet
      case rel => exact ⟨_, (wrap64 ((wrap64 (Int.tdiv a0 86400000000)) - 1)), (by first | rfl | (simp; done) | (simp [*]; done)), H', ⟨by first | omega | exact Nat.le_refl _⟩, ⟨by (with_reducible repeat (first | refine blk_drewN ?_ _ | refine blk_drew ?_ | refine blk_alloc ?_ _)); refine blk_put (cs := #[.int .i64 t265, .int .i64 t266, .int .i64 t267, .int .i64 t268, .int .i64 t269, .int .i64 t270, .int .i64 0]) ?_ 6 _ rfl; (with_reducible repeat (first | refine blk_drewN ?_ _ | refine blk_drew ?_ | refine blk_alloc ?_ _)); refine blk_put (cs := #[.int .i64 t265, .int .i64 t266, .int .i64 t267, .int .i64 t268, .int .i64 t269, .int .i64 0, .int .i64 0]) ?_ 5 _ rfl; (with_reducible repeat (first | refine blk_drewN ?_ _ | refine blk_drew ?_ | refine blk_alloc ?_ _)); refine blk_put (cs := #[.int .i64 t265, .int .i64 t266, .int .i64 t267, .int .i64 t268, .int .i64 0, .int .i64 0, .int .i64 0]) ?_ 4 _ rfl; (with_reducible repeat (first | refine blk_drewN ?_ _ | refine blk_drew ?_ | refine blk_alloc ?_ _)); refine blk_put (cs := #[.int .i64 t265, .int .i64 t266, .int .i64 t267, .int .i64 0, .int .i64 0, .int .i64 0, .int .i64 0]) ?_ 3 _ rfl; (with_reducible repeat (first | refine blk_drewN ?_ _ | refine blk_drew ?_ | refine blk_alloc ?_ _)); refine blk_put (cs := #[.int .i64 t265, .int .i64 t266, .int .i64 0, .int .i64 0, .int .i64 0, .int .i64 0, .int .i64 0]) ?_ 2 _ rfl; (with_reducible repeat (first | refine blk_drewN ?_ _ | refine blk_drew ?_ | refine blk_alloc ?_ _)); refine blk_put (cs := #[.int .i64 t265, .int .i64 0, .int .i64 0, .int .i64 0, .int .i64 0, .int .i64 0, .int .i64 0]) ?_ 1 _ rfl; (with_reducible repeat (first | refine blk_drewN ?_ _ | refine blk_drew ?_ | refine blk_alloc ?_ _)); refine blk_put (cs := #[.int .i64 0, .int .i64 0, .int .i64 0, .int .i64 0, .int .i64 0, .int .i64 0, .int .i64 0]) ?_ 0 _ rfl; (with_reducible repeat (first | refine blk_drewN ?_ _ | refine blk_drew ?_ | refine blk_alloc ?_ _)); exact BK273.out⟩, ⟨by repeat (first | (with_reducible first | exact HB.out | apply below_alloc | apply pw_below_drewN | apply below_drew1 | refine below_set ?_ GE273.out) | exact HB.out)⟩⟩
    · rw [if_neg c7] at H
      have c7b0 : decide ((Int.tmod a0 86400000000) < 0) = false := decide_eq_false c7
      clear c7
      (first | rw [c7b0] | (simp only [i64_w, i32_w]; rw [c7b0]) | rw [c7b1] | skip)
      have H' := Aside0.mk H
      clear H
      go_wp2
      go_meet
      case rel => exact ⟨_, (wrap64 (Int.tdiv a0 86400000000)), (by first | rfl | (simp; done) | (simp [*]; done)), H', ⟨by first | omega | exact Nat.le_refl _⟩, ⟨by (with_reducible repeat (first | refine blk_drewN ?_ _ | refine blk_drew ?_ | refine blk_alloc ?_ _)); refine blk_put (cs := #[.int .i64 t265, .int .i64 t266, .int .i64 t267, .int .i64 t268, .int .i64 t269, .int .i64 t270, .int .i64 0]) ?_ 6 _ rfl; (with_reducible repeat (first | refine blk_drewN ?_ _ | refine blk_drew ?_ | refine blk_alloc ?_ _)); refine blk_put (cs := #[.int .i64 t265, .int .i64 t266, .int .i64 t267, .int .i64 t268, .int .i64 t269, .int .i64 0, .int .i64 0]) ?_ 5 _ rfl; (with_reducible repeat (first | refine blk_drewN ?_ _ | refine blk_drew ?_ | refine blk_alloc ?_ _)); refine blk_put (cs := #[.int .i64 t265, .int .i64 t266, .int .i64 t267, .int .i64 t268, .int .i64 0, .int .i64 0, .int .i64 0]) ?_ 4 _ rfl; (with_reducible repeat (first | refine blk_drewN ?_ _ | refine blk_drew ?_ | refine blk_alloc ?_ _)); refine blk_put (cs := #[.int .i64 t265, .int .i64 t266, .int .i64 t267, .int .i64 0, .int .i64 0, .int .i64 0, .int .i64 0]) ?_ 3 _ rfl; (with_reducible repeat (first | refine blk_drewN ?_ _ | refine blk_drew ?_ | refine blk_alloc ?_ _)); refine blk_put (cs := #[.int .i64 t265, .int .i64 t266, .int .i64 0, .int .i64 0, .int .i64 0, .int .i64 0, .int .i64 0]) ?_ 2 _ rfl; (with_reducible repeat (first | refine blk_drewN ?_ _ | refine blk_drew ?_ | refine blk_alloc ?_ _)); refine blk_put (cs := #[.int .i64 t265, .int .i64 0, .int .i64 0, .int .i64 0, .int .i64 0, .int .i64 0, .int .i64 0]) ?_ 1 _ rfl; (with_reducible repeat (first | refine blk_drewN ?_ _ | refine blk_drew ?_ | refine blk_alloc ?_ _)); refine blk_put (cs := #[.int .i64 0, .int .i64 0, .int .i64 0, .int .i64 0, .int .i64 0, .int .i64 0, .int .i64 0]) ?_ 0 _ rfl; (with_reducible repeat (first | refine blk_drewN ?_ _ | refine blk_drew ?_ | refine blk_alloc ?_ _)); exact BK273.out⟩, ⟨by repeat (first | (with_reducible first | exact HB.out | apply below_alloc | apply pw_below_drewN | apply below_drew1 | refine below_set ?_ GE273.out) | exact HB.out)⟩⟩
  case rest =>
    clear HC3
    try clear c2
    try clear p2
    try clear p6
    try clear c7
    try clear c7b0
    try clear hcz6_0
    try clear hcz6_1
    try clear hcz6_2
    try clear hcz6_3
    try clear hcz6_4
    try clear hcz6_5
    try clear hcz6_6
    try clear hfz6_0
    try clear hfz6_1
    try clear hfz6_2
    try clear hfz6_3
    try clear hfz6_4
    try clear hfz6_5
    try clear hfz6_6
    obtain ⟨kq, x6_2, rfl, HA, HJ2, BK273, HB⟩ := hcut
    cases kq with
    | zero => exact absurd HA.out (by simp [clepsydralaw03_CivilFrom.j0])
    | succ kj2 =>
      have H := HA.out
      clear HA
      simp only [clepsydralaw03_CivilFrom.j0] at H
      have HC8 := Aside0.mk H
      clear H
      go_upto_region 6 with (fail)
      go_cut [30] (fun v30 wc => ∃ (kq : Nat) (x30_7 : Bool), v30 = .bool x30_7 ∧ Aside0 (clepsydralaw03_CivilFrom.j1 kq a0 t272 x6_2 x30_7 t265 t266 t267 t268 t269 t270 t271 = some r) ∧ Aside0 (kq ≤ kj2) ∧ Aside0 (wc.heap[gb273]? = some (.cells #[.int .i64 t265, .int .i64 t266, .int .i64 t267, .int .i64 t268, .int .i64 t269, .int .i64 t270, .int .i64 t271] 41 (0, 0))) ∧ Aside0 (Below w.heap.size w wc))
      case first =>
        have H := HC8.out
        clear HC8
        by_cases c9 : x6_2 < (-719162)
        · rw [if_pos c9] at H
          have c9b0 : decide (x6_2 < (-719162)) = true := decide_eq_true c9
          clear c9
          (first | rw [c9b0] | (simp only [i64_w, i32_w]; rw [c9b0]) | rw [c9b1] | skip)
          have H' := Aside0.mk H
          clear H
          go_wp2
          go_meet
          case rel => exact ⟨_, (true), (by first | rfl | (simp; done) | (simp [*]; done)), H', ⟨by have := HJ2.out; first | omega | exact Nat.le_refl _⟩, ⟨by (with_reducible repeat (first | refine blk_drewN ?_ _ | refine blk_drew ?_ | refine blk_alloc ?_ _)); exact BK273.out⟩, ⟨by repeat (first | (with_reducible first | exact HB.out | apply below_alloc | apply pw_below_drewN | apply below_drew1 | refine below_set ?_ GE273.out) | exact HB.out)⟩⟩
        · rw [if_neg c9] at H
          have c9b0 : decide (x6_2 < (-719162)) = false := decide_eq_false c9
          clear c9
          (first | rw [c9b0] | (simp only [i64_w, i32_w]; rw [c9b0]) | rw [c9b1] | skip)
          have H' := Aside0.mk H
          clear H
          go_wp2
          go_meet
          case rel => exact ⟨_, (decide (x6_2 > 2932896)), (by first | rfl | (simp; done) | (simp [*]; done)), H', ⟨by have := HJ2.out; first | omega | exact Nat.le_refl _⟩, ⟨by (with_reducible repeat (first | refine blk_drewN ?_ _ | refine blk_drew ?_ | refine blk_alloc ?_ _)); exact BK273.out⟩, ⟨by repeat (first | (with_reducible first | exact HB.out | apply below_alloc | apply pw_below_drewN | apply below_drew1 | refine below_set ?_ GE273.out) | exact HB.out)⟩⟩
      case rest =>
        clear HC8
        try clear c2
        try clear p2
        try clear p6
        try clear c7
        try clear c7b0
        try clear c9
        try clear c9b0
        try clear hcz6_0
        try clear hcz6_1
        try clear hcz6_2
        try clear hcz6_3
        try clear hcz6_4
        try clear hcz6_5
        try clear hcz6_6
        try clear hfz6_0
        try clear hfz6_1
        try clear hfz6_2
        try clear hfz6_3
        try clear hfz6_4
        try clear hfz6_5
        try clear hfz6_6
        try clear p2
        try clear p6
        obtain ⟨kq, x30_7, rfl, HA, HJ7, BK273, HB⟩ := hcut
        cases kq with
        | zero => exact absurd HA.out (by simp [clepsydralaw03_CivilFrom.j1])
        | succ kj7 =>
          have H := HA.out
          clear HA
          simp only [clepsydralaw03_CivilFrom.j1] at H
          by_cases c10 : x30_7 = true
          · subst c10
            have H1 : (if ((t265 == 0 && (t266 == 0 && (t267 == 0))) && (t268 == 0 && (t269 == 0 && (t270 == 0 && (t271 == 0))))) = true then (if t272 = 6 then ((clepsydralaw03_works.f kj7).bind fun t274 => (some t274)) else (none)) else (none)) = some r := by rw [if_pos rfl] at H; exact H
            clear H
            have H := H1
            clear H1
            by_cases c11 : ((t265 == 0 && (t266 == 0 && (t267 == 0))) && (t268 == 0 && (t269 == 0 && (t270 == 0 && (t271 == 0))))) = true
            · rw [if_pos c11] at H
              have c11b0 : ((t265 == 0 && (t266 == 0 && (t267 == 0))) && (t268 == 0 && (t269 == 0 && (t270 == 0 && (t271 == 0))))) = true := c11
              clear c11
              by_cases c12 : t272 = 6
              · rw [if_pos c12] at H
                have c12b0 : (t272 == 6) = true := beq_iff_eq.mpr c12
                have c12b1 : (t272 != 6) = false := bne_eq_false_iff_eq.mpr c12
                clear c12
                replace H := Option.bind_eq_some_iff.mp H
                obtain ⟨t274, A130, H⟩ := H
                replace H : (some t274) = some r := H
                have A13 := Aside0.mk A130
                clear A130
                obtain rfl := Option.some.inj H
                have hcz14_0 : wc.cell? ⟨gb273, 0, none⟩ = some (.int .i64 t265) := (blk_cell BK273.out 0).trans rfl
                have hcz14_1 : wc.cell? ⟨gb273, 1, none⟩ = some (.int .i64 t266) := (blk_cell BK273.out 1).trans rfl
                have hcz14_2 : wc.cell? ⟨gb273, 2, none⟩ = some (.int .i64 t267) := (blk_cell BK273.out 2).trans rfl
                have hcz14_3 : wc.cell? ⟨gb273, 3, none⟩ = some (.int .i64 t268) := (blk_cell BK273.out 3).trans rfl
                have hcz14_4 : wc.cell? ⟨gb273, 4, none⟩ = some (.int .i64 t269) := (blk_cell BK273.out 4).trans rfl
                have hcz14_5 : wc.cell? ⟨gb273, 5, none⟩ = some (.int .i64 t270) := (blk_cell BK273.out 5).trans rfl
                have hcz14_6 : wc.cell? ⟨gb273, 6, none⟩ = some (.int .i64 t271) := (blk_cell BK273.out 6).trans rfl
                have hfz14_0 := blk_frozen BK273.out 0
                have hfz14_1 := blk_frozen BK273.out 1
                have hfz14_2 := blk_frozen BK273.out 2
                have hfz14_3 := blk_frozen BK273.out 3
                have hfz14_4 := blk_frozen BK273.out 4
                have hfz14_5 := blk_frozen BK273.out 5
                have hfz14_6 := blk_frozen BK273.out 6
                go_wp2_with (first | (go_at_call 16; (with_reducible refine (clepsydralaw03_works.calls kj7  t274 _ A13.out).mono ?_); rintro e w15 ⟨rfl, hb⟩; have n0_ := Aside0.mk (blk_below (g := gb273) (o := .cells #[.int .i64 t265, .int .i64 t266, .int .i64 t267, .int .i64 t268, .int .i64 t269, .int .i64 t270, .int .i64 t271] 41 (0, 0)) (by (with_reducible repeat (first | refine blk_drewN ?_ _ | refine blk_drew ?_ | refine blk_alloc ?_ _)); exact BK273.out) hb); have n1_ := Aside0.mk (below_step (by repeat (first | (with_reducible first | exact HB.out | apply below_alloc | apply pw_below_drewN | apply below_drew1 | refine below_set ?_ GE273.out) | exact HB.out)) hb); clear BK273; clear HB; have BK273 := n0_; have HB := n1_; clear n0_ n1_; (try clear hb); (try clear hb2); (try clear hk); (try clear hi)))
                go_ret
                exact ⟨by first | rfl | (simp [errW_none, errW_some] <;> rfl) | (simp [*, errW_none, errW_some] <;> rfl), by repeat (first | (with_reducible first | exact HB.out | apply below_alloc | apply pw_below_drewN | apply below_drew1 | refine below_set ?_ GE273.out) | exact HB.out)⟩
              · rw [if_neg c12] at H
                exact absurd H (by simp)
            · rw [if_neg c11] at H
              exact absurd H (by simp)
          · replace c10 := Bool.eq_false_iff.mpr c10
            subst c10
            have H1 : ((civil_Micro.f t265 t266 t267 t268 t269 t270 t271).bind fun bt275 => ((civil_Of.f kj7 x6_2).bind fun bt277 => (if t272 = 0 then (if bt275.2 = 0 then (if bt275.1 = a0 then (if bt277.2.2.2 = 0 then (if (t265 == bt277.1 && (t266 == bt277.2.1 && (t267 == bt277.2.2.1))) = true then ((clepsydralaw03_works.f kj7).bind fun t282 => (some t282)) else (none)) else (none)) else (none)) else (none)) else (none)))) = some r := by rw [if_neg (show ¬ (false = true) by decide)] at H; exact H
            clear H
            have H := H1
            clear H1
            replace H := Option.bind_eq_some_iff.mp H
            obtain ⟨⟨t275, t276⟩, A160, H⟩ := H
            replace H : ((civil_Of.f kj7 x6_2).bind fun bt277 => (if t272 = 0 then (if t276 = 0 then (if t275 = a0 then (if bt277.2.2.2 = 0 then (if (t265 == bt277.1 && (t266 == bt277.2.1 && (t267 == bt277.2.2.1))) = true then ((clepsydralaw03_works.f kj7).bind fun t282 => (some t282)) else (none)) else (none)) else (none)) else (none)) else (none))) = some r := H
            have A16 := Aside0.mk A160
            clear A160
            replace H := Option.bind_eq_some_iff.mp H
            obtain ⟨⟨t277, t278, t279, t280⟩, A170, H⟩ := H
            replace H : (if t272 = 0 then (if t276 = 0 then (if t275 = a0 then (if t280 = 0 then (if (t265 == t277 && (t266 == t278 && (t267 == t279))) = true then ((clepsydralaw03_works.f kj7).bind fun t282 => (some t282)) else (none)) else (none)) else (none)) else (none)) else (none)) = some r := H
            have A17 := Aside0.mk A170
            clear A170
            by_cases c18 : t272 = 0
            · rw [if_pos c18] at H
              have c18b0 : (t272 == 0) = true := beq_iff_eq.mpr c18
              have c18b1 : (t272 != 0) = false := bne_eq_false_iff_eq.mpr c18
              clear c18
              by_cases c19 : t276 = 0
              · rw [if_pos c19] at H
                have c19b0 : (t276 == 0) = true := beq_iff_eq.mpr c19
                have c19b1 : (t276 != 0) = false := bne_eq_false_iff_eq.mpr c19
                clear c19
                by_cases c20 : t275 = a0
                · rw [if_pos c20] at H
                  have c20b0 : (t275 == a0) = true := beq_iff_eq.mpr c20
                  have c20b1 : (t275 != a0) = false := bne_eq_false_iff_eq.mpr c20
                  clear c20
                  by_cases c21 : t280 = 0
                  · rw [if_pos c21] at H
                    have c21b0 : (t280 == 0) = true := beq_iff_eq.mpr c21
                    have c21b1 : (t280 != 0) = false := bne_eq_false_iff_eq.mpr c21
                    clear c21
                    by_cases c22 : (t265 == t277 && (t266 == t278 && (t267 == t279))) = true
                    · rw [if_pos c22] at H
                      have c22b0 : (t265 == t277 && (t266 == t278 && (t267 == t279))) = true := c22
                      (try (have c22b1 : decide (t265 = t277 && (t266 == t278 && (t267 == t279))) = true := by simpa using c22))
                      (try (have c22b2 : (t265 == t277 && (t266 == t278 && (t267 == t279))) = true := by simpa using c22))
                      clear c22
                      replace H := Option.bind_eq_some_iff.mp H
                      obtain ⟨t282, A230, H⟩ := H
                      replace H : (some t282) = some r := H
                      have A23 := Aside0.mk A230
                      clear A230
                      obtain rfl := Option.some.inj H
                      have hcz24_0 : wc.cell? ⟨gb273, 0, none⟩ = some (.int .i64 t265) := (blk_cell BK273.out 0).trans rfl
                      have hcz24_1 : wc.cell? ⟨gb273, 1, none⟩ = some (.int .i64 t266) := (blk_cell BK273.out 1).trans rfl
                      have hcz24_2 : wc.cell? ⟨gb273, 2, none⟩ = some (.int .i64 t267) := (blk_cell BK273.out 2).trans rfl
                      have hcz24_3 : wc.cell? ⟨gb273, 3, none⟩ = some (.int .i64 t268) := (blk_cell BK273.out 3).trans rfl
                      have hcz24_4 : wc.cell? ⟨gb273, 4, none⟩ = some (.int .i64 t269) := (blk_cell BK273.out 4).trans rfl
                      have hcz24_5 : wc.cell? ⟨gb273, 5, none⟩ = some (.int .i64 t270) := (blk_cell BK273.out 5).trans rfl
                      have hcz24_6 : wc.cell? ⟨gb273, 6, none⟩ = some (.int .i64 t271) := (blk_cell BK273.out 6).trans rfl
                      have hfz24_0 := blk_frozen BK273.out 0
                      have hfz24_1 := blk_frozen BK273.out 1
                      have hfz24_2 := blk_frozen BK273.out 2
                      have hfz24_3 := blk_frozen BK273.out 3
                      have hfz24_4 := blk_frozen BK273.out 4
                      have hfz24_5 := blk_frozen BK273.out 5
                      have hfz24_6 := blk_frozen BK273.out 6
                      go_wp2_with (first | ((with_reducible refine gate_callee (f := 21) rfl ?_); refine goesL_ (some 43) rfl rfl Try.func21 (by kernel_rfl) rfl #[.agg #[.int .i64 t265, .int .i64 t266, .int .i64 t267, .int .i64 t268, .int .i64 t269, .int .i64 t270, .int .i64 t271]] rfl (by (try simp only [List.map_toArray, List.map_cons, List.map_nil]); first | done | rfl | (simp only [List.length_drop, List.length_take]; rfl)) ?_; (with_reducible refine (civil_Micro.calls t265 t266 t267 t268 t269 t270 t271 t275 t276 _ A16.out).mono ?_); rintro e w25 ⟨rfl, hb⟩; refine ⟨_, rfl, ?_⟩; have n0_ := Aside0.mk (blk_below (g := gb273) (o := .cells #[.int .i64 t265, .int .i64 t266, .int .i64 t267, .int .i64 t268, .int .i64 t269, .int .i64 t270, .int .i64 t271] 41 (0, 0)) (by (with_reducible repeat (first | refine blk_drewN ?_ _ | refine blk_drew ?_ | refine blk_alloc ?_ _)); exact BK273.out) hb); have n1_ := Aside0.mk (below_step (by repeat (first | (with_reducible first | exact HB.out | apply below_alloc | apply pw_below_drewN | apply below_drew1 | refine below_set ?_ GE273.out) | exact HB.out)) hb); clear BK273; clear HB; have BK273 := n0_; have HB := n1_; clear n0_ n1_; (try clear hb); (try clear hb2); (try clear hk); (try clear hi)) | ((with_reducible refine gate_callee (f := 19) rfl ?_); refine goesL_ (some 48) rfl rfl Try.func19 (by kernel_rfl) rfl #[.int .i64 x6_2] rfl (by (try simp only [List.map_toArray, List.map_cons, List.map_nil]); first | done | rfl | (simp only [List.length_drop, List.length_take]; rfl)) ?_; (with_reducible refine (civil_Of.calls kj7 x6_2 t277 t278 t279 t280 _ A17.out).mono ?_); rintro e w26 ⟨rfl, hb⟩; refine ⟨_, rfl, ?_⟩; have n0_ := Aside0.mk (blk_below (g := gb273) (o := .cells #[.int .i64 t265, .int .i64 t266, .int .i64 t267, .int .i64 t268, .int .i64 t269, .int .i64 t270, .int .i64 t271] 41 (0, 0)) (by (with_reducible repeat (first | refine blk_drewN ?_ _ | refine blk_drew ?_ | refine blk_alloc ?_ _)); exact BK273.out) hb); have n1_ := Aside0.mk (below_step (by repeat (first | (with_reducible first | exact HB.out | apply below_alloc | apply pw_below_drewN | apply below_drew1 | refine below_set ?_ GE273.out) | exact HB.out)) hb); clear BK273; clear HB; have BK273 := n0_; have HB := n1_; clear n0_ n1_; (try clear hb); (try clear hb2); (try clear hk); (try clear hi)) | ((with_reducible refine gate_dst (N := 9) rfl ?_); refine box_event ?hg (N := 9) ?hd (cs := #[.int .i64 0, .int .i64 0, .int .i64 0]) (t := 23) ?hr ?_; (case hd => rfl); (case hg => rfl); (case hr => first | (go_simp; done) | (go_simp; rfl)); intro gb281 hg w27 hbox hb; have n0_ := Aside0.mk (blk_below (g := gb273) (o := .cells #[.int .i64 t265, .int .i64 t266, .int .i64 t267, .int .i64 t268, .int .i64 t269, .int .i64 t270, .int .i64 t271] 41 (0, 0)) (by (with_reducible repeat (first | refine blk_drewN ?_ _ | refine blk_drew ?_ | refine blk_alloc ?_ _)); exact BK273.out) hb); have n1_ := Aside0.mk (below_step (by repeat (first | (with_reducible first | exact HB.out | apply below_alloc | apply pw_below_drewN | apply below_drew1 | refine below_set ?_ GE273.out) | exact HB.out)) hb); have n2_ := Aside0.mk (hbox); have n3_ := Aside0.mk ((by rw [hg]; exact (below_size (by repeat (first | (with_reducible first | exact HB.out | apply below_alloc | apply pw_below_drewN | apply below_drew1 | refine below_set ?_ GE273.out) | exact HB.out))) : w.heap.size ≤ gb281)); have n4_ := Aside0.mk ((by rw [hg]; exact (below_size (by repeat (first | (with_reducible first | exact HB.out | apply below_alloc | apply pw_below_drewN | apply below_drew1 | refine below_set ?_ GE273.out) | exact HB.out))) : w.heap.size ≤ gb281)); have n5_ := Aside0.mk ((by rw [hg]; exact Nat.ne_of_lt (blk_lt (g := gb273) (o := .cells #[.int .i64 t265, .int .i64 t266, .int .i64 t267, .int .i64 t268, .int .i64 t269, .int .i64 t270, .int .i64 t271] 41 (0, 0)) (by (with_reducible repeat (first | refine blk_drewN ?_ _ | refine blk_drew ?_ | refine blk_alloc ?_ _)); exact BK273.out)) : gb273 ≠ gb281)); have n6_ := Aside0.mk ((by rw [hg]; exact Nat.ne_of_gt (blk_lt (g := gb273) (o := .cells #[.int .i64 t265, .int .i64 t266, .int .i64 t267, .int .i64 t268, .int .i64 t269, .int .i64 t270, .int .i64 t271] 41 (0, 0)) (by (with_reducible repeat (first | refine blk_drewN ?_ _ | refine blk_drew ?_ | refine blk_alloc ?_ _)); exact BK273.out)) : gb281 ≠ gb273)); clear BK273; clear HB; have BK273 := n0_; have HB := n1_; have BK281 := n2_; have GW281 := n3_; have GE281 := n4_; have NB273_281 := n5_; have NB281_273 := n6_; clear n0_ n1_ n2_ n3_ n4_ n5_ n6_; clear hb hbox hg; have hnb28 := NB281_273.out; have hnc28 := NB273_281.out; have hcz29_0 : w27.cell? ⟨gb281, 0, none⟩ = some (.int .i64 0) := (blk_cell BK281.out 0).trans rfl; have hcz29_1 : w27.cell? ⟨gb281, 1, none⟩ = some (.int .i64 0) := (blk_cell BK281.out 1).trans rfl; have hcz29_2 : w27.cell? ⟨gb281, 2, none⟩ = some (.int .i64 0) := (blk_cell BK281.out 2).trans rfl; have hfz29_0 := blk_frozen BK281.out 0; have hfz29_1 := blk_frozen BK281.out 1; have hfz29_2 := blk_frozen BK281.out 2; have hcz30_0 : w27.cell? ⟨gb273, 0, none⟩ = some (.int .i64 t265) := (blk_cell BK273.out 0).trans rfl; have hcz30_1 : w27.cell? ⟨gb273, 1, none⟩ = some (.int .i64 t266) := (blk_cell BK273.out 1).trans rfl; have hcz30_2 : w27.cell? ⟨gb273, 2, none⟩ = some (.int .i64 t267) := (blk_cell BK273.out 2).trans rfl; have hcz30_3 : w27.cell? ⟨gb273, 3, none⟩ = some (.int .i64 t268) := (blk_cell BK273.out 3).trans rfl; have hcz30_4 : w27.cell? ⟨gb273, 4, none⟩ = some (.int .i64 t269) := (blk_cell BK273.out 4).trans rfl; have hcz30_5 : w27.cell? ⟨gb273, 5, none⟩ = some (.int .i64 t270) := (blk_cell BK273.out 5).trans rfl; have hcz30_6 : w27.cell? ⟨gb273, 6, none⟩ = some (.int .i64 t271) := (blk_cell BK273.out 6).trans rfl; have hfz30_0 := blk_frozen BK273.out 0; have hfz30_1 := blk_frozen BK273.out 1; have hfz30_2 := blk_frozen BK273.out 2; have hfz30_3 := blk_frozen BK273.out 3; have hfz30_4 := blk_frozen BK273.out 4; have hfz30_5 := blk_frozen BK273.out 5; have hfz30_6 := blk_frozen BK273.out 6) | (go_at_call 16; (with_reducible refine (clepsydralaw03_works.calls kj7  t282 _ A23.out).mono ?_); rintro e w31 ⟨rfl, hb⟩; have n0_ := Aside0.mk (blk_below (g := gb273) (o := .cells #[.int .i64 t265, .int .i64 t266, .int .i64 t267, .int .i64 t268, .int .i64 t269, .int .i64 t270, .int .i64 t271] 41 (0, 0)) (by (with_reducible repeat (first | refine blk_drewN ?_ _ | refine blk_drew ?_ | refine blk_alloc ?_ _)); refine blk_far ?_ NB273_281.out _; (with_reducible repeat (first | refine blk_drewN ?_ _ | refine blk_drew ?_ | refine blk_alloc ?_ _)); refine blk_far ?_ NB273_281.out _; (with_reducible repeat (first | refine blk_drewN ?_ _ | refine blk_drew ?_ | refine blk_alloc ?_ _)); refine blk_far ?_ NB273_281.out _; (with_reducible repeat (first | refine blk_drewN ?_ _ | refine blk_drew ?_ | refine blk_alloc ?_ _)); exact BK273.out) hb); have n1_ := Aside0.mk (blk_below (g := gb281) (o := .cells #[.int .i64 t277, .int .i64 t278, .int .i64 t279] 23 (0, 0)) (by (with_reducible repeat (first | refine blk_drewN ?_ _ | refine blk_drew ?_ | refine blk_alloc ?_ _)); refine blk_put (cs := #[.int .i64 t277, .int .i64 t278, .int .i64 0]) ?_ 2 _ rfl; (with_reducible repeat (first | refine blk_drewN ?_ _ | refine blk_drew ?_ | refine blk_alloc ?_ _)); refine blk_put (cs := #[.int .i64 t277, .int .i64 0, .int .i64 0]) ?_ 1 _ rfl; (with_reducible repeat (first | refine blk_drewN ?_ _ | refine blk_drew ?_ | refine blk_alloc ?_ _)); refine blk_put (cs := #[.int .i64 0, .int .i64 0, .int .i64 0]) ?_ 0 _ rfl; (with_reducible repeat (first | refine blk_drewN ?_ _ | refine blk_drew ?_ | refine blk_alloc ?_ _)); exact BK281.out) hb); have n2_ := Aside0.mk (below_step (by repeat (first | (with_reducible first | exact HB.out | apply below_alloc | apply pw_below_drewN | apply below_drew1 | refine below_set ?_ GE273.out | refine below_set ?_ GE281.out) | exact HB.out)) hb); clear BK273; clear BK281; clear HB; have BK273 := n0_; have BK281 := n1_; have HB := n2_; clear n0_ n1_ n2_; (try clear hb); (try clear hb2); (try clear hk); (try clear hi)))
                      go_ret
                      exact ⟨by first | rfl | (simp [errW_none, errW_some] <;> rfl) | (simp [*, errW_none, errW_some] <;> rfl), by repeat (first | (with_reducible first | exact HB.out | apply below_alloc | apply pw_below_drewN | apply below_drew1 | refine below_set ?_ GE273.out | refine below_set ?_ GE281.out) | exact HB.out)⟩
                    · rw [if_neg c22] at H
                      exact absurd H (by simp)
                  · rw [if_neg c21] at H
                    exact absurd H (by simp)
                · rw [if_neg c20] at H
                  exact absurd H (by simp)
              · rw [if_neg c19] at H
                exact absurd H (by simp)
            · rw [if_neg c18] at H
              exact absurd H (by simp)

/-- THE ONE PURE STATEMENT of clepsydralaw03_CivilFrom: yours. -/
def clepsydralaw03_CivilFrom.Pure : Prop := ∀ (a0 : Int), (Lit.int .i64 a0).wf = true → ∃ k, clepsydralaw03_CivilFrom.f k a0 = some true
theorem clepsydralaw03_CivilFrom.walk (P : clepsydralaw03_CivilFrom.Pure) (a0 : Int) (w : World) (w0 : (Lit.int .i64 a0).wf = true) :
    Calls Try.prog 7 #[.int .i64 a0] w fun e w' => e = .returned (.bool true) ∧ Below w.heap.size w w' := by
  obtain ⟨k, h⟩ := P a0 w0
  refine (clepsydralaw03_CivilFrom.calls k a0 true w h).mono ?_
  rintro e w' ⟨rfl, hd⟩
  exact ⟨rfl, hd⟩

end Go.Proofs.Ytgeclcepfcfekaa.All
