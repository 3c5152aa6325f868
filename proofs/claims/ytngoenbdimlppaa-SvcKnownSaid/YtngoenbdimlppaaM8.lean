/- The contracts of Exit and Tick. -/
import Derived.Test.YtngoenbdimlppaaM7
namespace Go.Proofs.Ytngoenbdimlppaa.Svc
open Go.RowKit Go.Proofs.YtngoenbdimlppaaW.PrintWords Go.Proofs.YtngoenbdimlppaaW.PrintLast Go.Proofs.YtngoenbdimlppaaW.PrintMore
set_option linter.unusedVariables false
set_option linter.unusedSimpArgs false
set_option maxRecDepth 100000

/-- What Exit answers, and the state behind it. -/
def exitV (F : FV) (s : MS) (code now : Int) : OV × MS :=
  if s.runs = true then
    if s.st = 2 then failsV F { s with runs := false } code now
    else if s.st = 3 then (⟨false, false, false, 0⟩, endS F { s with runs := false } code now)
    else goneV { s with runs := false }
  else (⟨false, false, false, 0⟩, s)

set_option maxHeartbeats 1000000 in
theorem exit_calls (g : Nat) (F : FV) (s : MS) (code now : Int) (w : World) (h : MB w g F s) (hn : R64 now) (hd : R64 F.agn) (hi : s.runs = true → s.st = 2 ∨ s.st = 3 ∨ s.st = 4) :
    Calls Try.prog 12 #[.pointer (some ⟨g, 0, none⟩), .int .i64 code, .int .i64 now] w fun e w' => e = .returned (exitV F s code now).1.v ∧ MB w' g F (exitV F s code now).2 ∧ Stp g w w' := by
  have hu43 := Try.underlying43
  have hu74 := Try.underlying74
  have hlt := h.lt
  have h25 := h.c25
  have h26 := h.c26
  have f26 := h.fz 26
  have H := Lib.hid h
  have HN := Lib.hid hn
  have HD := Lib.hid hd
  unfold exitV
  cases hr : s.runs
  · rw [if_neg (by decide)]
    have HR := Lib.hid hr
    clear hi
    clear h hn hd hr
    go_enter Try.func12, Try.ntmps12
    go_wp2_with (first
      | (go_at_call 16; ((with_reducible refine (running_calls g F s _ (H.out.alloc _)).mono ?_); rw [HR.out]; rintro e w1 ⟨rfl, rfl⟩)))
    refine bodyPost_ret (results_cell_row rfl _ _ w.heap.size 43 _ (0, 0) _ rfl (blk_new w _) Try.underlying43 rfl (by kernel_rfl)) rfl ?_
    exact ⟨rfl, H.out.alloc _, (Stp.refl _ _).alloc _⟩
  · rw [if_pos rfl]
    have hi' := hi hr
    have HR := Lib.hid hr
    clear hi
    clear h hn hd hr
    rcases hi' with hs | hs | hs
    · rw [if_pos hs]
      rw [hs] at h25
      have HS0 := Lib.hid hs
      clear hs
      go_enter Try.func12, Try.ntmps12
      go_wp2_with (first
        | (go_at_call 16; ((with_reducible refine (running_calls g F s _ (H.out.alloc _)).mono ?_); rw [HR.out]; rintro e w1 ⟨rfl, rfl⟩)))
      have hmw : MB ((w.setCell ⟨g, 26, none⟩ (.bool false)).alloc (.cells #[.bool false, .bool false, .bool false, .int .u8 0] 43)) g F { s with runs := false } := (H.out.s26 false).alloc _
      have hsw : Stp g w ((w.setCell ⟨g, 26, none⟩ (.bool false)).alloc (.cells #[.bool false, .bool false, .bool false, .int .u8 0] 43)) := ((Stp.refl g w).set _).alloc _
      have hbw : ((w.setCell ⟨g, 26, none⟩ (.bool false)).alloc (.cells #[.bool false, .bool false, .bool false, .int .u8 0] 43)).heap[w.heap.size]? = some (.cells #[.bool false, .bool false, .bool false, .int .u8 0] 43) := by rw [← (World.size_setCell .. : (w.setCell ⟨g, 26, none⟩ (.bool false)).heap.size = w.heap.size)]; exact blk_new _ _
      generalize (w.setCell ⟨g, 26, none⟩ (.bool false)).alloc (.cells #[.bool false, .bool false, .bool false, .int .u8 0] 43) = W at hmw hsw hbw ⊢
      have h25w : W.cell? ⟨g, 25, none⟩ = some (.int .u8 2) := by have := hmw.c25; rwa [show ({ s with runs := false } : MS).st = 2 from HS0.out] at this
      have HMW := Lib.hid hmw
      have HSW := Lib.hid hsw
      have HBW := Lib.hid hbw
      clear hmw hsw hbw h25 h26 f26
      go_region_with ((first
        | (go_at_call 28; ((with_reducible refine (happens_calls _).mono ?_); rintro e w1 ⟨b, rfl, hle, hm, hb⟩); have hl : (Instr.lookup 71 (.map (some b)) (.agg #[.string { data := #[101, 120, 105, 116] }, .int .u8 2]) false).run Try.prog w1 = .ok (.func (.func 36) #[] #[]) w1 := map_lookup w1 b 0 (by omega) hm; have hb' : Below W.heap.size W w1 := ((Below.refl _ _).drew).trans hb; have hm1 := HMW.out.below hb'; have h25' : w1.cell? ⟨g, 25, none⟩ = some (.int .u8 2) := by { have := hm1.c25; rwa [show ({ s with runs := false } : MS).st = 2 from HS0.out] at this }; have hx1 := blk_below HBW.out hb'; have HM1 := Lib.hid hm1; have HB1 := Lib.hid hb'; have HX1 := Lib.hid hx1; clear hm hb hb' hm1 hx1 hle)
        | (go_at_call 36; ((with_reducible refine (fails_calls g F { s with runs := false } code now _ HM1.out HN.out HD.out).mono ?_); rintro e w2 ⟨rfl, hm2, hs2⟩); have hx2 := hs2.blk HX1.out (by omega); obtain ⟨k0, k1, k2, k3, q0, q1, q2, q3⟩ := box4 hx2; have HX2 := Lib.hid hx2; have HM2 := Lib.hid hm2; have HS2 := Lib.hid hs2; clear hm2 hs2 hx2)))
      all_goals
        go_wp2
        refine bodyPost_ret (results_cell_row rfl _ _ w.heap.size 43 _ (0, 0) _ rfl (put4 HX2.out _ _ _ _) Try.underlying43 rfl (by kernel_rfl)) rfl ?_
        exact ⟨rfl, HM2.out.far4 (by omega) _ _ _ _, ((HSW.out.trans (Stp.of_below HB1.out)).trans HS2.out).box4 (Nat.le_refl _) _ _ _ _⟩
    · rw [if_neg (by omega), if_pos hs]
      rw [hs] at h25
      have HS0 := Lib.hid hs
      clear hs
      go_enter Try.func12, Try.ntmps12
      go_wp2_with (first
        | (go_at_call 16; ((with_reducible refine (running_calls g F s _ (H.out.alloc _)).mono ?_); rw [HR.out]; rintro e w1 ⟨rfl, rfl⟩)))
      have hmw : MB ((w.setCell ⟨g, 26, none⟩ (.bool false)).alloc (.cells #[.bool false, .bool false, .bool false, .int .u8 0] 43)) g F { s with runs := false } := (H.out.s26 false).alloc _
      have hsw : Stp g w ((w.setCell ⟨g, 26, none⟩ (.bool false)).alloc (.cells #[.bool false, .bool false, .bool false, .int .u8 0] 43)) := ((Stp.refl g w).set _).alloc _
      have hbw : ((w.setCell ⟨g, 26, none⟩ (.bool false)).alloc (.cells #[.bool false, .bool false, .bool false, .int .u8 0] 43)).heap[w.heap.size]? = some (.cells #[.bool false, .bool false, .bool false, .int .u8 0] 43) := by rw [← (World.size_setCell .. : (w.setCell ⟨g, 26, none⟩ (.bool false)).heap.size = w.heap.size)]; exact blk_new _ _
      generalize (w.setCell ⟨g, 26, none⟩ (.bool false)).alloc (.cells #[.bool false, .bool false, .bool false, .int .u8 0] 43) = W at hmw hsw hbw ⊢
      have h25w : W.cell? ⟨g, 25, none⟩ = some (.int .u8 3) := by have := hmw.c25; rwa [show ({ s with runs := false } : MS).st = 3 from HS0.out] at this
      have HMW := Lib.hid hmw
      have HSW := Lib.hid hsw
      have HBW := Lib.hid hbw
      clear hmw hsw hbw h25 h26 f26
      go_region_with ((first
        | (go_at_call 28; ((with_reducible refine (happens_calls _).mono ?_); rintro e w1 ⟨b, rfl, hle, hm, hb⟩); have hl : (Instr.lookup 71 (.map (some b)) (.agg #[.string { data := #[101, 120, 105, 116] }, .int .u8 3]) false).run Try.prog w1 = .ok (.func (.func 37) #[] #[]) w1 := map_lookup w1 b 1 (by omega) hm; have hb' : Below W.heap.size W w1 := ((Below.refl _ _).drew).trans hb; have hm1 := HMW.out.below hb'; have h25' : w1.cell? ⟨g, 25, none⟩ = some (.int .u8 3) := by { have := hm1.c25; rwa [show ({ s with runs := false } : MS).st = 3 from HS0.out] at this }; have hx1 := blk_below HBW.out hb'; have HM1 := Lib.hid hm1; have HB1 := Lib.hid hb'; have HX1 := Lib.hid hx1; clear hm hb hb' hm1 hx1 hle)
        | (go_at_call 37; ((with_reducible refine (exits_calls g F { s with runs := false } code now _ HM1.out HN.out HD.out).mono ?_); rintro e w2 ⟨rfl, hm2, hs2⟩); have hx2 := hs2.blk HX1.out (by omega); obtain ⟨k0, k1, k2, k3, q0, q1, q2, q3⟩ := box4 hx2; have HX2 := Lib.hid hx2; have HM2 := Lib.hid hm2; have HS2 := Lib.hid hs2; clear hm2 hs2 hx2)))
      all_goals
        go_wp2
        refine bodyPost_ret (results_cell_row rfl _ _ w.heap.size 43 _ (0, 0) _ rfl (put4 HX2.out _ _ _ _) Try.underlying43 rfl (by kernel_rfl)) rfl ?_
        exact ⟨rfl, HM2.out.far4 (by omega) _ _ _ _, ((HSW.out.trans (Stp.of_below HB1.out)).trans HS2.out).box4 (Nat.le_refl _) _ _ _ _⟩
    · rw [if_neg (by omega), if_neg (by omega)]
      rw [hs] at h25
      have HS0 := Lib.hid hs
      clear hs
      go_enter Try.func12, Try.ntmps12
      go_wp2_with (first
        | (go_at_call 16; ((with_reducible refine (running_calls g F s _ (H.out.alloc _)).mono ?_); rw [HR.out]; rintro e w1 ⟨rfl, rfl⟩)))
      have hmw : MB ((w.setCell ⟨g, 26, none⟩ (.bool false)).alloc (.cells #[.bool false, .bool false, .bool false, .int .u8 0] 43)) g F { s with runs := false } := (H.out.s26 false).alloc _
      have hsw : Stp g w ((w.setCell ⟨g, 26, none⟩ (.bool false)).alloc (.cells #[.bool false, .bool false, .bool false, .int .u8 0] 43)) := ((Stp.refl g w).set _).alloc _
      have hbw : ((w.setCell ⟨g, 26, none⟩ (.bool false)).alloc (.cells #[.bool false, .bool false, .bool false, .int .u8 0] 43)).heap[w.heap.size]? = some (.cells #[.bool false, .bool false, .bool false, .int .u8 0] 43) := by rw [← (World.size_setCell .. : (w.setCell ⟨g, 26, none⟩ (.bool false)).heap.size = w.heap.size)]; exact blk_new _ _
      generalize (w.setCell ⟨g, 26, none⟩ (.bool false)).alloc (.cells #[.bool false, .bool false, .bool false, .int .u8 0] 43) = W at hmw hsw hbw ⊢
      have h25w : W.cell? ⟨g, 25, none⟩ = some (.int .u8 4) := by have := hmw.c25; rwa [show ({ s with runs := false } : MS).st = 4 from HS0.out] at this
      have HMW := Lib.hid hmw
      have HSW := Lib.hid hsw
      have HBW := Lib.hid hbw
      clear hmw hsw hbw h25 h26 f26
      go_region_with ((first
        | (go_at_call 28; ((with_reducible refine (happens_calls _).mono ?_); rintro e w1 ⟨b, rfl, hle, hm, hb⟩); have hl : (Instr.lookup 71 (.map (some b)) (.agg #[.string { data := #[101, 120, 105, 116] }, .int .u8 4]) false).run Try.prog w1 = .ok (.func (.func 38) #[] #[]) w1 := map_lookup w1 b 2 (by omega) hm; have hb' : Below W.heap.size W w1 := ((Below.refl _ _).drew).trans hb; have hm1 := HMW.out.below hb'; have h25' : w1.cell? ⟨g, 25, none⟩ = some (.int .u8 4) := by { have := hm1.c25; rwa [show ({ s with runs := false } : MS).st = 4 from HS0.out] at this }; have hx1 := blk_below HBW.out hb'; have HM1 := Lib.hid hm1; have HB1 := Lib.hid hb'; have HX1 := Lib.hid hx1; clear hm hb hb' hm1 hx1 hle)
        | (go_at_call 38; ((with_reducible refine (gone_calls g F { s with runs := false } code now _ HM1.out).mono ?_); rintro e w2 ⟨rfl, hm2, hs2⟩); have hx2 := hs2.blk HX1.out (by omega); obtain ⟨k0, k1, k2, k3, q0, q1, q2, q3⟩ := box4 hx2; have HX2 := Lib.hid hx2; have HM2 := Lib.hid hm2; have HS2 := Lib.hid hs2; clear hm2 hs2 hx2)))
      all_goals
        go_wp2
        refine bodyPost_ret (results_cell_row rfl _ _ w.heap.size 43 _ (0, 0) _ rfl (put4 HX2.out _ _ _ _) Try.underlying43 rfl (by kernel_rfl)) rfl ?_
        exact ⟨rfl, HM2.out.far4 (by omega) _ _ _ _, ((HSW.out.trans (Stp.of_below HB1.out)).trans HS2.out).box4 (Nat.le_refl _) _ _ _ _⟩

/-- What Tick answers, and the state behind it. -/
def tickV (F : FV) (s : MS) (now : Int) : OV × MS :=
  if s.due = 9223372036854775807 then (⟨false, false, false, 0⟩, s) else if now < s.due then (⟨false, false, false, 0⟩, s)
  else if s.st = 2 then begunV F s now
  else if s.st = 4 then lostV s
  else (⟨false, false, true, 0⟩, { s with due := 9223372036854775807 })

set_option maxHeartbeats 1000000 in
theorem tick_calls (g : Nat) (F : FV) (s : MS) (now : Int) (w : World) (h : MB w g F s) (hn : R64 now) (hd : R64 F.dn) (hi : s.due ≠ 9223372036854775807 → s.st = 1 ∨ s.st = 2 ∨ s.st = 4 ∨ s.st = 5) :
    Calls Try.prog 13 #[.pointer (some ⟨g, 0, none⟩), .int .i64 now] w fun e w' => e = .returned (tickV F s now).1.v ∧ MB w' g F (tickV F s now).2 ∧ Stp g w w' := by
  have hu43 := Try.underlying43
  have hu74 := Try.underlying74
  have hlt := h.lt
  have h25 := h.c25
  have h27 := h.c27
  have H := Lib.hid h
  have HN := Lib.hid hn
  have HD := Lib.hid hd
  unfold tickV
  by_cases ci : s.due = 9223372036854775807
  · rw [if_pos ci]
    have b1 : (s.due == 9223372036854775807) = true := by simpa using ci
    clear hi h hn hd ci
    go_enter Try.func13, Try.ntmps13
    go_wp2
    refine bodyPost_ret (results_cell_row rfl _ _ w.heap.size 43 _ (0, 0) _ rfl (blk_new w _) Try.underlying43 rfl (by kernel_rfl)) rfl ?_
    exact ⟨rfl, H.out.alloc _, (Stp.refl _ _).alloc _⟩
  rw [if_neg ci]
  have hi' := hi ci
  have b1 : (s.due == 9223372036854775807) = false := by simpa using ci
  by_cases cl : now < s.due
  · rw [if_pos cl]
    have b2 : decide (now < s.due) = true := decide_eq_true cl
    clear hi h hn hd ci cl hi'
    go_enter Try.func13, Try.ntmps13
    go_wp2
    refine bodyPost_ret (results_cell_row rfl _ _ w.heap.size 43 _ (0, 0) _ rfl (blk_new w _) Try.underlying43 rfl (by kernel_rfl)) rfl ?_
    exact ⟨rfl, H.out.alloc _, (Stp.refl _ _).alloc _⟩
  rw [if_neg cl]
  have b2 : decide (now < s.due) = false := decide_eq_false cl
  clear hi h hn hd ci cl
  rcases hi' with hs | hs | hs | hs
  · rw [if_neg (by omega), if_neg (by omega)]
    rw [hs] at h25
    have HS0 := Lib.hid hs
    clear hs
    go_enter Try.func13, Try.ntmps13
    go_wp2
    have hmw : MB (w.alloc (.cells #[.bool false, .bool false, .bool false, .int .u8 0] 43)) g F s := H.out.alloc _
    have hsw : Stp g w (w.alloc (.cells #[.bool false, .bool false, .bool false, .int .u8 0] 43)) := (Stp.refl g w).alloc _
    have hbw : (w.alloc (.cells #[.bool false, .bool false, .bool false, .int .u8 0] 43)).heap[w.heap.size]? = some (.cells #[.bool false, .bool false, .bool false, .int .u8 0] 43) := blk_new _ _
    generalize w.alloc (.cells #[.bool false, .bool false, .bool false, .int .u8 0] 43) = W at hmw hsw hbw ⊢
    have h25w : W.cell? ⟨g, 25, none⟩ = some (.int .u8 1) := by have := hmw.c25; rwa [HS0.out] at this
    have HMW := Lib.hid hmw
    have HSW := Lib.hid hsw
    have HBW := Lib.hid hbw
    clear hmw hsw hbw h25
    go_region_with ((first
      | (go_at_call 28; ((with_reducible refine (happens_calls _).mono ?_); rintro e w1 ⟨b, rfl, hle, hm, hb⟩); have hl : (Instr.lookup 71 (.map (some b)) (.agg #[.string { data := #[116, 105, 99, 107] }, .int .u8 1]) false).run Try.prog w1 = .ok (.func (.func 41) #[] #[]) w1 := map_lookup w1 b 5 (by omega) hm; have hb' : Below W.heap.size W w1 := ((Below.refl _ _).drew).trans hb; have hm1 := HMW.out.below hb'; have h25' : w1.cell? ⟨g, 25, none⟩ = some (.int .u8 1) := by { have := hm1.c25; rwa [HS0.out] at this }; have hx1 := blk_below HBW.out hb'; have HM1 := Lib.hid hm1; have HB1 := Lib.hid hb'; have HX1 := Lib.hid hx1; clear hm hb hb' hm1 hx1 hle)
      | (go_at_call 41; ((with_reducible refine (again_calls g F s 0 now _ HM1.out).mono ?_); rintro e w2 ⟨rfl, hm2, hs2⟩); have hx2 := hs2.blk HX1.out (by omega); obtain ⟨k0, k1, k2, k3, q0, q1, q2, q3⟩ := box4 hx2; have HX2 := Lib.hid hx2; have HM2 := Lib.hid hm2; have HS2 := Lib.hid hs2; clear hm2 hs2 hx2)))
    all_goals
      go_wp2
      refine bodyPost_ret (results_cell_row rfl _ _ w.heap.size 43 _ (0, 0) _ rfl (put4 HX2.out _ _ _ _) Try.underlying43 rfl (by kernel_rfl)) rfl ?_
      exact ⟨rfl, HM2.out.far4 (by omega) _ _ _ _, ((HSW.out.trans (Stp.of_below HB1.out)).trans HS2.out).box4 (Nat.le_refl _) _ _ _ _⟩
  · rw [if_pos hs]
    rw [hs] at h25
    have HS0 := Lib.hid hs
    clear hs
    go_enter Try.func13, Try.ntmps13
    go_wp2
    have hmw : MB (w.alloc (.cells #[.bool false, .bool false, .bool false, .int .u8 0] 43)) g F s := H.out.alloc _
    have hsw : Stp g w (w.alloc (.cells #[.bool false, .bool false, .bool false, .int .u8 0] 43)) := (Stp.refl g w).alloc _
    have hbw : (w.alloc (.cells #[.bool false, .bool false, .bool false, .int .u8 0] 43)).heap[w.heap.size]? = some (.cells #[.bool false, .bool false, .bool false, .int .u8 0] 43) := blk_new _ _
    generalize w.alloc (.cells #[.bool false, .bool false, .bool false, .int .u8 0] 43) = W at hmw hsw hbw ⊢
    have h25w : W.cell? ⟨g, 25, none⟩ = some (.int .u8 2) := by have := hmw.c25; rwa [HS0.out] at this
    have HMW := Lib.hid hmw
    have HSW := Lib.hid hsw
    have HBW := Lib.hid hbw
    clear hmw hsw hbw h25
    go_region_with ((first
      | (go_at_call 28; ((with_reducible refine (happens_calls _).mono ?_); rintro e w1 ⟨b, rfl, hle, hm, hb⟩); have hl : (Instr.lookup 71 (.map (some b)) (.agg #[.string { data := #[116, 105, 99, 107] }, .int .u8 2]) false).run Try.prog w1 = .ok (.func (.func 39) #[] #[]) w1 := map_lookup w1 b 3 (by omega) hm; have hb' : Below W.heap.size W w1 := ((Below.refl _ _).drew).trans hb; have hm1 := HMW.out.below hb'; have h25' : w1.cell? ⟨g, 25, none⟩ = some (.int .u8 2) := by { have := hm1.c25; rwa [HS0.out] at this }; have hx1 := blk_below HBW.out hb'; have HM1 := Lib.hid hm1; have HB1 := Lib.hid hb'; have HX1 := Lib.hid hx1; clear hm hb hb' hm1 hx1 hle)
      | (go_at_call 39; ((with_reducible refine (begun_calls g F s 0 now _ HM1.out HN.out HD.out).mono ?_); rintro e w2 ⟨rfl, hm2, hs2⟩); have hx2 := hs2.blk HX1.out (by omega); obtain ⟨k0, k1, k2, k3, q0, q1, q2, q3⟩ := box4 hx2; have HX2 := Lib.hid hx2; have HM2 := Lib.hid hm2; have HS2 := Lib.hid hs2; clear hm2 hs2 hx2)))
    all_goals
      go_wp2
      refine bodyPost_ret (results_cell_row rfl _ _ w.heap.size 43 _ (0, 0) _ rfl (put4 HX2.out _ _ _ _) Try.underlying43 rfl (by kernel_rfl)) rfl ?_
      exact ⟨rfl, HM2.out.far4 (by omega) _ _ _ _, ((HSW.out.trans (Stp.of_below HB1.out)).trans HS2.out).box4 (Nat.le_refl _) _ _ _ _⟩
  · rw [if_neg (by omega), if_pos hs]
    rw [hs] at h25
    have HS0 := Lib.hid hs
    clear hs
    go_enter Try.func13, Try.ntmps13
    go_wp2
    have hmw : MB (w.alloc (.cells #[.bool false, .bool false, .bool false, .int .u8 0] 43)) g F s := H.out.alloc _
    have hsw : Stp g w (w.alloc (.cells #[.bool false, .bool false, .bool false, .int .u8 0] 43)) := (Stp.refl g w).alloc _
    have hbw : (w.alloc (.cells #[.bool false, .bool false, .bool false, .int .u8 0] 43)).heap[w.heap.size]? = some (.cells #[.bool false, .bool false, .bool false, .int .u8 0] 43) := blk_new _ _
    generalize w.alloc (.cells #[.bool false, .bool false, .bool false, .int .u8 0] 43) = W at hmw hsw hbw ⊢
    have h25w : W.cell? ⟨g, 25, none⟩ = some (.int .u8 4) := by have := hmw.c25; rwa [HS0.out] at this
    have HMW := Lib.hid hmw
    have HSW := Lib.hid hsw
    have HBW := Lib.hid hbw
    clear hmw hsw hbw h25
    go_region_with ((first
      | (go_at_call 28; ((with_reducible refine (happens_calls _).mono ?_); rintro e w1 ⟨b, rfl, hle, hm, hb⟩); have hl : (Instr.lookup 71 (.map (some b)) (.agg #[.string { data := #[116, 105, 99, 107] }, .int .u8 4]) false).run Try.prog w1 = .ok (.func (.func 40) #[] #[]) w1 := map_lookup w1 b 4 (by omega) hm; have hb' : Below W.heap.size W w1 := ((Below.refl _ _).drew).trans hb; have hm1 := HMW.out.below hb'; have h25' : w1.cell? ⟨g, 25, none⟩ = some (.int .u8 4) := by { have := hm1.c25; rwa [HS0.out] at this }; have hx1 := blk_below HBW.out hb'; have HM1 := Lib.hid hm1; have HB1 := Lib.hid hb'; have HX1 := Lib.hid hx1; clear hm hb hb' hm1 hx1 hle)
      | (go_at_call 40; ((with_reducible refine (lost_calls g F s 0 now _ HM1.out).mono ?_); rintro e w2 ⟨rfl, hm2, hs2⟩); have hx2 := hs2.blk HX1.out (by omega); obtain ⟨k0, k1, k2, k3, q0, q1, q2, q3⟩ := box4 hx2; have HX2 := Lib.hid hx2; have HM2 := Lib.hid hm2; have HS2 := Lib.hid hs2; clear hm2 hs2 hx2)))
    all_goals
      go_wp2
      refine bodyPost_ret (results_cell_row rfl _ _ w.heap.size 43 _ (0, 0) _ rfl (put4 HX2.out _ _ _ _) Try.underlying43 rfl (by kernel_rfl)) rfl ?_
      exact ⟨rfl, HM2.out.far4 (by omega) _ _ _ _, ((HSW.out.trans (Stp.of_below HB1.out)).trans HS2.out).box4 (Nat.le_refl _) _ _ _ _⟩
  · rw [if_neg (by omega), if_neg (by omega)]
    rw [hs] at h25
    have HS0 := Lib.hid hs
    clear hs
    go_enter Try.func13, Try.ntmps13
    go_wp2
    have hmw : MB (w.alloc (.cells #[.bool false, .bool false, .bool false, .int .u8 0] 43)) g F s := H.out.alloc _
    have hsw : Stp g w (w.alloc (.cells #[.bool false, .bool false, .bool false, .int .u8 0] 43)) := (Stp.refl g w).alloc _
    have hbw : (w.alloc (.cells #[.bool false, .bool false, .bool false, .int .u8 0] 43)).heap[w.heap.size]? = some (.cells #[.bool false, .bool false, .bool false, .int .u8 0] 43) := blk_new _ _
    generalize w.alloc (.cells #[.bool false, .bool false, .bool false, .int .u8 0] 43) = W at hmw hsw hbw ⊢
    have h25w : W.cell? ⟨g, 25, none⟩ = some (.int .u8 5) := by have := hmw.c25; rwa [HS0.out] at this
    have HMW := Lib.hid hmw
    have HSW := Lib.hid hsw
    have HBW := Lib.hid hbw
    clear hmw hsw hbw h25
    go_region_with ((first
      | (go_at_call 28; ((with_reducible refine (happens_calls _).mono ?_); rintro e w1 ⟨b, rfl, hle, hm, hb⟩); have hl : (Instr.lookup 71 (.map (some b)) (.agg #[.string { data := #[116, 105, 99, 107] }, .int .u8 5]) false).run Try.prog w1 = .ok (.func (.func 41) #[] #[]) w1 := map_lookup w1 b 6 (by omega) hm; have hb' : Below W.heap.size W w1 := ((Below.refl _ _).drew).trans hb; have hm1 := HMW.out.below hb'; have h25' : w1.cell? ⟨g, 25, none⟩ = some (.int .u8 5) := by { have := hm1.c25; rwa [HS0.out] at this }; have hx1 := blk_below HBW.out hb'; have HM1 := Lib.hid hm1; have HB1 := Lib.hid hb'; have HX1 := Lib.hid hx1; clear hm hb hb' hm1 hx1 hle)
      | (go_at_call 41; ((with_reducible refine (again_calls g F s 0 now _ HM1.out).mono ?_); rintro e w2 ⟨rfl, hm2, hs2⟩); have hx2 := hs2.blk HX1.out (by omega); obtain ⟨k0, k1, k2, k3, q0, q1, q2, q3⟩ := box4 hx2; have HX2 := Lib.hid hx2; have HM2 := Lib.hid hm2; have HS2 := Lib.hid hs2; clear hm2 hs2 hx2)))
    all_goals
      go_wp2
      refine bodyPost_ret (results_cell_row rfl _ _ w.heap.size 43 _ (0, 0) _ rfl (put4 HX2.out _ _ _ _) Try.underlying43 rfl (by kernel_rfl)) rfl ?_
      exact ⟨rfl, HM2.out.far4 (by omega) _ _ _ _, ((HSW.out.trans (Stp.of_below HB1.out)).trans HS2.out).box4 (Nat.le_refl _) _ _ _ _⟩
end Go.Proofs.Ytngoenbdimlppaa.Svc
