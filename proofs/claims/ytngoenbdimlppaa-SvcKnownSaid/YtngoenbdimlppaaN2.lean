/- The contracts of the reference's machine, the rest; the comparison of two answers. -/
import Derived.Test.YtngoenbdimlppaaN1
import Derived.Test.YtngoenbdimlppaaM9
namespace Go.Proofs.Ytngoenbdimlppaa.Svc
open Go.RowKit Go.Proofs.YtngoenbdimlppaaW.PrintWords Go.Proofs.YtngoenbdimlppaaW.PrintLast Go.Proofs.YtngoenbdimlppaaW.PrintMore
set_option linter.unusedVariables false
set_option linter.unusedSimpArgs false
set_option maxRecDepth 100000

set_option maxHeartbeats 1000000 in
theorem rstop_calls (g : Nat) (F : FV) (s : MS) (now : Int) (w : World) (h : RB w g F s) (hn : R64 now) (hd : R64 F.dn) :
    Calls Try.prog 31 #[.pointer (some ⟨g, 0, none⟩), .int .i64 now] w fun e w' => e = .returned (stopV F s now).1.rv ∧ RB w' g F (stopV F s now).2 ∧ Stp g w w' := by
  have hu80 := Try.underlying80
  have hlt := h.lt
  have h25 := h.c25
  have h26 := h.c26
  have h28 := h.c28
  have f28 := h.fz 28
  have H := Lib.hid h
  have HN := Lib.hid hn
  have HD := Lib.hid hd
  clear h hn hd
  unfold stopV
  by_cases c4 : s.st = 4
  · rw [if_pos c4]
    have b4 : (s.st == 4) = true := by simpa using c4
    clear c4
    go_enter Try.func31, Try.ntmps31
    go_wp2
    have e : (w.setCell ⟨g, 28, none⟩ (.bool false)).heap.size = w.heap.size := World.size_setCell ..
    refine bodyPost_ret (results_cell_row rfl _ _ w.heap.size 80 _ (0, 0) _ rfl (by rw [← e]; exact blk_new _ _) Try.underlying80 rfl (by kernel_rfl)) rfl ?_
    exact ⟨rfl, (H.out.s28 _).alloc _, ((Stp.refl _ _).set _).alloc _⟩
  rw [if_neg c4]
  have b4 : (s.st == 4) = false := by simpa using c4
  clear c4
  cases hr : s.runs
  · rw [if_neg (by decide)]
    rw [hr] at h26
    clear hr
    go_enter Try.func31, Try.ntmps31
    go_wp2_with (first
      | (go_at_call 42; ((with_reducible refine (rto_calls g F s 1 _ (H.out.alloc _)).mono ?_); rintro e w1 ⟨rfl, hm, hs⟩); have hx := hs.blk (blk_new w _) (by omega); obtain ⟨k0, k1, k2, k3, q0, q1, q2, q3⟩ := box4 hx; have hxl := blk_lt hx; have HX := Lib.hid hx; clear hx; have HM := Lib.hid hm; have HS := Lib.hid hs; clear hm hs))
    refine bodyPost_ret (results_cell_row rfl _ _ w.heap.size 80 _ (0, 0) _ rfl (put4 HX.out _ _ _ _) Try.underlying80 rfl (by kernel_rfl)) rfl ?_
    exact ⟨rfl, HM.out.far4 (by omega) _ _ _ _, (HS.out.pre _).box4 (Nat.le_refl _) _ _ _ _⟩
  · rw [if_pos rfl]
    rw [hr] at h26
    clear hr
    go_enter Try.func31, Try.ntmps31
    go_wp2_with (first
      | (go_at_call 42; ((with_reducible refine (rto_calls g F s 4 _ (H.out.alloc _)).mono ?_); rintro e w1 ⟨rfl, hm, hs⟩); have hx := hs.blk (blk_new w _) (by omega); obtain ⟨k0, k1, k2, k3, q0, q1, q2, q3⟩ := box4 hx; have hxl := blk_lt hx; have HX := Lib.hid hx; clear hx; have h16' := hm.c16; have HM := Lib.hid hm; have HS := Lib.hid hs; clear hm hs)
      | (go_at_call 43; ((with_reducible refine (rlater_calls _ _ HN.out HD.out _).mono ?_); rintro e w7 ⟨rfl, hb⟩); have hm7 := HM.out.below hb; have hx7 := blk_below HX.out hb; obtain ⟨k0', k1', k2', k3', q0', q1', q2', q3'⟩ := box4 hx7; have h27 := hm7.c27; have f27 := hm7.fz 27; have HM7 := Lib.hid hm7; have HB7 := Lib.hid hb; have HX7 := Lib.hid hx7; clear hm7 hb hx7))
    refine bodyPost_ret (results_cell_row rfl _ _ w.heap.size 80 _ (0, 0) _ rfl (put4 (blk_far HX7.out (by simp only []; omega) _) _ _ _ _) Try.underlying80 rfl (by kernel_rfl)) rfl ?_
    exact ⟨rfl, (HM7.out.s27 _).far4 (by omega) _ _ _ _, (((HS.out.pre _).trans (Stp.of_below HB7.out)).set _).box4 (Nat.le_refl _) _ _ _ _⟩

set_option maxHeartbeats 2000000 in
theorem rexit_calls (g : Nat) (F : FV) (s : MS) (code now : Int) (w : World) (h : RB w g F s) (hn : R64 now) (hd : R64 F.agn) :
    Calls Try.prog 32 #[.pointer (some ⟨g, 0, none⟩), .int .i64 code, .int .i64 now] w fun e w' => e = .returned (exitV F s code now).1.rv ∧ RB w' g F (exitV F s code now).2 ∧ Stp g w w' := by
  have hu80 := Try.underlying80
  have hlt := h.lt
  have h11 := h.c11
  have h12 := h.c12
  have h25 := h.c25
  have h26 := h.c26
  have f26 := h.fz 26
  have h28 := h.c28
  have H := Lib.hid h
  have HN := Lib.hid hn
  have HD := Lib.hid hd
  have ht : ∀ o, ((w.setCell ⟨g, 26, none⟩ (.bool false)).alloc o).heap[w.heap.size]? = some o := fun o => by rw [← (World.size_setCell .. : (w.setCell ⟨g, 26, none⟩ (.bool false)).heap.size = w.heap.size)]; exact blk_new _ _
  have HT := Lib.hid ht
  clear h hn hd ht
  unfold exitV
  cases hr : s.runs
  · rw [if_neg (by decide)]
    rw [hr] at h26
    clear hr
    go_enter Try.func32, Try.ntmps32
    go_wp2
    refine bodyPost_ret (results_cell_row rfl _ _ w.heap.size 80 _ (0, 0) _ rfl (blk_new _ _) Try.underlying80 rfl (by kernel_rfl)) rfl ?_
    exact ⟨rfl, H.out.alloc _, (Stp.refl _ _).alloc _⟩
  rw [if_pos rfl]
  rw [hr] at h26
  clear hr
  by_cases c2 : s.st = 2
  · rw [if_pos c2]
    have b2 : (s.st == 2) = true := by simpa using c2
    have b3 : (s.st == 3) = false := by simp; omega
    unfold failsV
    by_cases ct : F.typ = 2
    · rw [if_pos ct]
      have bt : (F.typ == 2) = true := by simpa using ct
      by_cases cc : code = 0
      · rw [if_pos cc]
        have bc : (code == 0) = true := by simpa using cc
        cases hm : F.rem
        · rw [if_neg (by decide)]
          rw [hm] at h12
          have HRm := Lib.hid hm
          clear c2 ct cc hm
          go_enter Try.func32, Try.ntmps32
          go_wp2_with (first
            | (go_at_call 42; ((with_reducible refine (rto_calls g F { s with runs := false } 1 _ ((H.out.s26 false).alloc _)).mono ?_); rintro e w1 ⟨rfl, hm, hs⟩); have hx := hs.blk (HT.out _) (by omega); obtain ⟨k0, k1, k2, k3, q0, q1, q2, q3⟩ := box4 hx; have hxl := blk_lt hx; have HX := Lib.hid hx; clear hx; have h12' : w1.cell? ⟨g, 12, none⟩ = some (.bool false) := by { have := hm.c12; rwa [HRm.out] at this }; have HM := Lib.hid hm; have HS := Lib.hid hs; clear hm hs))
          refine bodyPost_ret (results_cell_row rfl _ _ w.heap.size 80 _ (0, 0) _ rfl (put4 HX.out _ _ _ _) Try.underlying80 rfl (by kernel_rfl)) rfl ?_
          exact ⟨rfl, HM.out.far4 (by omega) _ _ _ _, (((Stp.refl g w).set (j := 26) (.bool false)).alloc (.cells #[.bool false, .bool false, .bool false, .int .i64 0] 80) |>.trans HS.out).box4 (Nat.le_refl _) _ _ _ _⟩
        · rw [if_pos rfl]
          rw [hm] at h12
          have HRm := Lib.hid hm
          clear c2 ct cc hm
          go_enter Try.func32, Try.ntmps32
          go_wp2_with (first
            | (go_at_call 42; ((with_reducible refine (rto_calls g F { s with runs := false } 1 _ ((H.out.s26 false).alloc _)).mono ?_); rintro e w1 ⟨rfl, hm, hs⟩); have hx := hs.blk (HT.out _) (by omega); obtain ⟨k0, k1, k2, k3, q0, q1, q2, q3⟩ := box4 hx; have hxl := blk_lt hx; have HX := Lib.hid hx; clear hx; have h12' : w1.cell? ⟨g, 12, none⟩ = some (.bool true) := by { have := hm.c12; rwa [HRm.out] at this }; have h25' := hm.c25; have f25' := hm.fz 25; have HM := Lib.hid hm; have HS := Lib.hid hs; clear hm hs))
          refine bodyPost_ret (results_cell_row rfl _ _ w.heap.size 80 _ (0, 0) _ rfl (put4 (blk_far HX.out (by simp only []; omega) _) _ _ _ _) Try.underlying80 rfl (by kernel_rfl)) rfl ?_
          exact ⟨rfl, (HM.out.s25 _).far4 (by omega) _ _ _ _, ((((Stp.refl g w).set (j := 26) (.bool false)).alloc (.cells #[.bool false, .bool false, .bool false, .int .i64 0] 80) |>.trans HS.out).set _).box4 (Nat.le_refl _) _ _ _ _⟩
      · rw [if_neg cc]
        have bc : (code == 0) = false := by simpa using cc
        clear c2 ct cc
        go_enter Try.func32, Try.ntmps32
        go_wp2_with (first
          | (go_at_call 44; ((with_reducible refine (rends_calls g F { s with runs := false } code now _ ((H.out.s26 false).alloc _) HN.out HD.out).mono ?_); rintro e w1 ⟨rfl, hm, hs⟩); have hx := hs.blk (HT.out _) (by omega); obtain ⟨k0, k1, k2, k3, q0, q1, q2, q3⟩ := box4 hx; have hxl := blk_lt hx; have HX := Lib.hid hx; clear hx; have HM := Lib.hid hm; have HS := Lib.hid hs; clear hm hs))
        refine bodyPost_ret (results_cell_row rfl _ _ w.heap.size 80 _ (0, 0) _ rfl (put4 HX.out _ _ _ _) Try.underlying80 rfl (by kernel_rfl)) rfl ?_
        exact ⟨rfl, HM.out.far4 (by omega) _ _ _ _, (((Stp.refl g w).set (j := 26) (.bool false)).alloc (.cells #[.bool false, .bool false, .bool false, .int .i64 0] 80) |>.trans HS.out).box4 (Nat.le_refl _) _ _ _ _⟩
    · rw [if_neg ct]
      have bt : (F.typ == 2) = false := by simpa using ct
      clear c2 ct
      go_enter Try.func32, Try.ntmps32
      go_wp2_with (first
        | (go_at_call 44; ((with_reducible refine (rends_calls g F { s with runs := false } code now _ ((H.out.s26 false).alloc _) HN.out HD.out).mono ?_); rintro e w1 ⟨rfl, hm, hs⟩); have hx := hs.blk (HT.out _) (by omega); obtain ⟨k0, k1, k2, k3, q0, q1, q2, q3⟩ := box4 hx; have hxl := blk_lt hx; have HX := Lib.hid hx; clear hx; have HM := Lib.hid hm; have HS := Lib.hid hs; clear hm hs))
      refine bodyPost_ret (results_cell_row rfl _ _ w.heap.size 80 _ (0, 0) _ rfl (put4 HX.out _ _ _ _) Try.underlying80 rfl (by kernel_rfl)) rfl ?_
      exact ⟨rfl, HM.out.far4 (by omega) _ _ _ _, (((Stp.refl g w).set (j := 26) (.bool false)).alloc (.cells #[.bool false, .bool false, .bool false, .int .i64 0] 80) |>.trans HS.out).box4 (Nat.le_refl _) _ _ _ _⟩
  rw [if_neg c2]
  have b2 : (s.st == 2) = false := by simpa using c2
  by_cases c3 : s.st = 3
  · rw [if_pos c3]
    have b3 : (s.st == 3) = true := by simpa using c3
    clear c2 c3
    go_enter Try.func32, Try.ntmps32
    go_wp2_with (first
      | (go_at_call 44; ((with_reducible refine (rends_calls g F { s with runs := false } code now _ ((H.out.s26 false).alloc _) HN.out HD.out).mono ?_); rintro e w1 ⟨rfl, hm, hs⟩); have hx := hs.blk (HT.out _) (by omega); obtain ⟨k0, k1, k2, k3, q0, q1, q2, q3⟩ := box4 hx; have hxl := blk_lt hx; have HX := Lib.hid hx; clear hx; have HM := Lib.hid hm; have HS := Lib.hid hs; clear hm hs))
    refine bodyPost_ret (results_cell_row rfl _ _ w.heap.size 80 _ (0, 0) _ rfl (put4 HX.out _ _ _ _) Try.underlying80 rfl (by kernel_rfl)) rfl ?_
    exact ⟨rfl, HM.out.far4 (by omega) _ _ _ _, (((Stp.refl g w).set (j := 26) (.bool false)).alloc (.cells #[.bool false, .bool false, .bool false, .int .i64 0] 80) |>.trans HS.out).box4 (Nat.le_refl _) _ _ _ _⟩
  rw [if_neg c3]
  have b3 : (s.st == 3) = false := by simpa using c3
  clear c2 c3
  unfold goneV
  cases hl : s.late
  · rw [if_neg (by decide)]
    rw [hl] at h28
    clear hl
    go_enter Try.func32, Try.ntmps32
    go_wp2_with (first
      | (go_at_call 42; ((with_reducible refine (rto_calls g F { s with runs := false } 1 _ ((H.out.s26 false).alloc _)).mono ?_); rintro e w1 ⟨rfl, hm, hs⟩); have hx := hs.blk (HT.out _) (by omega); obtain ⟨k0, k1, k2, k3, q0, q1, q2, q3⟩ := box4 hx; have hxl := blk_lt hx; have HX := Lib.hid hx; clear hx; have HM := Lib.hid hm; have HS := Lib.hid hs; clear hm hs))
    refine bodyPost_ret (results_cell_row rfl _ _ w.heap.size 80 _ (0, 0) _ rfl (put4 HX.out _ _ _ _) Try.underlying80 rfl (by kernel_rfl)) rfl ?_
    exact ⟨rfl, HM.out.far4 (by omega) _ _ _ _, (((Stp.refl g w).set (j := 26) (.bool false)).alloc (.cells #[.bool false, .bool false, .bool false, .int .i64 0] 80) |>.trans HS.out).box4 (Nat.le_refl _) _ _ _ _⟩
  · rw [if_pos rfl]
    rw [hl] at h28
    clear hl
    go_enter Try.func32, Try.ntmps32
    go_wp2_with (first
      | (go_at_call 42; ((with_reducible refine (rto_calls g F { s with runs := false } 5 _ ((H.out.s26 false).alloc _)).mono ?_); rintro e w1 ⟨rfl, hm, hs⟩); have hx := hs.blk (HT.out _) (by omega); obtain ⟨k0, k1, k2, k3, q0, q1, q2, q3⟩ := box4 hx; have hxl := blk_lt hx; have HX := Lib.hid hx; clear hx; have HM := Lib.hid hm; have HS := Lib.hid hs; clear hm hs))
    refine bodyPost_ret (results_cell_row rfl _ _ w.heap.size 80 _ (0, 0) _ rfl (put4 HX.out _ _ _ _) Try.underlying80 rfl (by kernel_rfl)) rfl ?_
    exact ⟨rfl, HM.out.far4 (by omega) _ _ _ _, (((Stp.refl g w).set (j := 26) (.bool false)).alloc (.cells #[.bool false, .bool false, .bool false, .int .i64 0] 80) |>.trans HS.out).box4 (Nat.le_refl _) _ _ _ _⟩

set_option maxHeartbeats 2000000 in
theorem rtick_calls (g : Nat) (F : FV) (s : MS) (now : Int) (w : World) (h : RB w g F s) (hn : R64 now) (hd : R64 F.dn) :
    Calls Try.prog 33 #[.pointer (some ⟨g, 0, none⟩), .int .i64 now] w fun e w' => e = .returned (tickV F s now).1.rv ∧ RB w' g F (tickV F s now).2 ∧ Stp g w w' := by
  have hu80 := Try.underlying80
  have hlt := h.lt
  have h11 := h.c11
  have h16 := h.c16
  have h25 := h.c25
  have f25 := h.fz 25
  have h26 := h.c26
  have f26 := h.fz 26
  have h27 := h.c27
  have f27 := h.fz 27
  have h28 := h.c28
  have f28 := h.fz 28
  have H := Lib.hid h
  have HN := Lib.hid hn
  have HD := Lib.hid hd
  have ht : ∀ o, ((w.setCell ⟨g, 26, none⟩ (.bool false)).alloc o).heap[w.heap.size]? = some o := fun o => by rw [← (World.size_setCell .. : (w.setCell ⟨g, 26, none⟩ (.bool false)).heap.size = w.heap.size)]; exact blk_new _ _
  have HT := Lib.hid ht
  have ht2 : ∀ o, (((w.setCell ⟨g, 25, none⟩ (.int .i64 4)).setCell ⟨g, 28, none⟩ (.bool true)).alloc o).heap[w.heap.size]? = some o := fun o => by rw [← (show ((w.setCell ⟨g, 25, none⟩ (.int .i64 4)).setCell ⟨g, 28, none⟩ (.bool true)).heap.size = w.heap.size by rw [World.size_setCell, World.size_setCell])]; exact blk_new _ _
  have HT2 := Lib.hid ht2
  clear h hn hd ht ht2
  unfold tickV
  by_cases ci : s.due = 9223372036854775807
  · rw [if_pos ci]
    have b1 : (s.due == 9223372036854775807) = true := by simpa using ci
    clear ci
    go_enter Try.func33, Try.ntmps33
    go_wp2
    refine bodyPost_ret (results_cell_row rfl _ _ w.heap.size 80 _ (0, 0) _ rfl (blk_new _ _) Try.underlying80 rfl (by kernel_rfl)) rfl ?_
    exact ⟨rfl, H.out.alloc _, (Stp.refl _ _).alloc _⟩
  rw [if_neg ci]
  have b1 : (s.due == 9223372036854775807) = false := by simpa using ci
  by_cases cl : now < s.due
  · rw [if_pos cl]
    have b2 : decide (now < s.due) = true := decide_eq_true cl
    clear ci cl
    go_enter Try.func33, Try.ntmps33
    go_wp2
    refine bodyPost_ret (results_cell_row rfl _ _ w.heap.size 80 _ (0, 0) _ rfl (blk_new _ _) Try.underlying80 rfl (by kernel_rfl)) rfl ?_
    exact ⟨rfl, H.out.alloc _, (Stp.refl _ _).alloc _⟩
  rw [if_neg cl]
  have b2 : decide (now < s.due) = false := decide_eq_false cl
  clear ci cl
  by_cases c2 : s.st = 2
  · rw [if_pos c2]
    have b3 : (s.st == 2) = true := by simpa using c2
    clear c2
    unfold begunV
    by_cases ct : F.typ = 3
    · rw [if_pos ct]
      have bt : (F.typ == 3) = true := by simpa using ct
      clear ct
      go_enter Try.func33, Try.ntmps33
      go_wp2_with (first
        | (go_at_call 42; ((with_reducible refine (rto_calls g F s 3 _ (H.out.alloc _)).mono ?_); rintro e w1 ⟨rfl, hm, hs⟩); have hx := hs.blk (blk_new w _) (by omega); obtain ⟨k0, k1, k2, k3, q0, q1, q2, q3⟩ := box4 hx; have hxl := blk_lt hx; have HX := Lib.hid hx; clear hx; have HM := Lib.hid hm; have HS := Lib.hid hs; clear hm hs))
      refine bodyPost_ret (results_cell_row rfl _ _ w.heap.size 80 _ (0, 0) _ rfl (put4 HX.out _ _ _ _) Try.underlying80 rfl (by kernel_rfl)) rfl ?_
      exact ⟨rfl, HM.out.far4 (by omega) _ _ _ _, (HS.out.pre _).box4 (Nat.le_refl _) _ _ _ _⟩
    · rw [if_neg ct]
      have bt : (F.typ == 3) = false := by simpa using ct
      clear ct
      go_enter Try.func33, Try.ntmps33
      go_wp2_with (first
        | (go_at_call 43; ((with_reducible refine (rlater_calls _ _ HN.out HD.out _).mono ?_); rintro e w7 ⟨rfl, hb⟩); have hm7 := (((H.out.s25 4).s28 true).alloc _).below hb; have hx7 := blk_below (HT2.out _) hb; obtain ⟨k0, k1, k2, k3, q0, q1, q2, q3⟩ := box4 hx7; have hxl := blk_lt hx7; have h27' := hm7.c27; have f27' := hm7.fz 27; have HM7 := Lib.hid hm7; have HB7 := Lib.hid hb; have HX7 := Lib.hid hx7; clear hm7 hb hx7))
      refine bodyPost_ret (results_cell_row rfl _ _ w.heap.size 80 _ (0, 0) _ rfl (put4 (blk_far HX7.out (by simp only []; omega) _) _ _ _ _) Try.underlying80 rfl (by kernel_rfl)) rfl ?_
      exact ⟨rfl, (HM7.out.s27 _).far4 (by omega) _ _ _ _, (((((((Stp.refl g w).set (j := 25) (.int .i64 4)).set (j := 28) (.bool true)).alloc (.cells #[.bool false, .bool false, .bool false, .int .i64 0] 80)).trans (Stp.of_below HB7.out))).set _).box4 (Nat.le_refl _) _ _ _ _⟩
  rw [if_neg c2]
  have b3 : (s.st == 2) = false := by simpa using c2
  by_cases c4 : s.st = 4
  · rw [if_pos c4]
    have b4 : (s.st == 4) = true := by simpa using c4
    clear c2 c4
    unfold lostV
    cases hl : s.late
    · rw [if_neg (by decide)]
      rw [hl] at h28
      clear hl
      go_enter Try.func33, Try.ntmps33
      go_wp2_with (first
        | (go_at_call 42; ((with_reducible refine (rto_calls g F { s with runs := false } 5 _ ((H.out.s26 false).alloc _)).mono ?_); rintro e w1 ⟨rfl, hm, hs⟩); have hx := hs.blk (HT.out _) (by omega); obtain ⟨k0, k1, k2, k3, q0, q1, q2, q3⟩ := box4 hx; have hxl := blk_lt hx; have HX := Lib.hid hx; clear hx; have HM := Lib.hid hm; have HS := Lib.hid hs; clear hm hs))
      refine bodyPost_ret (results_cell_row rfl _ _ w.heap.size 80 _ (0, 0) _ rfl (put4 HX.out _ _ _ _) Try.underlying80 rfl (by kernel_rfl)) rfl ?_
      exact ⟨rfl, HM.out.far4 (by omega) _ _ _ _, (((Stp.refl g w).set (j := 26) (.bool false)).alloc (.cells #[.bool false, .bool false, .bool false, .int .i64 0] 80) |>.trans HS.out).box4 (Nat.le_refl _) _ _ _ _⟩
    · rw [if_pos rfl]
      rw [hl] at h28
      clear hl
      go_enter Try.func33, Try.ntmps33
      go_wp2_with (first
        | (go_at_call 42; ((with_reducible refine (rto_calls g F { s with runs := false } 5 _ ((H.out.s26 false).alloc _)).mono ?_); rintro e w1 ⟨rfl, hm, hs⟩); have hx := hs.blk (HT.out _) (by omega); obtain ⟨k0, k1, k2, k3, q0, q1, q2, q3⟩ := box4 hx; have hxl := blk_lt hx; have HX := Lib.hid hx; clear hx; have HM := Lib.hid hm; have HS := Lib.hid hs; clear hm hs))
      refine bodyPost_ret (results_cell_row rfl _ _ w.heap.size 80 _ (0, 0) _ rfl (put4 HX.out _ _ _ _) Try.underlying80 rfl (by kernel_rfl)) rfl ?_
      exact ⟨rfl, HM.out.far4 (by omega) _ _ _ _, (((Stp.refl g w).set (j := 26) (.bool false)).alloc (.cells #[.bool false, .bool false, .bool false, .int .i64 0] 80) |>.trans HS.out).box4 (Nat.le_refl _) _ _ _ _⟩
  rw [if_neg c4]
  have b4 : (s.st == 4) = false := by simpa using c4
  clear c2 c4
  go_enter Try.func33, Try.ntmps33
  go_wp2
  have e : (w.setCell ⟨g, 27, none⟩ (.int .i64 9223372036854775807)).heap.size = w.heap.size := World.size_setCell ..
  refine bodyPost_ret (results_cell_row rfl _ _ w.heap.size 80 _ (0, 0) _ rfl (by rw [← e]; exact blk_new _ _) Try.underlying80 rfl (by kernel_rfl)) rfl ?_
  exact ⟨rfl, (H.out.s27 _).alloc _, ((Stp.refl _ _).set _).alloc _⟩

theorem is_calls (sp ki ag : Bool) (re : Int) (h0 : 0 ≤ re) (h1 : re ≤ 255) (w : World) :
    Calls Try.prog 30 #[.agg #[.bool sp, .bool ki, .bool ag, .int .u8 re], .agg #[.bool sp, .bool ki, .bool ag, .int .i64 re]] w fun e w' => e = .returned (.bool true) ∧ Below w.heap.size w w' := by
  have hu43 := Try.underlying43
  have hu80 := Try.underlying80
  have e1 : (sp == sp) = true := by simp
  have e2 : (ki == ki) = true := by simp
  have e3 : (ag == ag) = true := by simp
  have e4 : (re == re) = true := by simp
  go_enter Try.func30, Try.ntmps30
  go_wp2
  go_ret
  exact ⟨rfl, below_alloc (below_alloc (Below.refl _ _) _) _⟩
theorem rnew_calls (F : FV) (w : World) :
    Calls Try.prog 21 #[.agg (rfc F)] w fun e w' => ∃ g, e = .returned (.pointer (some ⟨g, 0, none⟩)) ∧ w.heap.size ≤ g ∧ RB w' g F newS ∧ Below w.heap.size w w' := by
  have hu61 := Try.underlying61
  have hu65 := Try.underlying65
  go_enter Try.func21, Try.ntmps21
  go_wp2_with (first
    | ((with_reducible refine gate_dst (N := 1) rfl ?_); refine box_event ?hg (N := 1) ?hd (cs := rfc F) (t := 61) ?hr ?_; (case hd => rfl); (case hg => rfl); (case hr => first | (go_simp; done) | (go_simp; rfl)); intro g1 e1 w1 h1 b1; have E1 := Lib.hid e1; have H1 := Lib.hid h1; have B1 := Lib.hid b1; clear e1 h1 b1)
    | ((with_reducible refine gate_dst (N := 3) rfl ?_); refine wpList_load_mid rfl 61 _ rfl g1 0 rfl (rfc F).toList _ (range_blk H1.out) hu61 rfl (by kernel_rfl) ?_)
    | ((with_reducible refine gate_dst (N := 5) rfl ?_); refine box_event ?hg (N := 5) ?hd (cs := rc F newS) (t := 65) ?hr ?_; (case hd => rfl); (case hg => rfl); (case hr => first | (go_simp; done) | (go_simp; rfl)); intro g2 e2 w2 h2 b2; have E2 := Lib.hid e2; have H2 := Lib.hid h2; have B2 := Lib.hid b2; clear e2 h2 b2))
  go_ret
  exact ⟨g2, rfl, by rw [E2.out]; exact B1.out.size, H2.out, B1.out.trans (B2.out.mono B1.out.size)⟩
end Go.Proofs.Ytngoenbdimlppaa.Svc
