/- The contracts of what happens: fails, exits, gone, begun, lost, again. -/
import Derived.Test.YtngoenbdimlppaaM4
namespace Go.Proofs.Ytngoenbdimlppaa.Svc
open Go.RowKit Go.Proofs.YtngoenbdimlppaaW.PrintWords Go.Proofs.YtngoenbdimlppaaW.PrintLast Go.Proofs.YtngoenbdimlppaaW.PrintMore
set_option linter.unusedVariables false
set_option linter.unusedSimpArgs false
set_option maxRecDepth 100000

theorem exits_calls (g : Nat) (F : FV) (s : MS) (code now : Int) (w : World) (h : MB w g F s) (hn : R64 now) (hd : R64 F.agn) :
    Calls Try.prog 37 #[.pointer (some ⟨g, 0, none⟩), .int .i64 code, .int .i64 now] w fun e w' => e = .returned (OV.v ⟨false, false, false, 0⟩) ∧ MB w' g F (endS F s code now) ∧ Stp g w w' := by
  have hu43 := Try.underlying43
  have hlt := h.lt
  have H := Lib.hid h
  have HN := Lib.hid hn
  have HD := Lib.hid hd
  clear h hn hd
  go_enter Try.func37, Try.ntmps37
  go_wp2_with (first
    | (go_at_call 46; ((with_reducible refine (end_calls g F s code now _ (H.out.alloc _) HN.out HD.out).mono ?_); rintro e w1 ⟨rfl, hm, hs⟩); have hx := hs.blk (blk_new w _) (by omega); obtain ⟨k0, k1, k2, k3, q0, q1, q2, q3⟩ := box4 hx; have HX := Lib.hid hx; have HM := Lib.hid hm; have HS := Lib.hid hs; clear hm hs hx))
  refine bodyPost_ret (results_cell_row rfl _ _ w.heap.size 43 _ (0, 0) _ rfl (put4 HX.out _ _ _ _) Try.underlying43 rfl (by kernel_rfl)) rfl ?_
  exact ⟨rfl, HM.out.far4 (by omega) _ _ _ _, (HS.out.pre _).box4 (Nat.le_refl _) _ _ _ _⟩

theorem again_calls (g : Nat) (F : FV) (s : MS) (code now : Int) (w : World) (h : MB w g F s) :
    Calls Try.prog 41 #[.pointer (some ⟨g, 0, none⟩), .int .i64 code, .int .i64 now] w fun e w' => e = .returned (OV.v ⟨false, false, true, 0⟩) ∧ MB w' g F { s with due := 9223372036854775807 } ∧ Stp g w w' := by
  have hu43 := Try.underlying43
  have hlt := h.lt
  have h27 := h.c27
  have f27 := h.fz 27
  have H := Lib.hid h
  clear h
  go_enter Try.func41, Try.ntmps41
  go_wp2
  have e : (w.setCell ⟨g, 27, none⟩ (.int .i64 9223372036854775807)).heap.size = w.heap.size := World.size_setCell ..
  refine bodyPost_ret (results_cell_row rfl _ _ w.heap.size 43 _ (0, 0) _ rfl (by rw [← e]; exact blk_new _ _) Try.underlying43 rfl (by kernel_rfl)) rfl ?_
  exact ⟨rfl, (H.out.s27 _).alloc _, ((Stp.refl _ _).set _).alloc _⟩

/-- What 'gone' answers, and the state behind it. -/
def goneV (s : MS) : OV × MS := if s.late = true then (⟨false, false, false, 0⟩, toS s 5) else (⟨false, false, false, 1⟩, toS s 1)
theorem gone_calls (g : Nat) (F : FV) (s : MS) (code now : Int) (w : World) (h : MB w g F s) :
    Calls Try.prog 38 #[.pointer (some ⟨g, 0, none⟩), .int .i64 code, .int .i64 now] w fun e w' => e = .returned (goneV s).1.v ∧ MB w' g F (goneV s).2 ∧ Stp g w w' := by
  have hu43 := Try.underlying43
  have hlt := h.lt
  have h28 := h.c28
  have H := Lib.hid h
  clear h
  unfold goneV
  cases hl : s.late
  · rw [if_neg (by decide)]
    rw [hl] at h28
    clear hl
    go_enter Try.func38, Try.ntmps38
    go_wp2_with (first
      | (go_at_call 26; ((with_reducible refine (to_calls g F s 1 _ (H.out.alloc _)).mono ?_); rintro e w1 ⟨rfl, hm, hs⟩); have HM := Lib.hid hm; have HS := Lib.hid hs; clear hm hs)
      | (go_at_call 24; ((with_reducible refine (done_calls _).mono ?_); rintro e w2 ⟨rfl, hb⟩); have hm2 := HM.out.below hb; have hx := blk_below (HS.out.blk (blk_new w _) (by omega)) hb; obtain ⟨k0, k1, k2, k3, q0, q1, q2, q3⟩ := box4 hx; have HM2 := Lib.hid hm2; have HB := Lib.hid hb; have HX := Lib.hid hx; clear hm2 hb hx))
    refine bodyPost_ret (results_cell_row rfl _ _ w.heap.size 43 _ (0, 0) _ rfl (put4 HX.out _ _ _ _) Try.underlying43 rfl (by kernel_rfl)) rfl ?_
    exact ⟨rfl, HM2.out.far4 (by omega) _ _ _ _, ((HS.out.pre _).trans (Stp.of_below HB.out)).box4 (Nat.le_refl _) _ _ _ _⟩
  · rw [if_pos rfl]
    rw [hl] at h28
    clear hl
    go_enter Try.func38, Try.ntmps38
    go_wp2_with (first
      | (go_at_call 26; ((with_reducible refine (to_calls g F s 5 _ (H.out.alloc _)).mono ?_); rintro e w1 ⟨rfl, hm, hs⟩); have hx := hs.blk (blk_new w _) (by omega); obtain ⟨k0, k1, k2, k3, q0, q1, q2, q3⟩ := box4 hx; have HX := Lib.hid hx; have HM := Lib.hid hm; have HS := Lib.hid hs; clear hm hs hx))
    refine bodyPost_ret (results_cell_row rfl _ _ w.heap.size 43 _ (0, 0) _ rfl (put4 HX.out _ _ _ _) Try.underlying43 rfl (by kernel_rfl)) rfl ?_
    exact ⟨rfl, HM.out.far4 (by omega) _ _ _ _, (HS.out.pre _).box4 (Nat.le_refl _) _ _ _ _⟩

/-- What 'begun' answers, and the state behind it. -/
def begunV (F : FV) (s : MS) (now : Int) : OV × MS := if F.typ = 3 then (⟨false, false, false, 1⟩, toS s 3) else (⟨false, true, false, 5⟩, ⟨4, s.runs, later now F.dn, true⟩)
theorem begun_calls (g : Nat) (F : FV) (s : MS) (code now : Int) (w : World) (h : MB w g F s) (hn : R64 now) (hd : R64 F.dn) :
    Calls Try.prog 39 #[.pointer (some ⟨g, 0, none⟩), .int .i64 code, .int .i64 now] w fun e w' => e = .returned (begunV F s now).1.v ∧ MB w' g F (begunV F s now).2 ∧ Stp g w w' := by
  have hu43 := Try.underlying43
  have hlt := h.lt
  have h11 := h.c11
  have H := Lib.hid h
  have HN := Lib.hid hn
  have HD := Lib.hid hd
  clear h hn hd
  unfold begunV
  by_cases c3 : F.typ = 3
  · rw [if_pos c3]
    have b3 : (F.typ == 3) = true := by simpa using c3
    clear c3
    go_enter Try.func39, Try.ntmps39
    go_wp2_with (first
      | (go_at_call 26; ((with_reducible refine (to_calls g F s 3 _ (H.out.alloc _)).mono ?_); rintro e w1 ⟨rfl, hm, hs⟩); have HM := Lib.hid hm; have HS := Lib.hid hs; clear hm hs)
      | (go_at_call 24; ((with_reducible refine (done_calls _).mono ?_); rintro e w2 ⟨rfl, hb⟩); have hm2 := HM.out.below hb; have hx := blk_below (HS.out.blk (blk_new w _) (by omega)) hb; obtain ⟨k0, k1, k2, k3, q0, q1, q2, q3⟩ := box4 hx; have HM2 := Lib.hid hm2; have HB := Lib.hid hb; have HX := Lib.hid hx; clear hm2 hb hx))
    refine bodyPost_ret (results_cell_row rfl _ _ w.heap.size 43 _ (0, 0) _ rfl (put4 HX.out _ _ _ _) Try.underlying43 rfl (by kernel_rfl)) rfl ?_
    exact ⟨rfl, HM2.out.far4 (by omega) _ _ _ _, ((HS.out.pre _).trans (Stp.of_below HB.out)).box4 (Nat.le_refl _) _ _ _ _⟩
  · rw [if_neg c3]
    have b3 : (F.typ == 3) = false := by simpa using c3
    clear c3
    go_enter Try.func39, Try.ntmps39
    go_wp2_with (first
      | (go_at_call 27; ((with_reducible refine (kill_calls g F s now _ (H.out.alloc _) HN.out HD.out).mono ?_); rintro e w1 ⟨rfl, hm, hs⟩); have hx := hs.blk (blk_new w _) (by omega); obtain ⟨k0, k1, k2, k3, q0, q1, q2, q3⟩ := box4 hx; have HX := Lib.hid hx; have h28 := hm.c28; have f28 := hm.fz 28; have hlt1 := hm.lt; have hlt2 := blk_lt hx; have HM := Lib.hid hm; have HS := Lib.hid hs; clear hm hs hx))
    refine bodyPost_ret (results_cell_row rfl _ _ w.heap.size 43 _ (0, 0) _ rfl (blk_alloc (put4 (blk_far HX.out (by simp only []; omega) _) _ _ _ _) _) Try.underlying43 rfl (by kernel_rfl)) rfl ?_
    exact ⟨rfl, (((HM.out.s28 _).far4 (by omega) _ _ _ _).alloc _), (((HS.out.pre _).set _).box4 (Nat.le_refl _) _ _ _ _).alloc _⟩

theorem two_boxes (w : World) (o1 o2 : Obj) : ((w.alloc o1).alloc o2).heap[w.heap.size]? = some o1 ∧ ((w.alloc o1).alloc o2).heap[w.heap.size + 1]? = some o2 := by
  refine ⟨blk_alloc (blk_new w _) _, ?_⟩
  have e1 : (w.alloc o1).heap.size = w.heap.size + 1 := World.size_alloc ..
  rw [← e1]; exact blk_new _ _
def lostV (s : MS) : OV × MS := (⟨false, true, false, if s.late = true then 0 else 5⟩, ⟨5, false, 9223372036854775807, false⟩)
theorem lost_calls (g : Nat) (F : FV) (s : MS) (code now : Int) (w : World) (h : MB w g F s) :
    Calls Try.prog 40 #[.pointer (some ⟨g, 0, none⟩), .int .i64 code, .int .i64 now] w fun e w' => e = .returned (lostV s).1.v ∧ MB w' g F (lostV s).2 ∧ Stp g w w' := by
  have hu43 := Try.underlying43
  have hlt := h.lt
  have h26 := h.c26
  have f26 := h.fz 26
  have h28 := h.c28
  have H := Lib.hid h
  have HT := Lib.hid (fun o1 o2 => two_boxes (w.setCell ⟨g, 26, none⟩ (.bool false)) o1 o2)
  have e : (w.setCell ⟨g, 26, none⟩ (.bool false)).heap.size = w.heap.size := World.size_setCell ..
  rw [e] at HT
  clear h e
  unfold lostV
  cases hl : s.late
  · rw [if_neg (by decide)]
    rw [hl] at h28
    clear hl
    go_enter Try.func40, Try.ntmps40
    go_wp2_with (first
      | (go_at_call 26; ((with_reducible refine (to_calls g F { s with runs := false } 5 _ ((H.out.s26 false).alloc _ |>.alloc _)).mono ?_); rintro e w1 ⟨rfl, hm, hs⟩); have hx := hs.blk (HT.out _ _).1 (by omega); have hy := hs.blk (HT.out _ _).2 (by omega); obtain ⟨k0, k1, k2, k3, q0, q1, q2, q3⟩ := box4 hx; obtain ⟨l0, l1, l2, l3, -, -, -, -⟩ := box4 hy; have HX := Lib.hid hx; have HM := Lib.hid hm; have HS := Lib.hid hs; clear hm hs hx hy))
    refine bodyPost_ret (results_cell_row rfl _ _ w.heap.size 43 _ (0, 0) _ rfl (put4 HX.out _ _ _ _) Try.underlying43 rfl (by kernel_rfl)) rfl ?_
    exact ⟨rfl, HM.out.far4 (by omega) _ _ _ _, ((((((Stp.refl g w).set _).alloc _).alloc _).trans HS.out).box4 (Nat.le_refl _) _ _ _ _)⟩
  · rw [if_pos rfl]
    rw [hl] at h28
    clear hl
    go_enter Try.func40, Try.ntmps40
    go_wp2_with (first
      | (go_at_call 26; ((with_reducible refine (to_calls g F { s with runs := false } 5 _ ((H.out.s26 false).alloc _ |>.alloc _)).mono ?_); rintro e w1 ⟨rfl, hm, hs⟩); have hx := hs.blk (HT.out _ _).1 (by omega); have hy := hs.blk (HT.out _ _).2 (by omega); obtain ⟨k0, k1, k2, k3, q0, q1, q2, q3⟩ := box4 hx; obtain ⟨l0, l1, l2, l3, -, -, -, -⟩ := box4 hy; have HX := Lib.hid hx; have HM := Lib.hid hm; have HS := Lib.hid hs; clear hm hs hx hy))
    refine bodyPost_ret (results_cell_row rfl _ _ w.heap.size 43 _ (0, 0) _ rfl (put4 HX.out _ _ _ _) Try.underlying43 rfl (by kernel_rfl)) rfl ?_
    exact ⟨rfl, HM.out.far4 (by omega) _ _ _ _, ((((((Stp.refl g w).set _).alloc _).alloc _).trans HS.out).box4 (Nat.le_refl _) _ _ _ _)⟩

/-- What 'fails' answers, and the state behind it. -/
def failsV (F : FV) (s : MS) (code now : Int) : OV × MS := if F.typ = 2 then (if code = 0 then (⟨false, false, false, 1⟩, toS s (if F.rem = true then 3 else 1)) else (⟨false, false, false, 2⟩, endS F s code now)) else (⟨false, false, false, 2⟩, endS F s code now)
theorem fails_calls (g : Nat) (F : FV) (s : MS) (code now : Int) (w : World) (h : MB w g F s) (hn : R64 now) (hd : R64 F.agn) :
    Calls Try.prog 36 #[.pointer (some ⟨g, 0, none⟩), .int .i64 code, .int .i64 now] w fun e w' => e = .returned (failsV F s code now).1.v ∧ MB w' g F (failsV F s code now).2 ∧ Stp g w w' := by
  have hu43 := Try.underlying43
  have hu31 := Try.underlying31
  have hlt := h.lt
  have h11 := h.c11
  have h12 := h.c12
  have h13 := h.c13
  have h14 := h.c14
  have h15 := h.c15
  have h16 := h.c16
  have h17 := h.c17
  have H := Lib.hid h
  have HN := Lib.hid hn
  have HD := Lib.hid hd
  have HT := Lib.hid (fun o1 o2 => two_boxes w o1 o2)
  clear h hn hd
  unfold failsV
  by_cases c2 : F.typ = 2
  · rw [if_pos c2]
    have b2 : (F.typ != 2) = false := by simpa using c2
    by_cases cc : code = 0
    · rw [if_pos cc]
      have bc : (code != 0) = false := by simpa using cc
      clear c2 cc
      cases hr : F.rem
      · rw [if_neg (by decide)]
        rw [hr] at h12
        clear hr
        go_enter Try.func36, Try.ntmps36
        go_wp2_with (first
          | (go_at_call 26; ((with_reducible refine (to_calls g F s 1 _ (H.out.alloc _ |>.alloc _)).mono ?_); rintro e w1 ⟨rfl, hm, hs⟩); have hx := hs.blk (HT.out _ _).1 (by omega); have hy := hs.blk (HT.out _ _).2 (by omega); have l1 := (blk_cell hy 1).trans rfl; have HX := Lib.hid hx; have HM := Lib.hid hm; have HS := Lib.hid hs; clear hm hs hx hy)
          | (go_at_call 24; ((with_reducible refine (done_calls _).mono ?_); rintro e w2 ⟨rfl, hb⟩); have hm2 := HM.out.below hb; have hx := blk_below HX.out hb; obtain ⟨k0, k1, k2, k3, q0, q1, q2, q3⟩ := box4 hx; have HM2 := Lib.hid hm2; have HB := Lib.hid hb; have HX2 := Lib.hid hx; clear hm2 hb hx))
        refine bodyPost_ret (results_cell_row rfl _ _ w.heap.size 43 _ (0, 0) _ rfl (put4 HX2.out _ _ _ _) Try.underlying43 rfl (by kernel_rfl)) rfl ?_
        exact ⟨rfl, HM2.out.far4 (by omega) _ _ _ _, ((HS.out.pre2 _ _).trans (Stp.of_below HB.out)).box4 (Nat.le_refl _) _ _ _ _⟩
      · rw [if_pos rfl]
        rw [hr] at h12
        clear hr
        go_enter Try.func36, Try.ntmps36
        go_wp2_with (first
          | (go_at_call 26; ((with_reducible refine (to_calls g F s 1 _ (H.out.alloc _ |>.alloc _)).mono ?_); rintro e w1 ⟨rfl, hm, hs⟩); have hx := hs.blk (HT.out _ _).1 (by omega); have hy := hs.blk (HT.out _ _).2 (by omega); have l1 := (blk_cell hy 1).trans rfl; have h25 := hm.c25; have f25 := hm.fz 25; have HX := Lib.hid hx; have HM := Lib.hid hm; have HS := Lib.hid hs; clear hm hs hx hy)
          | (go_at_call 24; ((with_reducible refine (done_calls _).mono ?_); rintro e w2 ⟨rfl, hb⟩); have hm2 := (HM.out.s25 3).below hb; have hx := blk_below (blk_far HX.out (p := ⟨g, 25, none⟩) (by simp only []; omega) (.int .u8 3)) hb; obtain ⟨k0, k1, k2, k3, q0, q1, q2, q3⟩ := box4 hx; have HM2 := Lib.hid hm2; have HB := Lib.hid hb; have HX2 := Lib.hid hx; clear hm2 hb hx))
        refine bodyPost_ret (results_cell_row rfl _ _ w.heap.size 43 _ (0, 0) _ rfl (put4 HX2.out _ _ _ _) Try.underlying43 rfl (by kernel_rfl)) rfl ?_
        exact ⟨rfl, HM2.out.far4 (by omega) _ _ _ _, (((HS.out.pre2 _ _).set _).trans (Stp.of_below HB.out)).box4 (Nat.le_refl _) _ _ _ _⟩
    · rw [if_neg cc]
      have bc : (code != 0) = true := by simpa using cc
      clear c2 cc
      go_enter Try.func36, Try.ntmps36
      go_wp2_with (first
        | (go_at_call 46; ((with_reducible refine (end_calls g F s code now _ (H.out.alloc _ |>.alloc _) HN.out HD.out).mono ?_); rintro e w1 ⟨rfl, hm, hs⟩); have hx := hs.blk (HT.out _ _).1 (by omega); obtain ⟨k0, k1, k2, k3, q0, q1, q2, q3⟩ := box4 hx; have HX := Lib.hid hx; have HM := Lib.hid hm; have HS := Lib.hid hs; clear hm hs hx))
      refine bodyPost_ret (results_cell_row rfl _ _ w.heap.size 43 _ (0, 0) _ rfl (put4 HX.out _ _ _ _) Try.underlying43 rfl (by kernel_rfl)) rfl ?_
      exact ⟨rfl, HM.out.far4 (by omega) _ _ _ _, (HS.out.pre2 _ _).box4 (Nat.le_refl _) _ _ _ _⟩
  · rw [if_neg c2]
    have b2 : (F.typ != 2) = true := by simpa using c2
    clear c2
    go_enter Try.func36, Try.ntmps36
    go_wp2_with (first
      | (go_at_call 46; ((with_reducible refine (end_calls g F s code now _ (H.out.alloc _ |>.alloc _) HN.out HD.out).mono ?_); rintro e w1 ⟨rfl, hm, hs⟩); have hx := hs.blk (HT.out _ _).1 (by omega); obtain ⟨k0, k1, k2, k3, q0, q1, q2, q3⟩ := box4 hx; have HX := Lib.hid hx; have HM := Lib.hid hm; have HS := Lib.hid hs; clear hm hs hx))
    refine bodyPost_ret (results_cell_row rfl _ _ w.heap.size 43 _ (0, 0) _ rfl (put4 HX.out _ _ _ _) Try.underlying43 rfl (by kernel_rfl)) rfl ?_
    exact ⟨rfl, HM.out.far4 (by omega) _ _ _ _, (HS.out.pre2 _ _).box4 (Nat.le_refl _) _ _ _ _⟩
end Go.Proofs.Ytngoenbdimlppaa.Svc
