/- The contracts of the machine's inner methods: done, kill, spawn, begin. -/
import Derived.Test.YtngoenbdimlppaaM2
namespace Go.Proofs.Ytngoenbdimlppaa.Svc
open Go.RowKit Go.Proofs.YtngoenbdimlppaaW.PrintWords Go.Proofs.YtngoenbdimlppaaW.PrintLast Go.Proofs.YtngoenbdimlppaaW.PrintMore
set_option linter.unusedVariables false
set_option linter.unusedSimpArgs false

theorem box4 {w : World} {b : Nat} {t : TypeId} {a0 a1 a2 a3 : Value} (h : w.heap[b]? = some (.cells #[a0, a1, a2, a3] t (0, 0))) :
    w.cell? ⟨b, 0, none⟩ = some a0 ∧ w.cell? ⟨b, 1, none⟩ = some a1 ∧ w.cell? ⟨b, 2, none⟩ = some a2 ∧ w.cell? ⟨b, 3, none⟩ = some a3 ∧
    w.frozen? ⟨b, 0, none⟩ = false ∧ w.frozen? ⟨b, 1, none⟩ = false ∧ w.frozen? ⟨b, 2, none⟩ = false ∧ w.frozen? ⟨b, 3, none⟩ = false :=
  ⟨(blk_cell h 0).trans rfl, (blk_cell h 1).trans rfl, (blk_cell h 2).trans rfl, (blk_cell h 3).trans rfl, blk_frozen h 0, blk_frozen h 1, blk_frozen h 2, blk_frozen h 3⟩

theorem done_calls (w : World) : Calls Try.prog 24 #[] w fun e w' => e = .returned (OV.v ⟨false, false, false, 1⟩) ∧ Below w.heap.size w w' := by
  have hu43 := Try.underlying43
  go_enter Try.func24, Try.ntmps24
  go_wp2
  refine bodyPost_ret (results_cell_row rfl _ _ w.heap.size 43 _ (0, 0) _ rfl (blk_new w _) Try.underlying43 rfl (by kernel_rfl)) rfl ?_
  exact ⟨rfl, below_alloc (Below.refl _ _) _⟩

def killS (F : FV) (s : MS) (now : Int) : MS := ⟨4, s.runs, later now F.dn, false⟩
theorem kill_calls (g : Nat) (F : FV) (s : MS) (now : Int) (w : World) (h : MB w g F s) (hn : R64 now) (hd : R64 F.dn) :
    Calls Try.prog 27 #[.pointer (some ⟨g, 0, none⟩), .int .i64 now] w fun e w' => e = .returned (OV.v ⟨false, true, false, 0⟩) ∧ MB w' g F (killS F s now) ∧ Stp g w w' := by
  have hu43 := Try.underlying43
  have hlt := h.lt
  have H := Lib.hid h
  have HN := Lib.hid hn
  have HD := Lib.hid hd
  clear h hn hd
  go_enter Try.func27, Try.ntmps27
  go_wp2_with (first
    | (go_at_call 26; ((with_reducible refine (to_calls g F s 4 _ (H.out.alloc _)).mono ?_); rintro e w1 ⟨rfl, hm, hs⟩); have h16 := hm.c16; have HM := Lib.hid hm; have HS := Lib.hid hs; clear hm hs)
    | (go_at_call 35; ((with_reducible refine (later_calls _ _ HN.out HD.out _).mono ?_); rintro e w2 ⟨rfl, hb⟩); have hm2 := HM.out.below hb; have f27 := hm2.fz 27; have h27 := hm2.c27; have hx := blk_below (HS.out.blk (blk_new w _) (by omega)) hb; obtain ⟨k0, k1, k2, k3, q0, q1, q2, q3⟩ := box4 hx; have HM2 := Lib.hid hm2; have HB := Lib.hid hb; have HX := Lib.hid hx; clear hm2 hb hx))
  refine bodyPost_ret (results_cell_row rfl _ _ w.heap.size 43 _ (0, 0) _ rfl (put4 (blk_far HX.out (by simp only []; omega) _) _ _ _ _) Try.underlying43 rfl (by kernel_rfl)) rfl ?_
  exact ⟨rfl, (HM2.out.s27 _).far4 (by omega) _ _ _ _, (((HS.out.pre _).trans (Stp.of_below HB.out)).set _).box4 (Nat.le_refl _) _ _ _ _⟩

theorem spawn_calls (g : Nat) (F : FV) (s : MS) (st due re : Int) (w : World) (h : MB w g F s) :
    Calls Try.prog 34 #[.pointer (some ⟨g, 0, none⟩), .int .u8 st, .int .i64 due, .int .u8 re] w fun e w' => e = .returned (OV.v ⟨true, false, false, re⟩) ∧ MB w' g F ⟨st, true, due, false⟩ ∧ Stp g w w' := by
  have hu43 := Try.underlying43
  have hlt := h.lt
  have H := Lib.hid h
  clear h
  go_enter Try.func34, Try.ntmps34
  go_wp2_with (first
    | (go_at_call 26; ((with_reducible refine (to_calls g F s st _ (H.out.alloc _)).mono ?_); rintro e w1 ⟨rfl, hm, hs⟩); have h26 := hm.c26; have h27 := hm.c27; have f26 := hm.fz 26; have f27 := hm.fz 27; have hx := hs.blk (blk_new w _) (by omega); obtain ⟨k0, k1, k2, k3, q0, q1, q2, q3⟩ := box4 hx; have HX := Lib.hid hx; have HM := Lib.hid hm; have HS := Lib.hid hs; clear hm hs hx))
  refine bodyPost_ret (results_cell_row rfl _ _ w.heap.size 43 _ (0, 0) _ rfl (put4 (blk_far (blk_far HX.out (by simp only []; omega) _) (by simp only []; omega) _) _ _ _ _) Try.underlying43 rfl (by kernel_rfl)) rfl ?_
  exact ⟨rfl, ((HM.out.s26 _).s27 _).far4 (by omega) _ _ _ _, (((HS.out.pre _).set _).set _).box4 (Nat.le_refl _) _ _ _ _⟩

/-- What 'begin' answers, and the state behind it. -/
def beginV (F : FV) (s : MS) (now : Int) : OV × MS :=
  if F.kind = 1 then
    if F.typ = 2 then (if F.ex.n = 0 then (⟨false, false, false, 1⟩, toS s 3) else (⟨true, false, false, 0⟩, ⟨2, true, later now F.up, false⟩))
    else if F.typ = 1 then (⟨true, false, false, 1⟩, ⟨3, true, 9223372036854775807, false⟩) else (⟨true, false, false, 0⟩, ⟨2, true, now, false⟩)
  else (⟨false, false, false, 1⟩, toS s 3)
abbrev sc (F : FV) : Array Value := #[.int .u8 F.typ, .bool F.rem, .int .u8 F.rst, .int .i64 F.agn, .int .i64 F.up, .int .i64 F.dn, .slice F.ex.a F.ex.n F.ex.c]
theorem begin_calls (g : Nat) (F : FV) (s : MS) (now : Int) (w : World) (h : MB w g F s) (hn : R64 now) (hd : R64 F.up) :
    Calls Try.prog 25 #[.pointer (some ⟨g, 0, none⟩), .int .i64 now] w fun e w' => e = .returned (beginV F s now).1.v ∧ MB w' g F (beginV F s now).2 ∧ Stp g w w' := by
  have hu43 := Try.underlying43
  have hu31 := Try.underlying31
  have hlt := h.lt
  have h0 := h.c0
  have h11 := h.c11
  have h12 := h.c12
  have h13 := h.c13
  have h14 := h.c14
  have h15 := h.c15
  have h16 := h.c16
  have h17 := h.c17
  have H := Lib.hid h
  have HN := Lib.hid hn
  have HD := Lib.hid hd
  clear h hn hd
  unfold beginV
  by_cases ck : F.kind = 1
  · rw [if_pos ck]
    have bk : (F.kind != 1) = false := by simpa using ck
    by_cases c2 : F.typ = 2
    · rw [if_pos c2]
      have b2 : (F.typ == 2) = true := by simpa using c2
      have b1 : (F.typ == 1) = false := by simp; omega
      by_cases ce : F.ex.n = 0
      · rw [if_pos ce]
        have be : ((F.ex.n : Int) == 0) = true := by simpa using ce
        clear ck c2 ce
        go_enter Try.func25, Try.ntmps25
        go_wp2_with (first
          | (go_at_call 26; ((with_reducible refine (to_calls g F s 3 _ ((H.out.alloc _).alloc _)).mono ?_); rintro e w1 ⟨rfl, hm, hs⟩); have HM := Lib.hid hm; have HS := Lib.hid hs; clear hm hs)
          | (go_at_call 24; ((with_reducible refine (done_calls _).mono ?_); rintro e w2 ⟨rfl, hb⟩); have hm2 := HM.out.below hb; have hx := blk_below (HS.out.blk (blk_alloc (blk_new w _) _) (by omega)) hb; obtain ⟨k0, k1, k2, k3, q0, q1, q2, q3⟩ := box4 hx; have HM2 := Lib.hid hm2; have HB := Lib.hid hb; have HX := Lib.hid hx; clear hm2 hb hx))
        refine bodyPost_ret (results_cell_row rfl _ _ w.heap.size 43 _ (0, 0) _ rfl (put4 HX.out _ _ _ _) Try.underlying43 rfl (by kernel_rfl)) rfl ?_
        exact ⟨rfl, HM2.out.far4 (by omega) _ _ _ _, ((HS.out.pre2 _ _).trans (Stp.of_below HB.out)).box4 (Nat.le_refl _) _ _ _ _⟩
      · rw [if_neg ce]
        have be : ((F.ex.n : Int) == 0) = false := by simpa using ce
        clear ck c2 ce
        go_enter Try.func25, Try.ntmps25
        go_wp2_with (first
          | (go_at_call 35; ((with_reducible refine (later_calls _ _ HN.out HD.out _).mono ?_); rintro e w3 ⟨rfl, hb⟩); have HB := Lib.hid hb; clear hb)
          | (go_at_call 34; ((with_reducible refine (spawn_calls g F s _ _ _ _ (((H.out.alloc _).alloc _).below HB.out)).mono ?_); rintro e w1 ⟨rfl, hm, hs⟩); have hx := hs.blk (blk_below (blk_alloc (blk_new w _) _) HB.out) (by omega); obtain ⟨k0, k1, k2, k3, q0, q1, q2, q3⟩ := box4 hx; have HX := Lib.hid hx; have HM := Lib.hid hm; have HS := Lib.hid hs; clear hm hs hx))
        refine bodyPost_ret (results_cell_row rfl _ _ w.heap.size 43 _ (0, 0) _ rfl (put4 HX.out _ _ _ _) Try.underlying43 rfl (by kernel_rfl)) rfl ?_
        exact ⟨rfl, HM.out.far4 (by omega) _ _ _ _, (((Stp.of_below HB.out).trans HS.out).pre2 _ _).box4 (Nat.le_refl _) _ _ _ _⟩
    · rw [if_neg c2]
      have b2 : (F.typ == 2) = false := by simpa using c2
      by_cases c1 : F.typ = 1
      · rw [if_pos c1]
        have b1 : (F.typ == 1) = true := by simpa using c1
        clear ck c2 c1
        go_enter Try.func25, Try.ntmps25
        go_wp2_with (first
          | (go_at_call 34; ((with_reducible refine (spawn_calls g F s _ _ _ _ ((H.out.alloc _).alloc _)).mono ?_); rintro e w1 ⟨rfl, hm, hs⟩); have hx := hs.blk (blk_alloc (blk_new w _) _) (by omega); obtain ⟨k0, k1, k2, k3, q0, q1, q2, q3⟩ := box4 hx; have HX := Lib.hid hx; have HM := Lib.hid hm; have HS := Lib.hid hs; clear hm hs hx))
        refine bodyPost_ret (results_cell_row rfl _ _ w.heap.size 43 _ (0, 0) _ rfl (put4 HX.out _ _ _ _) Try.underlying43 rfl (by kernel_rfl)) rfl ?_
        exact ⟨rfl, HM.out.far4 (by omega) _ _ _ _, (HS.out.pre2 _ _).box4 (Nat.le_refl _) _ _ _ _⟩
      · rw [if_neg c1]
        have b1 : (F.typ == 1) = false := by simpa using c1
        clear ck c2 c1
        go_enter Try.func25, Try.ntmps25
        go_wp2_with (first
          | (go_at_call 34; ((with_reducible refine (spawn_calls g F s _ _ _ _ ((H.out.alloc _).alloc _)).mono ?_); rintro e w1 ⟨rfl, hm, hs⟩); have hx := hs.blk (blk_alloc (blk_new w _) _) (by omega); obtain ⟨k0, k1, k2, k3, q0, q1, q2, q3⟩ := box4 hx; have HX := Lib.hid hx; have HM := Lib.hid hm; have HS := Lib.hid hs; clear hm hs hx))
        refine bodyPost_ret (results_cell_row rfl _ _ w.heap.size 43 _ (0, 0) _ rfl (put4 HX.out _ _ _ _) Try.underlying43 rfl (by kernel_rfl)) rfl ?_
        exact ⟨rfl, HM.out.far4 (by omega) _ _ _ _, (HS.out.pre2 _ _).box4 (Nat.le_refl _) _ _ _ _⟩
  · rw [if_neg ck]
    have bk : (F.kind != 1) = true := by simpa using ck
    clear ck
    go_enter Try.func25, Try.ntmps25
    go_wp2_with (first
      | (go_at_call 26; ((with_reducible refine (to_calls g F s 3 _ ((H.out.alloc _).alloc _)).mono ?_); rintro e w1 ⟨rfl, hm, hs⟩); have HM := Lib.hid hm; have HS := Lib.hid hs; clear hm hs)
      | (go_at_call 24; ((with_reducible refine (done_calls _).mono ?_); rintro e w2 ⟨rfl, hb⟩); have hm2 := HM.out.below hb; have hx := blk_below (HS.out.blk (blk_alloc (blk_new w _) _) (by omega)) hb; obtain ⟨k0, k1, k2, k3, q0, q1, q2, q3⟩ := box4 hx; have HM2 := Lib.hid hm2; have HB := Lib.hid hb; have HX := Lib.hid hx; clear hm2 hb hx))
    refine bodyPost_ret (results_cell_row rfl _ _ w.heap.size 43 _ (0, 0) _ rfl (put4 HX.out _ _ _ _) Try.underlying43 rfl (by kernel_rfl)) rfl ?_
    exact ⟨rfl, HM2.out.far4 (by omega) _ _ _ _, ((HS.out.pre2 _ _).trans (Stp.of_below HB.out)).box4 (Nat.le_refl _) _ _ _ _⟩
end Go.Proofs.Ytngoenbdimlppaa.Svc
