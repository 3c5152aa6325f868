/- The contracts of the reference's machine: it computes what the machine computes. -/
import Derived.Test.YtngoenbdimlppaaMb
namespace Go.Proofs.Ytngoenbdimlppaa.Svc
open Go.RowKit Go.Proofs.YtngoenbdimlppaaW.PrintWords Go.Proofs.YtngoenbdimlppaaW.PrintLast Go.Proofs.YtngoenbdimlppaaW.PrintMore
set_option linter.unusedVariables false
set_option linter.unusedSimpArgs false
set_option maxRecDepth 100000

abbrev rfc (F : FV) : Array Value := #[.int .i64 F.kind, .slice F.x0.a F.x0.n F.x0.c, .slice F.x1.a F.x1.n F.x1.c, .slice F.x2.a F.x2.n F.x2.c, .slice F.x3.a F.x3.n F.x3.c, .slice F.x4.a F.x4.n F.x4.c, .slice F.x5.a F.x5.n F.x5.c, .slice F.x6.a F.x6.n F.x6.c, .bool F.x7, .int .i64 F.x8, .int .i64 F.x9, .int .i64 F.typ, .bool F.rem, .int .i64 F.rst, .int .i64 F.agn, .int .i64 F.up, .int .i64 F.dn, .slice F.ex.a F.ex.n F.ex.c, .slice F.tr.a F.tr.n F.tr.c, .int .i64 F.y1, .int .i64 F.y2, .bool F.y3, .bool F.y4, .bool F.y5, .string F.y6]
def rc (F : FV) (s : MS) : Array Value := #[.int .i64 F.kind, .slice F.x0.a F.x0.n F.x0.c, .slice F.x1.a F.x1.n F.x1.c, .slice F.x2.a F.x2.n F.x2.c, .slice F.x3.a F.x3.n F.x3.c, .slice F.x4.a F.x4.n F.x4.c, .slice F.x5.a F.x5.n F.x5.c, .slice F.x6.a F.x6.n F.x6.c, .bool F.x7, .int .i64 F.x8, .int .i64 F.x9, .int .i64 F.typ, .bool F.rem, .int .i64 F.rst, .int .i64 F.agn, .int .i64 F.up, .int .i64 F.dn, .slice F.ex.a F.ex.n F.ex.c, .slice F.tr.a F.tr.n F.tr.c, .int .i64 F.y1, .int .i64 F.y2, .bool F.y3, .bool F.y4, .bool F.y5, .string F.y6, .int .i64 s.st, .bool s.runs, .int .i64 s.due, .bool s.late]
abbrev OV.rv (o : OV) : Value := .agg #[.bool o.sp, .bool o.ki, .bool o.ag, .int .i64 o.re]
/-- Block g is the reference's machine of the file F in the state s. -/
def RB (w : World) (g : Nat) (F : FV) (s : MS) : Prop := w.heap[g]? = some (.cells (rc F s) 65 (0, 0))
section
variable {w w' : World} {g : Nat} {F : FV} {s : MS}
theorem RB.c0 (h : RB w g F s) : w.cell? ⟨g, 0, none⟩ = some (.int .i64 F.kind) := (blk_cell h 0).trans rfl
theorem RB.c11 (h : RB w g F s) : w.cell? ⟨g, 11, none⟩ = some (.int .i64 F.typ) := (blk_cell h 11).trans rfl
theorem RB.c12 (h : RB w g F s) : w.cell? ⟨g, 12, none⟩ = some (.bool F.rem) := (blk_cell h 12).trans rfl
theorem RB.c13 (h : RB w g F s) : w.cell? ⟨g, 13, none⟩ = some (.int .i64 F.rst) := (blk_cell h 13).trans rfl
theorem RB.c14 (h : RB w g F s) : w.cell? ⟨g, 14, none⟩ = some (.int .i64 F.agn) := (blk_cell h 14).trans rfl
theorem RB.c15 (h : RB w g F s) : w.cell? ⟨g, 15, none⟩ = some (.int .i64 F.up) := (blk_cell h 15).trans rfl
theorem RB.c16 (h : RB w g F s) : w.cell? ⟨g, 16, none⟩ = some (.int .i64 F.dn) := (blk_cell h 16).trans rfl
theorem RB.c17 (h : RB w g F s) : w.cell? ⟨g, 17, none⟩ = some (.slice F.ex.a F.ex.n F.ex.c) := (blk_cell h 17).trans rfl
theorem RB.c25 (h : RB w g F s) : w.cell? ⟨g, 25, none⟩ = some (.int .i64 s.st) := (blk_cell h 25).trans rfl
theorem RB.c26 (h : RB w g F s) : w.cell? ⟨g, 26, none⟩ = some (.bool s.runs) := (blk_cell h 26).trans rfl
theorem RB.c27 (h : RB w g F s) : w.cell? ⟨g, 27, none⟩ = some (.int .i64 s.due) := (blk_cell h 27).trans rfl
theorem RB.c28 (h : RB w g F s) : w.cell? ⟨g, 28, none⟩ = some (.bool s.late) := (blk_cell h 28).trans rfl
theorem RB.fz (h : RB w g F s) (i : Nat) : w.frozen? ⟨g, i, none⟩ = false := blk_frozen h i
theorem RB.lt (h : RB w g F s) : g < w.heap.size := blk_lt h
theorem RB.s25 (h : RB w g F s) (x : Int) : RB (w.setCell ⟨g, 25, none⟩ (.int .i64 x)) g F { s with st := x } := blk_put h 25 _ rfl
theorem RB.s26 (h : RB w g F s) (x : Bool) : RB (w.setCell ⟨g, 26, none⟩ (.bool x)) g F { s with runs := x } := blk_put h 26 _ rfl
theorem RB.s27 (h : RB w g F s) (x : Int) : RB (w.setCell ⟨g, 27, none⟩ (.int .i64 x)) g F { s with due := x } := blk_put h 27 _ rfl
theorem RB.s28 (h : RB w g F s) (x : Bool) : RB (w.setCell ⟨g, 28, none⟩ (.bool x)) g F { s with late := x } := blk_put h 28 _ rfl
theorem RB.alloc (h : RB w g F s) (o : Obj) : RB (w.alloc o) g F s := blk_alloc h o
theorem RB.far (h : RB w g F s) {p : Addr} (hp : g ≠ p.block) (v : Value) : RB (w.setCell p v) g F s := blk_far h hp v
theorem RB.below (h : RB w g F s) (hb : Below w.heap.size w w') : RB w' g F s := blk_below h hb
theorem RB.stp {g' : Nat} (h : RB w g F s) (hb : Stp g' w w') (hg : g ≠ g') : RB w' g F s := hb.blk h hg
theorem RB.far4 {b : Nat} (h : RB w g F s) (hp : g ≠ b) (x0 x1 x2 x3 : Value) :
    RB ((((w.setCell ⟨b, 0, none⟩ x0).setCell ⟨b, 1, none⟩ x1).setCell ⟨b, 2, none⟩ x2).setCell ⟨b, 3, none⟩ x3) g F s := (((h.far hp _).far hp _).far hp _).far hp _
end

theorem rto_calls (g : Nat) (F : FV) (s : MS) (st : Int) (w : World) (h : RB w g F s) :
    Calls Try.prog 42 #[.pointer (some ⟨g, 0, none⟩), .int .i64 st] w fun e w' => e = .returned (.tuple #[]) ∧ RB w' g F (toS s st) ∧ Stp g w w' := by
  have h25 := h.c25
  have h27 := h.c27
  have h28 := h.c28
  have f25 := h.fz 25
  have f27 := h.fz 27
  have f28 := h.fz 28
  have H := Lib.hid h
  clear h
  go_enter Try.func42, Try.ntmps42
  go_wp2
  go_end0
  exact ⟨rfl, ((H.out.s25 _).s27 _).s28 _, (((Stp.refl g w).set _).set _).set _⟩

set_option maxHeartbeats 1000000 in
theorem rends_calls (g : Nat) (F : FV) (s : MS) (code now : Int) (w : World) (h : RB w g F s) (hn : R64 now) (hd : R64 F.agn) :
    Calls Try.prog 44 #[.pointer (some ⟨g, 0, none⟩), .int .i64 code, .int .i64 now] w fun e w' => e = .returned (.tuple #[]) ∧ RB w' g F (endS F s code now) ∧ Stp g w w' := by
  have hlt := h.lt
  have H := Lib.hid h
  have HN := Lib.hid hn
  have HD := Lib.hid hd
  clear h hn hd
  unfold endS endSt
  by_cases cc : code = 0
  · rw [if_pos cc]
    have bc : (code == 0) = true := by simpa using cc
    have bc' : (code != 0) = false := by simpa using cc
    by_cases cr : F.rst = 2
    · skip
      have br2 : (F.rst == 2) = true := by simpa using cr
      have br3 : (F.rst == 3) = false := by simp; omega
      have br4 : (F.rst == 4) = false := by simp; omega
      have hag : endAg F code := by unfold endAg; omega
      rw [if_pos hag]
      clear hag cc cr 
      go_enter Try.func44, Try.ntmps44
      go_wp2_with (first
        | (go_at_call 42; ((with_reducible refine (rto_calls g F s 1 _ H.out).mono ?_); rintro e w1 ⟨rfl, hm, hs⟩); have h25' := hm.c25; have f25' := hm.fz 25; have h13' := hm.c13; have h14' := hm.c14; have h27' := hm.c27; have f27' := hm.fz 27; have HM := Lib.hid hm; have HS := Lib.hid hs; clear hm hs)
        | (go_at_call 43; ((with_reducible refine (rlater_calls _ _ HN.out HD.out _).mono ?_); rintro e w7 ⟨rfl, hb⟩); have hm7 := HM.out.below hb; have h27 := hm7.c27; have f27 := hm7.fz 27; have HM7 := Lib.hid hm7; have HB7 := Lib.hid hb; clear hm7 hb))
      go_end0
      exact ⟨rfl, HM7.out.s27 _, (HS.out.trans (Stp.of_below HB7.out)).set _⟩
    rename ¬ F.rst = 2 => cr2
    by_cases cr : F.rst = 3
    · skip
      have br2 : (F.rst == 2) = false := by simp; omega
      have br3 : (F.rst == 3) = true := by simpa using cr
      have br4 : (F.rst == 4) = false := by simp; omega
      have hag : endAg F code := by unfold endAg; omega
      rw [if_pos hag]
      clear hag cc cr cr2
      go_enter Try.func44, Try.ntmps44
      go_wp2_with (first
        | (go_at_call 42; ((with_reducible refine (rto_calls g F s 1 _ H.out).mono ?_); rintro e w1 ⟨rfl, hm, hs⟩); have h25' := hm.c25; have f25' := hm.fz 25; have h13' := hm.c13; have h14' := hm.c14; have h27' := hm.c27; have f27' := hm.fz 27; have HM := Lib.hid hm; have HS := Lib.hid hs; clear hm hs)
        | (go_at_call 43; ((with_reducible refine (rlater_calls _ _ HN.out HD.out _).mono ?_); rintro e w7 ⟨rfl, hb⟩); have hm7 := HM.out.below hb; have h27 := hm7.c27; have f27 := hm7.fz 27; have HM7 := Lib.hid hm7; have HB7 := Lib.hid hb; clear hm7 hb))
      go_end0
      exact ⟨rfl, HM7.out.s27 _, (HS.out.trans (Stp.of_below HB7.out)).set _⟩
    rename ¬ F.rst = 3 => cr3
    by_cases cr : F.rst = 4
    · skip
      have br2 : (F.rst == 2) = false := by simp; omega
      have br3 : (F.rst == 3) = false := by simp; omega
      have br4 : (F.rst == 4) = true := by simpa using cr
      have hag : ¬ endAg F code := by unfold endAg; omega
      rw [if_neg hag]
      clear hag cc cr cr2 cr3
      go_enter Try.func44, Try.ntmps44
      go_wp2_with (first
        | (go_at_call 42; ((with_reducible refine (rto_calls g F s 1 _ H.out).mono ?_); rintro e w1 ⟨rfl, hm, hs⟩); have h25' := hm.c25; have f25' := hm.fz 25; have h13' := hm.c13; have h14' := hm.c14; have h27' := hm.c27; have f27' := hm.fz 27; have HM := Lib.hid hm; have HS := Lib.hid hs; clear hm hs))
      go_end0
      exact ⟨rfl, HM.out, HS.out⟩
    rename ¬ F.rst = 4 => cr4
    have br2 : (F.rst == 2) = false := by simp; omega
    have br3 : (F.rst == 3) = false := by simp; omega
    have br4 : (F.rst == 4) = false := by simp; omega
    have hag : ¬ endAg F code := by unfold endAg; omega
    rw [if_neg hag]
    clear hag cc cr2 cr3 cr4
    go_enter Try.func44, Try.ntmps44
    go_wp2_with (first
      | (go_at_call 42; ((with_reducible refine (rto_calls g F s 1 _ H.out).mono ?_); rintro e w1 ⟨rfl, hm, hs⟩); have h25' := hm.c25; have f25' := hm.fz 25; have h13' := hm.c13; have h14' := hm.c14; have h27' := hm.c27; have f27' := hm.fz 27; have HM := Lib.hid hm; have HS := Lib.hid hs; clear hm hs))
    go_end0
    exact ⟨rfl, HM.out, HS.out⟩
  · rw [if_neg cc]
    have bc : (code == 0) = false := by simpa using cc
    have bc' : (code != 0) = true := by simpa using cc
    by_cases cr : F.rst = 2
    · skip
      have br2 : (F.rst == 2) = true := by simpa using cr
      have br3 : (F.rst == 3) = false := by simp; omega
      have br4 : (F.rst == 4) = false := by simp; omega
      have hag : endAg F code := by unfold endAg; omega
      rw [if_pos hag]
      clear hag cc cr 
      go_enter Try.func44, Try.ntmps44
      go_wp2_with (first
        | (go_at_call 42; ((with_reducible refine (rto_calls g F s 1 _ H.out).mono ?_); rintro e w1 ⟨rfl, hm, hs⟩); have h25' := hm.c25; have f25' := hm.fz 25; have h13' := hm.c13; have h14' := hm.c14; have h27' := hm.c27; have f27' := hm.fz 27; have HM := Lib.hid hm; have HS := Lib.hid hs; clear hm hs)
        | (go_at_call 43; ((with_reducible refine (rlater_calls _ _ HN.out HD.out _).mono ?_); rintro e w7 ⟨rfl, hb⟩); have hm7 := (HM.out.s25 5).below hb; have h27 := hm7.c27; have f27 := hm7.fz 27; have HM7 := Lib.hid hm7; have HB7 := Lib.hid hb; clear hm7 hb))
      go_end0
      exact ⟨rfl, HM7.out.s27 _, ((HS.out.set _).trans (Stp.of_below HB7.out)).set _⟩
    rename ¬ F.rst = 2 => cr2
    by_cases cr : F.rst = 3
    · skip
      have br2 : (F.rst == 2) = false := by simp; omega
      have br3 : (F.rst == 3) = true := by simpa using cr
      have br4 : (F.rst == 4) = false := by simp; omega
      have hag : ¬ endAg F code := by unfold endAg; omega
      rw [if_neg hag]
      clear hag cc cr cr2
      go_enter Try.func44, Try.ntmps44
      go_wp2_with (first
        | (go_at_call 42; ((with_reducible refine (rto_calls g F s 1 _ H.out).mono ?_); rintro e w1 ⟨rfl, hm, hs⟩); have h25' := hm.c25; have f25' := hm.fz 25; have h13' := hm.c13; have h14' := hm.c14; have h27' := hm.c27; have f27' := hm.fz 27; have HM := Lib.hid hm; have HS := Lib.hid hs; clear hm hs))
      go_end0
      exact ⟨rfl, HM.out.s25 _, (HS.out.set _)⟩
    rename ¬ F.rst = 3 => cr3
    by_cases cr : F.rst = 4
    · skip
      have br2 : (F.rst == 2) = false := by simp; omega
      have br3 : (F.rst == 3) = false := by simp; omega
      have br4 : (F.rst == 4) = true := by simpa using cr
      have hag : endAg F code := by unfold endAg; omega
      rw [if_pos hag]
      clear hag cc cr cr2 cr3
      go_enter Try.func44, Try.ntmps44
      go_wp2_with (first
        | (go_at_call 42; ((with_reducible refine (rto_calls g F s 1 _ H.out).mono ?_); rintro e w1 ⟨rfl, hm, hs⟩); have h25' := hm.c25; have f25' := hm.fz 25; have h13' := hm.c13; have h14' := hm.c14; have h27' := hm.c27; have f27' := hm.fz 27; have HM := Lib.hid hm; have HS := Lib.hid hs; clear hm hs)
        | (go_at_call 43; ((with_reducible refine (rlater_calls _ _ HN.out HD.out _).mono ?_); rintro e w7 ⟨rfl, hb⟩); have hm7 := (HM.out.s25 5).below hb; have h27 := hm7.c27; have f27 := hm7.fz 27; have HM7 := Lib.hid hm7; have HB7 := Lib.hid hb; clear hm7 hb))
      go_end0
      exact ⟨rfl, HM7.out.s27 _, ((HS.out.set _).trans (Stp.of_below HB7.out)).set _⟩
    rename ¬ F.rst = 4 => cr4
    have br2 : (F.rst == 2) = false := by simp; omega
    have br3 : (F.rst == 3) = false := by simp; omega
    have br4 : (F.rst == 4) = false := by simp; omega
    have hag : ¬ endAg F code := by unfold endAg; omega
    rw [if_neg hag]
    clear hag cc cr2 cr3 cr4
    go_enter Try.func44, Try.ntmps44
    go_wp2_with (first
      | (go_at_call 42; ((with_reducible refine (rto_calls g F s 1 _ H.out).mono ?_); rintro e w1 ⟨rfl, hm, hs⟩); have h25' := hm.c25; have f25' := hm.fz 25; have h13' := hm.c13; have h14' := hm.c14; have h27' := hm.c27; have f27' := hm.fz 27; have HM := Lib.hid hm; have HS := Lib.hid hs; clear hm hs))
    go_end0
    exact ⟨rfl, HM.out.s25 _, (HS.out.set _)⟩

set_option maxHeartbeats 1000000 in
theorem rstart_calls (g : Nat) (F : FV) (s : MS) (now : Int) (w : World) (h : RB w g F s) (hn : R64 now) (hd : R64 F.up) :
    Calls Try.prog 29 #[.pointer (some ⟨g, 0, none⟩), .int .i64 now] w fun e w' => e = .returned (.tuple #[(startV F s now).1.1.rv, .bool ((startV F s now).1.2 == 0)]) ∧ RB w' g F (startV F s now).2 ∧ Stp g w w' := by
  have hu80 := Try.underlying80
  have hlt := h.lt
  have h25 := h.c25
  have H := Lib.hid h
  have HN := Lib.hid hn
  have HD := Lib.hid hd
  clear h hn hd
  unfold startV
  by_cases c4 : s.st = 4
  · rw [if_pos c4]
    have b4 : (s.st == 4) = true := by simpa using c4
    clear c4
    go_enter Try.func29, Try.ntmps29
    go_wp2
    refine bodyPost_ret (results_ct rfl _ _ w.heap.size 80 _ (0, 0) _ rfl (blk_new _ _) Try.underlying80 rfl (by kernel_rfl)) rfl ?_
    exact ⟨rfl, H.out.alloc _, (Stp.refl _ _).alloc _⟩
  rw [if_neg c4]
  have b4 : (s.st == 4) = false := by simpa using c4
  by_cases c2 : s.st = 2
  · rw [if_pos c2]
    have b2 : (s.st == 2) = true := by simpa using c2
    clear c4 c2
    go_enter Try.func29, Try.ntmps29
    go_wp2
    refine bodyPost_ret (results_ct rfl _ _ w.heap.size 80 _ (0, 0) _ rfl (blk_new _ _) Try.underlying80 rfl (by kernel_rfl)) rfl ?_
    exact ⟨rfl, H.out.alloc _, (Stp.refl _ _).alloc _⟩
  rw [if_neg c2]
  have b2 : (s.st == 2) = false := by simpa using c2
  by_cases c3 : s.st = 3
  · rw [if_pos c3]
    have b3 : (s.st == 3) = true := by simpa using c3
    clear c4 c2 c3
    go_enter Try.func29, Try.ntmps29
    go_wp2
    refine bodyPost_ret (results_ct rfl _ _ w.heap.size 80 _ (0, 0) _ rfl (blk_new _ _) Try.underlying80 rfl (by kernel_rfl)) rfl ?_
    exact ⟨rfl, H.out.alloc _, (Stp.refl _ _).alloc _⟩
  rw [if_neg c3]
  have b3 : (s.st == 3) = false := by simpa using c3
  clear c4 c2 c3
  unfold beginV
  by_cases ck : F.kind = 1
  · rw [if_pos ck]
    have bk : (F.kind != 1) = false := by simpa using ck
    by_cases c2 : F.typ = 2
    · rw [if_pos c2]
      have b2' : (F.typ == 2) = true := by simpa using c2
      have b1' : (F.typ == 1) = false := by simp; omega
      by_cases ce : F.ex.n = 0
      · rw [if_pos ce]
        have be : ((F.ex.n : Int) == 0) = true := by simpa using ce
        clear ck c2 ce
        go_enter Try.func29, Try.ntmps29
        go_wp2_with (first
          | (go_at_call 42; ((with_reducible refine (rto_calls g F s 3 _ (H.out.alloc _)).mono ?_); rintro e w1 ⟨rfl, hm, hs⟩); have hx := hs.blk (blk_new w _) (by omega); obtain ⟨k0, k1, k2, k3, q0, q1, q2, q3⟩ := box4 hx; have hxl := blk_lt hx; have HX := Lib.hid hx; clear hx; have h0' := hm.c0; have h11' := hm.c11; have h15' := hm.c15; have h17' := hm.c17; have h25' := hm.c25; have f25' := hm.fz 25; have h26' := hm.c26; have f26' := hm.fz 26; have h27' := hm.c27; have f27' := hm.fz 27; have HM := Lib.hid hm; have HS := Lib.hid hs; clear hm hs))
        refine bodyPost_ret (results_ct rfl _ _ w.heap.size 80 _ (0, 0) _ rfl (put4 HX.out _ _ _ _) Try.underlying80 rfl (by kernel_rfl)) rfl ?_
        exact ⟨rfl, HM.out.far4 (by omega) _ _ _ _, (HS.out.pre _).box4 (Nat.le_refl _) _ _ _ _⟩
      · rw [if_neg ce]
        have be : ((F.ex.n : Int) == 0) = false := by simpa using ce
        clear ck c2 ce
        go_enter Try.func29, Try.ntmps29
        go_wp2_with (first
          | (go_at_call 42; ((with_reducible refine (rto_calls g F s 3 _ (H.out.alloc _)).mono ?_); rintro e w1 ⟨rfl, hm, hs⟩); have hx := hs.blk (blk_new w _) (by omega); obtain ⟨k0, k1, k2, k3, q0, q1, q2, q3⟩ := box4 hx; have hxl := blk_lt hx; have HX := Lib.hid hx; clear hx; have h0' := hm.c0; have h11' := hm.c11; have h15' := hm.c15; have h17' := hm.c17; have h25' := hm.c25; have f25' := hm.fz 25; have h26' := hm.c26; have f26' := hm.fz 26; have h27' := hm.c27; have f27' := hm.fz 27; have HM := Lib.hid hm; have HS := Lib.hid hs; clear hm hs)
          | (go_at_call 43; ((with_reducible refine (rlater_calls _ _ HN.out HD.out _).mono ?_); rintro e w7 ⟨rfl, hb⟩); have hm7 := (((HM.out.s26 true).s25 2).s27 now).below hb; have hx7 := blk_below (blk_far (blk_far (blk_far HX.out (p := ⟨g, 26, none⟩) (by simp only []; omega) (.bool true)) (p := ⟨g, 25, none⟩) (by simp only []; omega) (.int .i64 2)) (p := ⟨g, 27, none⟩) (by simp only []; omega) (.int .i64 now)) hb; obtain ⟨k0', k1', k2', k3', q0', q1', q2', q3'⟩ := box4 hx7; have h27 := hm7.c27; have f27 := hm7.fz 27; have HM7 := Lib.hid hm7; have HB7 := Lib.hid hb; have HX7 := Lib.hid hx7; clear hm7 hb hx7))
        refine bodyPost_ret (results_ct rfl _ _ w.heap.size 80 _ (0, 0) _ rfl (put4 (blk_far HX7.out (by simp only []; omega) _) _ _ _ _) Try.underlying80 rfl (by kernel_rfl)) rfl ?_
        exact ⟨rfl, (HM7.out.s27 _).far4 (by omega) _ _ _ _, ((((((HS.out.pre _).set _).set _).set _).trans (Stp.of_below HB7.out)).set _).box4 (Nat.le_refl _) _ _ _ _⟩
    · rw [if_neg c2]
      have b2' : (F.typ == 2) = false := by simpa using c2
      by_cases c1 : F.typ = 1
      · rw [if_pos c1]
        have b1' : (F.typ == 1) = true := by simpa using c1
        clear ck c2 c1
        go_enter Try.func29, Try.ntmps29
        go_wp2_with (first
          | (go_at_call 42; ((with_reducible refine (rto_calls g F s 3 _ (H.out.alloc _)).mono ?_); rintro e w1 ⟨rfl, hm, hs⟩); have hx := hs.blk (blk_new w _) (by omega); obtain ⟨k0, k1, k2, k3, q0, q1, q2, q3⟩ := box4 hx; have hxl := blk_lt hx; have HX := Lib.hid hx; clear hx; have h0' := hm.c0; have h11' := hm.c11; have h15' := hm.c15; have h17' := hm.c17; have h25' := hm.c25; have f25' := hm.fz 25; have h26' := hm.c26; have f26' := hm.fz 26; have h27' := hm.c27; have f27' := hm.fz 27; have HM := Lib.hid hm; have HS := Lib.hid hs; clear hm hs))
        refine bodyPost_ret (results_ct rfl _ _ w.heap.size 80 _ (0, 0) _ rfl (put4 (blk_far HX.out (by simp only []; omega) _) _ _ _ _) Try.underlying80 rfl (by kernel_rfl)) rfl ?_
        exact ⟨rfl, (HM.out.s26 _).far4 (by omega) _ _ _ _, ((HS.out.pre _).set _).box4 (Nat.le_refl _) _ _ _ _⟩
      · rw [if_neg c1]
        have b1' : (F.typ == 1) = false := by simpa using c1
        clear ck c2 c1
        go_enter Try.func29, Try.ntmps29
        go_wp2_with (first
          | (go_at_call 42; ((with_reducible refine (rto_calls g F s 3 _ (H.out.alloc _)).mono ?_); rintro e w1 ⟨rfl, hm, hs⟩); have hx := hs.blk (blk_new w _) (by omega); obtain ⟨k0, k1, k2, k3, q0, q1, q2, q3⟩ := box4 hx; have hxl := blk_lt hx; have HX := Lib.hid hx; clear hx; have h0' := hm.c0; have h11' := hm.c11; have h15' := hm.c15; have h17' := hm.c17; have h25' := hm.c25; have f25' := hm.fz 25; have h26' := hm.c26; have f26' := hm.fz 26; have h27' := hm.c27; have f27' := hm.fz 27; have HM := Lib.hid hm; have HS := Lib.hid hs; clear hm hs))
        refine bodyPost_ret (results_ct rfl _ _ w.heap.size 80 _ (0, 0) _ rfl (put4 (blk_far (blk_far (blk_far HX.out (by simp only []; omega) _) (by simp only []; omega) _) (by simp only []; omega) _) _ _ _ _) Try.underlying80 rfl (by kernel_rfl)) rfl ?_
        exact ⟨rfl, (((HM.out.s26 _).s25 _).s27 _).far4 (by omega) _ _ _ _, ((((HS.out.pre _).set _).set _).set _).box4 (Nat.le_refl _) _ _ _ _⟩
  · rw [if_neg ck]
    have bk : (F.kind != 1) = true := by simpa using ck
    clear ck
    go_enter Try.func29, Try.ntmps29
    go_wp2_with (first
      | (go_at_call 42; ((with_reducible refine (rto_calls g F s 3 _ (H.out.alloc _)).mono ?_); rintro e w1 ⟨rfl, hm, hs⟩); have hx := hs.blk (blk_new w _) (by omega); obtain ⟨k0, k1, k2, k3, q0, q1, q2, q3⟩ := box4 hx; have hxl := blk_lt hx; have HX := Lib.hid hx; clear hx; have h0' := hm.c0; have h11' := hm.c11; have h15' := hm.c15; have h17' := hm.c17; have h25' := hm.c25; have f25' := hm.fz 25; have h26' := hm.c26; have f26' := hm.fz 26; have h27' := hm.c27; have f27' := hm.fz 27; have HM := Lib.hid hm; have HS := Lib.hid hs; clear hm hs))
    refine bodyPost_ret (results_ct rfl _ _ w.heap.size 80 _ (0, 0) _ rfl (put4 HX.out _ _ _ _) Try.underlying80 rfl (by kernel_rfl)) rfl ?_
    exact ⟨rfl, HM.out.far4 (by omega) _ _ _ _, (HS.out.pre _).box4 (Nat.le_refl _) _ _ _ _⟩
end Go.Proofs.Ytngoenbdimlppaa.Svc
