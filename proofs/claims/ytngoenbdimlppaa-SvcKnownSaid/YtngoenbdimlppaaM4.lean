/- The contract of the machine's end. -/
import Derived.Test.YtngoenbdimlppaaM3
namespace Go.Proofs.Ytngoenbdimlppaa.Svc
open Go.RowKit Go.Proofs.YtngoenbdimlppaaW.PrintWords Go.Proofs.YtngoenbdimlppaaW.PrintLast Go.Proofs.YtngoenbdimlppaaW.PrintMore
set_option linter.unusedVariables false
set_option linter.unusedSimpArgs false

theorem find3 (r a : Int) : Instr.findNow (.int .u8) (.int .u8 r) [⟨.int .u8 2, .int .u8 a, 0⟩, ⟨.int .u8 3, .int .u8 1, 1⟩, ⟨.int .u8 4, .int .u8 5, 2⟩] 0 =
    some (if r = 2 then some (0, .int .u8 a) else if r = 3 then some (1, .int .u8 1) else if r = 4 then some (2, .int .u8 5) else none) := by
  by_cases h2 : r = 2
  · subst h2; rfl
  by_cases h3 : r = 3
  · subst h3; rfl
  by_cases h4 : r = 4
  · subst h4; rfl
  have e2 : (r == 2) = false := by simpa using h2
  have e3 : (r == 3) = false := by simpa using h3
  have e4 : (r == 4) = false := by simpa using h4
  simp [Instr.findNow, Instr.sameNow, e2, e3, e4, h2, h3, h4]
theorem find1 (r a b : Int) (c : Nat) (h : (r == a) = false) : Instr.findNow (.int .u8) (.int .u8 r) [⟨.int .u8 a, .int .u8 b, c⟩] 0 = some none := by
  simp [Instr.findNow, Instr.sameNow, h]
theorem find2 (r a b a' b' : Int) (c c' : Nat) (h : (r == a) = false) (h' : (r == a') = false) : Instr.findNow (.int .u8) (.int .u8 r) [⟨.int .u8 a, .int .u8 b, c⟩, ⟨.int .u8 a', .int .u8 b', c'⟩] 0 = some none := by
  simp [Instr.findNow, Instr.sameNow, h, h']
theorem zero5 (w : World) : (zeroValue 5).run Try.prog w = .ok (.int .u8 0) w := by kernel_rfl

def endSt (code : Int) : Int := if code = 0 then 1 else 5
/-- Whether it is to be started again. -/
def endAg (F : FV) (code : Int) : Prop := F.rst = 2 ∨ F.rst = 3 ∧ code = 0 ∨ F.rst = 4 ∧ code ≠ 0
instance (F : FV) (code : Int) : Decidable (endAg F code) := by unfold endAg; infer_instance
def endS (F : FV) (s : MS) (code now : Int) : MS := ⟨endSt code, s.runs, if endAg F code then later now F.agn else 9223372036854775807, false⟩
/-- What the literal and the question over it tell, as one word. -/
def onOf (r st : Int) : Option (Nat × Value) := if r = 2 then some (0, .int .u8 st) else if r = 3 then some (1, .int .u8 1) else if r = 4 then some (2, .int .u8 5) else none

set_option maxRecDepth 100000 in
set_option maxHeartbeats 1000000 in
theorem end_calls (g : Nat) (F : FV) (s : MS) (code now : Int) (w : World) (h : MB w g F s) (hn : R64 now) (hd : R64 F.agn) :
    Calls Try.prog 46 #[.pointer (some ⟨g, 0, none⟩), .int .i64 code, .int .i64 now] w fun e w' => e = .returned (.tuple #[]) ∧ MB w' g F (endS F s code now) ∧ Stp g w w' := by
  have hlt := h.lt
  have hmm := @run_makeMap Try.prog
  have H := Lib.hid h
  have HN := Lib.hid hn
  have HD := Lib.hid hd
  clear h hn hd
  unfold endS endSt
  by_cases cc : code = 0
  · rw [if_pos cc]
    have bc : (code == 0) = true := by simpa using cc
    by_cases cr : F.rst = 2
    · skip
      have hag : endAg F code := by unfold endAg; omega
      rw [if_pos hag]
      have hf : Instr.findNow (.int .u8) (.int .u8 F.rst) [⟨.int .u8 2, .int .u8 1, 0⟩, ⟨.int .u8 3, .int .u8 1, 1⟩, ⟨.int .u8 4, .int .u8 5, 2⟩] 0 = some (some (0, .int .u8 1)) := by rw [find3]; simp [cr]
      have HF := Lib.hid hf
      clear hf hag cc cr
      go_enter Try.func46, Try.ntmps46
      go_wp2_with (first
        | (go_at_call 26; ((with_reducible refine (to_calls g F s 5 _ H.out).mono ?_); rintro e w1 ⟨rfl, hm, hs⟩); have HM := Lib.hid (hm.s25 1); have HS := Lib.hid (hs.set (g := g) (j := 25) (.int .u8 1)); have h25 := hm.c25; have f25 := hm.fz 25; have h25' := (HM.out.alloc (.map #[] 0)).c25; have hsz : (w1.setCell ⟨g, 25, none⟩ (.int .u8 1)).heap.size = w1.heap.size := World.size_setCell ..; have HNB := Lib.hid ((congrArg (fun n => ((w1.setCell ⟨g, 25, none⟩ (.int .u8 1)).alloc (.map #[] 0)).heap[n]?) hsz.symm).trans (blk_new _ _)); clear hm hs hsz)
        | ((with_reducible refine gate_insert _ (t := 95) rfl ?_); refine wpList_insert_new _ rfl _ _ _ 95 rfl 5 5 Try.underlying95 _ #[] 0 rfl HNB.out _ _ rfl rfl (u8_check _ _ _) (u8_find _ _ _ none rfl) ?_; intro w4 hb4 hs4; have HB4 := Lib.hid hb4; have HS4 := Lib.hid hs4; clear hb4 hs4)
        | ((with_reducible refine gate_insert _ (t := 95) rfl ?_); refine wpList_insert_new _ rfl _ _ _ 95 rfl 5 5 Try.underlying95 _ _ _ rfl HB4.out _ _ rfl rfl (u8_check _ _ _) (u8_find _ _ _ none (find1 _ _ _ _ rfl)) ?_; intro w5 hb5 hs5; have HB5 := Lib.hid hb5; have HS5 := Lib.hid hs5; clear hb5 hs5)
        | ((with_reducible refine gate_insert _ (t := 95) rfl ?_); refine wpList_insert_new _ rfl _ _ _ 95 rfl 5 5 Try.underlying95 _ _ _ rfl HB5.out _ _ rfl rfl (u8_check _ _ _) (u8_find _ _ _ none (find2 _ _ _ _ _ _ _ rfl rfl)) ?_; intro w6 hb6 hs6; have ne : g ≠ w1.heap.size := Nat.ne_of_lt (by have := HM.out.lt; simpa using this); have hm6 := (((HM.out.alloc (.map #[] 0)).stp HS4.out ne).stp HS5.out ne).stp hs6 ne; have h13 := hm6.c13; have h14 := hm6.c14; have h25'' := hm6.c25; have hl := run_lookup_found w6 Try.underlying95 hb6 true (u8_check _ _ _) (u8_find _ _ _ _ HF.out); have HM6 := Lib.hid hm6; have HS6 := Lib.hid hs6; clear hm6 hs6 hb6 ne)
        | (go_at_call 35; ((with_reducible refine (later_calls _ _ HN.out HD.out _).mono ?_); rintro e w7 ⟨rfl, hb⟩); have hm7 := HM6.out.below hb; have h27 := hm7.c27; have f27 := hm7.fz 27; have HM7 := Lib.hid hm7; have HB7 := Lib.hid hb; clear hm7 hb))
      go_end0
      have hle : w.heap.size ≤ w1.heap.size := by have := HS.out.size; simpa using this
      exact ⟨rfl, HM7.out.s27 _, (((((HS.out.alloc (.map #[] 0)).other HS4.out hle).other HS5.out hle).other HS6.out hle).trans (Stp.of_below HB7.out)).set _⟩
    rename ¬ F.rst = 2 => cr2
    by_cases cr : F.rst = 3
    · skip
      have hag : endAg F code := by unfold endAg; omega
      rw [if_pos hag]
      have hf : Instr.findNow (.int .u8) (.int .u8 F.rst) [⟨.int .u8 2, .int .u8 1, 0⟩, ⟨.int .u8 3, .int .u8 1, 1⟩, ⟨.int .u8 4, .int .u8 5, 2⟩] 0 = some (some (1, .int .u8 1)) := by rw [find3]; simp [cr]
      have HF := Lib.hid hf
      clear hf hag cc cr
      go_enter Try.func46, Try.ntmps46
      go_wp2_with (first
        | (go_at_call 26; ((with_reducible refine (to_calls g F s 5 _ H.out).mono ?_); rintro e w1 ⟨rfl, hm, hs⟩); have HM := Lib.hid (hm.s25 1); have HS := Lib.hid (hs.set (g := g) (j := 25) (.int .u8 1)); have h25 := hm.c25; have f25 := hm.fz 25; have h25' := (HM.out.alloc (.map #[] 0)).c25; have hsz : (w1.setCell ⟨g, 25, none⟩ (.int .u8 1)).heap.size = w1.heap.size := World.size_setCell ..; have HNB := Lib.hid ((congrArg (fun n => ((w1.setCell ⟨g, 25, none⟩ (.int .u8 1)).alloc (.map #[] 0)).heap[n]?) hsz.symm).trans (blk_new _ _)); clear hm hs hsz)
        | ((with_reducible refine gate_insert _ (t := 95) rfl ?_); refine wpList_insert_new _ rfl _ _ _ 95 rfl 5 5 Try.underlying95 _ #[] 0 rfl HNB.out _ _ rfl rfl (u8_check _ _ _) (u8_find _ _ _ none rfl) ?_; intro w4 hb4 hs4; have HB4 := Lib.hid hb4; have HS4 := Lib.hid hs4; clear hb4 hs4)
        | ((with_reducible refine gate_insert _ (t := 95) rfl ?_); refine wpList_insert_new _ rfl _ _ _ 95 rfl 5 5 Try.underlying95 _ _ _ rfl HB4.out _ _ rfl rfl (u8_check _ _ _) (u8_find _ _ _ none (find1 _ _ _ _ rfl)) ?_; intro w5 hb5 hs5; have HB5 := Lib.hid hb5; have HS5 := Lib.hid hs5; clear hb5 hs5)
        | ((with_reducible refine gate_insert _ (t := 95) rfl ?_); refine wpList_insert_new _ rfl _ _ _ 95 rfl 5 5 Try.underlying95 _ _ _ rfl HB5.out _ _ rfl rfl (u8_check _ _ _) (u8_find _ _ _ none (find2 _ _ _ _ _ _ _ rfl rfl)) ?_; intro w6 hb6 hs6; have ne : g ≠ w1.heap.size := Nat.ne_of_lt (by have := HM.out.lt; simpa using this); have hm6 := (((HM.out.alloc (.map #[] 0)).stp HS4.out ne).stp HS5.out ne).stp hs6 ne; have h13 := hm6.c13; have h14 := hm6.c14; have h25'' := hm6.c25; have hl := run_lookup_found w6 Try.underlying95 hb6 true (u8_check _ _ _) (u8_find _ _ _ _ HF.out); have HM6 := Lib.hid hm6; have HS6 := Lib.hid hs6; clear hm6 hs6 hb6 ne)
        | (go_at_call 35; ((with_reducible refine (later_calls _ _ HN.out HD.out _).mono ?_); rintro e w7 ⟨rfl, hb⟩); have hm7 := HM6.out.below hb; have h27 := hm7.c27; have f27 := hm7.fz 27; have HM7 := Lib.hid hm7; have HB7 := Lib.hid hb; clear hm7 hb))
      go_end0
      have hle : w.heap.size ≤ w1.heap.size := by have := HS.out.size; simpa using this
      exact ⟨rfl, HM7.out.s27 _, (((((HS.out.alloc (.map #[] 0)).other HS4.out hle).other HS5.out hle).other HS6.out hle).trans (Stp.of_below HB7.out)).set _⟩
    rename ¬ F.rst = 3 => cr3
    by_cases cr : F.rst = 4
    · skip
      have hag : ¬ endAg F code := by unfold endAg; omega
      rw [if_neg hag]
      have hf : Instr.findNow (.int .u8) (.int .u8 F.rst) [⟨.int .u8 2, .int .u8 1, 0⟩, ⟨.int .u8 3, .int .u8 1, 1⟩, ⟨.int .u8 4, .int .u8 5, 2⟩] 0 = some (some (2, .int .u8 5)) := by rw [find3]; simp [cr]
      have HF := Lib.hid hf
      clear hf hag cc cr
      go_enter Try.func46, Try.ntmps46
      go_wp2_with (first
        | (go_at_call 26; ((with_reducible refine (to_calls g F s 5 _ H.out).mono ?_); rintro e w1 ⟨rfl, hm, hs⟩); have HM := Lib.hid (hm.s25 1); have HS := Lib.hid (hs.set (g := g) (j := 25) (.int .u8 1)); have h25 := hm.c25; have f25 := hm.fz 25; have h25' := (HM.out.alloc (.map #[] 0)).c25; have hsz : (w1.setCell ⟨g, 25, none⟩ (.int .u8 1)).heap.size = w1.heap.size := World.size_setCell ..; have HNB := Lib.hid ((congrArg (fun n => ((w1.setCell ⟨g, 25, none⟩ (.int .u8 1)).alloc (.map #[] 0)).heap[n]?) hsz.symm).trans (blk_new _ _)); clear hm hs hsz)
        | ((with_reducible refine gate_insert _ (t := 95) rfl ?_); refine wpList_insert_new _ rfl _ _ _ 95 rfl 5 5 Try.underlying95 _ #[] 0 rfl HNB.out _ _ rfl rfl (u8_check _ _ _) (u8_find _ _ _ none rfl) ?_; intro w4 hb4 hs4; have HB4 := Lib.hid hb4; have HS4 := Lib.hid hs4; clear hb4 hs4)
        | ((with_reducible refine gate_insert _ (t := 95) rfl ?_); refine wpList_insert_new _ rfl _ _ _ 95 rfl 5 5 Try.underlying95 _ _ _ rfl HB4.out _ _ rfl rfl (u8_check _ _ _) (u8_find _ _ _ none (find1 _ _ _ _ rfl)) ?_; intro w5 hb5 hs5; have HB5 := Lib.hid hb5; have HS5 := Lib.hid hs5; clear hb5 hs5)
        | ((with_reducible refine gate_insert _ (t := 95) rfl ?_); refine wpList_insert_new _ rfl _ _ _ 95 rfl 5 5 Try.underlying95 _ _ _ rfl HB5.out _ _ rfl rfl (u8_check _ _ _) (u8_find _ _ _ none (find2 _ _ _ _ _ _ _ rfl rfl)) ?_; intro w6 hb6 hs6; have ne : g ≠ w1.heap.size := Nat.ne_of_lt (by have := HM.out.lt; simpa using this); have hm6 := (((HM.out.alloc (.map #[] 0)).stp HS4.out ne).stp HS5.out ne).stp hs6 ne; have h13 := hm6.c13; have h14 := hm6.c14; have h25'' := hm6.c25; have hl := run_lookup_found w6 Try.underlying95 hb6 true (u8_check _ _ _) (u8_find _ _ _ _ HF.out); have HM6 := Lib.hid hm6; have HS6 := Lib.hid hs6; clear hm6 hs6 hb6 ne))
      go_end0
      have hle : w.heap.size ≤ w1.heap.size := by have := HS.out.size; simpa using this
      exact ⟨rfl, HM6.out, ((((HS.out.alloc (.map #[] 0)).other HS4.out hle).other HS5.out hle).other HS6.out hle)⟩
    rename ¬ F.rst = 4 => cr4
    have hag : ¬ endAg F code := by unfold endAg; omega
    rw [if_neg hag]
    have hf : Instr.findNow (.int .u8) (.int .u8 F.rst) [⟨.int .u8 2, .int .u8 1, 0⟩, ⟨.int .u8 3, .int .u8 1, 1⟩, ⟨.int .u8 4, .int .u8 5, 2⟩] 0 = some (none) := by rw [find3]; simp [*]
    have HF := Lib.hid hf
    clear hf hag cc cr2 cr3 cr4
    go_enter Try.func46, Try.ntmps46
    go_wp2_with (first
      | (go_at_call 26; ((with_reducible refine (to_calls g F s 5 _ H.out).mono ?_); rintro e w1 ⟨rfl, hm, hs⟩); have HM := Lib.hid (hm.s25 1); have HS := Lib.hid (hs.set (g := g) (j := 25) (.int .u8 1)); have h25 := hm.c25; have f25 := hm.fz 25; have h25' := (HM.out.alloc (.map #[] 0)).c25; have hsz : (w1.setCell ⟨g, 25, none⟩ (.int .u8 1)).heap.size = w1.heap.size := World.size_setCell ..; have HNB := Lib.hid ((congrArg (fun n => ((w1.setCell ⟨g, 25, none⟩ (.int .u8 1)).alloc (.map #[] 0)).heap[n]?) hsz.symm).trans (blk_new _ _)); clear hm hs hsz)
      | ((with_reducible refine gate_insert _ (t := 95) rfl ?_); refine wpList_insert_new _ rfl _ _ _ 95 rfl 5 5 Try.underlying95 _ #[] 0 rfl HNB.out _ _ rfl rfl (u8_check _ _ _) (u8_find _ _ _ none rfl) ?_; intro w4 hb4 hs4; have HB4 := Lib.hid hb4; have HS4 := Lib.hid hs4; clear hb4 hs4)
      | ((with_reducible refine gate_insert _ (t := 95) rfl ?_); refine wpList_insert_new _ rfl _ _ _ 95 rfl 5 5 Try.underlying95 _ _ _ rfl HB4.out _ _ rfl rfl (u8_check _ _ _) (u8_find _ _ _ none (find1 _ _ _ _ rfl)) ?_; intro w5 hb5 hs5; have HB5 := Lib.hid hb5; have HS5 := Lib.hid hs5; clear hb5 hs5)
      | ((with_reducible refine gate_insert _ (t := 95) rfl ?_); refine wpList_insert_new _ rfl _ _ _ 95 rfl 5 5 Try.underlying95 _ _ _ rfl HB5.out _ _ rfl rfl (u8_check _ _ _) (u8_find _ _ _ none (find2 _ _ _ _ _ _ _ rfl rfl)) ?_; intro w6 hb6 hs6; have ne : g ≠ w1.heap.size := Nat.ne_of_lt (by have := HM.out.lt; simpa using this); have hm6 := (((HM.out.alloc (.map #[] 0)).stp HS4.out ne).stp HS5.out ne).stp hs6 ne; have h13 := hm6.c13; have h14 := hm6.c14; have h25'' := hm6.c25; have hl := run_lookup_none w6 Try.underlying95 hb6 true (u8_check _ _ _) (u8_find _ _ _ _ HF.out) (zero5 _); have HM6 := Lib.hid hm6; have HS6 := Lib.hid hs6; clear hm6 hs6 hb6 ne))
    go_end0
    have hle : w.heap.size ≤ w1.heap.size := by have := HS.out.size; simpa using this
    exact ⟨rfl, HM6.out, ((((HS.out.alloc (.map #[] 0)).other HS4.out hle).other HS5.out hle).other HS6.out hle)⟩
  · rw [if_neg cc]
    have bc : (code == 0) = false := by simpa using cc
    by_cases cr : F.rst = 2
    · skip
      have hag : endAg F code := by unfold endAg; omega
      rw [if_pos hag]
      have hf : Instr.findNow (.int .u8) (.int .u8 F.rst) [⟨.int .u8 2, .int .u8 5, 0⟩, ⟨.int .u8 3, .int .u8 1, 1⟩, ⟨.int .u8 4, .int .u8 5, 2⟩] 0 = some (some (0, .int .u8 5)) := by rw [find3]; simp [cr]
      have HF := Lib.hid hf
      clear hf hag cc cr
      go_enter Try.func46, Try.ntmps46
      go_wp2_with (first
        | (go_at_call 26; ((with_reducible refine (to_calls g F s 5 _ H.out).mono ?_); rintro e w1 ⟨rfl, hm, hs⟩); have HM := Lib.hid hm; have HS := Lib.hid hs; have HNB := Lib.hid (blk_new w1 (.map #[] 0)); have h25 := (hm.alloc (.map #[] 0)).c25; clear hm hs)
        | ((with_reducible refine gate_insert _ (t := 95) rfl ?_); refine wpList_insert_new _ rfl _ _ _ 95 rfl 5 5 Try.underlying95 _ #[] 0 rfl HNB.out _ _ rfl rfl (u8_check _ _ _) (u8_find _ _ _ none rfl) ?_; intro w4 hb4 hs4; have HB4 := Lib.hid hb4; have HS4 := Lib.hid hs4; clear hb4 hs4)
        | ((with_reducible refine gate_insert _ (t := 95) rfl ?_); refine wpList_insert_new _ rfl _ _ _ 95 rfl 5 5 Try.underlying95 _ _ _ rfl HB4.out _ _ rfl rfl (u8_check _ _ _) (u8_find _ _ _ none (find1 _ _ _ _ rfl)) ?_; intro w5 hb5 hs5; have HB5 := Lib.hid hb5; have HS5 := Lib.hid hs5; clear hb5 hs5)
        | ((with_reducible refine gate_insert _ (t := 95) rfl ?_); refine wpList_insert_new _ rfl _ _ _ 95 rfl 5 5 Try.underlying95 _ _ _ rfl HB5.out _ _ rfl rfl (u8_check _ _ _) (u8_find _ _ _ none (find2 _ _ _ _ _ _ _ rfl rfl)) ?_; intro w6 hb6 hs6; have ne : g ≠ w1.heap.size := Nat.ne_of_lt (by have := HM.out.lt; simpa using this); have hm6 := (((HM.out.alloc (.map #[] 0)).stp HS4.out ne).stp HS5.out ne).stp hs6 ne; have h13 := hm6.c13; have h14 := hm6.c14; have h25'' := hm6.c25; have hl := run_lookup_found w6 Try.underlying95 hb6 true (u8_check _ _ _) (u8_find _ _ _ _ HF.out); have HM6 := Lib.hid hm6; have HS6 := Lib.hid hs6; clear hm6 hs6 hb6 ne)
        | (go_at_call 35; ((with_reducible refine (later_calls _ _ HN.out HD.out _).mono ?_); rintro e w7 ⟨rfl, hb⟩); have hm7 := HM6.out.below hb; have h27 := hm7.c27; have f27 := hm7.fz 27; have HM7 := Lib.hid hm7; have HB7 := Lib.hid hb; clear hm7 hb))
      go_end0
      have hle : w.heap.size ≤ w1.heap.size := by have := HS.out.size; simpa using this
      exact ⟨rfl, HM7.out.s27 _, (((((HS.out.alloc (.map #[] 0)).other HS4.out hle).other HS5.out hle).other HS6.out hle).trans (Stp.of_below HB7.out)).set _⟩
    rename ¬ F.rst = 2 => cr2
    by_cases cr : F.rst = 3
    · skip
      have hag : ¬ endAg F code := by unfold endAg; omega
      rw [if_neg hag]
      have hf : Instr.findNow (.int .u8) (.int .u8 F.rst) [⟨.int .u8 2, .int .u8 5, 0⟩, ⟨.int .u8 3, .int .u8 1, 1⟩, ⟨.int .u8 4, .int .u8 5, 2⟩] 0 = some (some (1, .int .u8 1)) := by rw [find3]; simp [cr]
      have HF := Lib.hid hf
      clear hf hag cc cr
      go_enter Try.func46, Try.ntmps46
      go_wp2_with (first
        | (go_at_call 26; ((with_reducible refine (to_calls g F s 5 _ H.out).mono ?_); rintro e w1 ⟨rfl, hm, hs⟩); have HM := Lib.hid hm; have HS := Lib.hid hs; have HNB := Lib.hid (blk_new w1 (.map #[] 0)); have h25 := (hm.alloc (.map #[] 0)).c25; clear hm hs)
        | ((with_reducible refine gate_insert _ (t := 95) rfl ?_); refine wpList_insert_new _ rfl _ _ _ 95 rfl 5 5 Try.underlying95 _ #[] 0 rfl HNB.out _ _ rfl rfl (u8_check _ _ _) (u8_find _ _ _ none rfl) ?_; intro w4 hb4 hs4; have HB4 := Lib.hid hb4; have HS4 := Lib.hid hs4; clear hb4 hs4)
        | ((with_reducible refine gate_insert _ (t := 95) rfl ?_); refine wpList_insert_new _ rfl _ _ _ 95 rfl 5 5 Try.underlying95 _ _ _ rfl HB4.out _ _ rfl rfl (u8_check _ _ _) (u8_find _ _ _ none (find1 _ _ _ _ rfl)) ?_; intro w5 hb5 hs5; have HB5 := Lib.hid hb5; have HS5 := Lib.hid hs5; clear hb5 hs5)
        | ((with_reducible refine gate_insert _ (t := 95) rfl ?_); refine wpList_insert_new _ rfl _ _ _ 95 rfl 5 5 Try.underlying95 _ _ _ rfl HB5.out _ _ rfl rfl (u8_check _ _ _) (u8_find _ _ _ none (find2 _ _ _ _ _ _ _ rfl rfl)) ?_; intro w6 hb6 hs6; have ne : g ≠ w1.heap.size := Nat.ne_of_lt (by have := HM.out.lt; simpa using this); have hm6 := (((HM.out.alloc (.map #[] 0)).stp HS4.out ne).stp HS5.out ne).stp hs6 ne; have h13 := hm6.c13; have h14 := hm6.c14; have h25'' := hm6.c25; have hl := run_lookup_found w6 Try.underlying95 hb6 true (u8_check _ _ _) (u8_find _ _ _ _ HF.out); have HM6 := Lib.hid hm6; have HS6 := Lib.hid hs6; clear hm6 hs6 hb6 ne))
      go_end0
      have hle : w.heap.size ≤ w1.heap.size := by have := HS.out.size; simpa using this
      exact ⟨rfl, HM6.out, ((((HS.out.alloc (.map #[] 0)).other HS4.out hle).other HS5.out hle).other HS6.out hle)⟩
    rename ¬ F.rst = 3 => cr3
    by_cases cr : F.rst = 4
    · skip
      have hag : endAg F code := by unfold endAg; omega
      rw [if_pos hag]
      have hf : Instr.findNow (.int .u8) (.int .u8 F.rst) [⟨.int .u8 2, .int .u8 5, 0⟩, ⟨.int .u8 3, .int .u8 1, 1⟩, ⟨.int .u8 4, .int .u8 5, 2⟩] 0 = some (some (2, .int .u8 5)) := by rw [find3]; simp [cr]
      have HF := Lib.hid hf
      clear hf hag cc cr
      go_enter Try.func46, Try.ntmps46
      go_wp2_with (first
        | (go_at_call 26; ((with_reducible refine (to_calls g F s 5 _ H.out).mono ?_); rintro e w1 ⟨rfl, hm, hs⟩); have HM := Lib.hid hm; have HS := Lib.hid hs; have HNB := Lib.hid (blk_new w1 (.map #[] 0)); have h25 := (hm.alloc (.map #[] 0)).c25; clear hm hs)
        | ((with_reducible refine gate_insert _ (t := 95) rfl ?_); refine wpList_insert_new _ rfl _ _ _ 95 rfl 5 5 Try.underlying95 _ #[] 0 rfl HNB.out _ _ rfl rfl (u8_check _ _ _) (u8_find _ _ _ none rfl) ?_; intro w4 hb4 hs4; have HB4 := Lib.hid hb4; have HS4 := Lib.hid hs4; clear hb4 hs4)
        | ((with_reducible refine gate_insert _ (t := 95) rfl ?_); refine wpList_insert_new _ rfl _ _ _ 95 rfl 5 5 Try.underlying95 _ _ _ rfl HB4.out _ _ rfl rfl (u8_check _ _ _) (u8_find _ _ _ none (find1 _ _ _ _ rfl)) ?_; intro w5 hb5 hs5; have HB5 := Lib.hid hb5; have HS5 := Lib.hid hs5; clear hb5 hs5)
        | ((with_reducible refine gate_insert _ (t := 95) rfl ?_); refine wpList_insert_new _ rfl _ _ _ 95 rfl 5 5 Try.underlying95 _ _ _ rfl HB5.out _ _ rfl rfl (u8_check _ _ _) (u8_find _ _ _ none (find2 _ _ _ _ _ _ _ rfl rfl)) ?_; intro w6 hb6 hs6; have ne : g ≠ w1.heap.size := Nat.ne_of_lt (by have := HM.out.lt; simpa using this); have hm6 := (((HM.out.alloc (.map #[] 0)).stp HS4.out ne).stp HS5.out ne).stp hs6 ne; have h13 := hm6.c13; have h14 := hm6.c14; have h25'' := hm6.c25; have hl := run_lookup_found w6 Try.underlying95 hb6 true (u8_check _ _ _) (u8_find _ _ _ _ HF.out); have HM6 := Lib.hid hm6; have HS6 := Lib.hid hs6; clear hm6 hs6 hb6 ne)
        | (go_at_call 35; ((with_reducible refine (later_calls _ _ HN.out HD.out _).mono ?_); rintro e w7 ⟨rfl, hb⟩); have hm7 := HM6.out.below hb; have h27 := hm7.c27; have f27 := hm7.fz 27; have HM7 := Lib.hid hm7; have HB7 := Lib.hid hb; clear hm7 hb))
      go_end0
      have hle : w.heap.size ≤ w1.heap.size := by have := HS.out.size; simpa using this
      exact ⟨rfl, HM7.out.s27 _, (((((HS.out.alloc (.map #[] 0)).other HS4.out hle).other HS5.out hle).other HS6.out hle).trans (Stp.of_below HB7.out)).set _⟩
    rename ¬ F.rst = 4 => cr4
    have hag : ¬ endAg F code := by unfold endAg; omega
    rw [if_neg hag]
    have hf : Instr.findNow (.int .u8) (.int .u8 F.rst) [⟨.int .u8 2, .int .u8 5, 0⟩, ⟨.int .u8 3, .int .u8 1, 1⟩, ⟨.int .u8 4, .int .u8 5, 2⟩] 0 = some (none) := by rw [find3]; simp [*]
    have HF := Lib.hid hf
    clear hf hag cc cr2 cr3 cr4
    go_enter Try.func46, Try.ntmps46
    go_wp2_with (first
      | (go_at_call 26; ((with_reducible refine (to_calls g F s 5 _ H.out).mono ?_); rintro e w1 ⟨rfl, hm, hs⟩); have HM := Lib.hid hm; have HS := Lib.hid hs; have HNB := Lib.hid (blk_new w1 (.map #[] 0)); have h25 := (hm.alloc (.map #[] 0)).c25; clear hm hs)
      | ((with_reducible refine gate_insert _ (t := 95) rfl ?_); refine wpList_insert_new _ rfl _ _ _ 95 rfl 5 5 Try.underlying95 _ #[] 0 rfl HNB.out _ _ rfl rfl (u8_check _ _ _) (u8_find _ _ _ none rfl) ?_; intro w4 hb4 hs4; have HB4 := Lib.hid hb4; have HS4 := Lib.hid hs4; clear hb4 hs4)
      | ((with_reducible refine gate_insert _ (t := 95) rfl ?_); refine wpList_insert_new _ rfl _ _ _ 95 rfl 5 5 Try.underlying95 _ _ _ rfl HB4.out _ _ rfl rfl (u8_check _ _ _) (u8_find _ _ _ none (find1 _ _ _ _ rfl)) ?_; intro w5 hb5 hs5; have HB5 := Lib.hid hb5; have HS5 := Lib.hid hs5; clear hb5 hs5)
      | ((with_reducible refine gate_insert _ (t := 95) rfl ?_); refine wpList_insert_new _ rfl _ _ _ 95 rfl 5 5 Try.underlying95 _ _ _ rfl HB5.out _ _ rfl rfl (u8_check _ _ _) (u8_find _ _ _ none (find2 _ _ _ _ _ _ _ rfl rfl)) ?_; intro w6 hb6 hs6; have ne : g ≠ w1.heap.size := Nat.ne_of_lt (by have := HM.out.lt; simpa using this); have hm6 := (((HM.out.alloc (.map #[] 0)).stp HS4.out ne).stp HS5.out ne).stp hs6 ne; have h13 := hm6.c13; have h14 := hm6.c14; have h25'' := hm6.c25; have hl := run_lookup_none w6 Try.underlying95 hb6 true (u8_check _ _ _) (u8_find _ _ _ _ HF.out) (zero5 _); have HM6 := Lib.hid hm6; have HS6 := Lib.hid hs6; clear hm6 hs6 hb6 ne))
    go_end0
    have hle : w.heap.size ≤ w1.heap.size := by have := HS.out.size; simpa using this
    exact ⟨rfl, HM6.out, ((((HS.out.alloc (.map #[] 0)).other HS4.out hle).other HS5.out hle).other HS6.out hle)⟩
end Go.Proofs.Ytngoenbdimlppaa.Svc
