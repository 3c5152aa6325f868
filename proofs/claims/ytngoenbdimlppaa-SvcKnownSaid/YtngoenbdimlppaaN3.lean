/- The contract of call: both machines answer the same, and come to the same state. -/
import Derived.Test.YtngoenbdimlppaaN2
import Derived.Test.YtngoenbdimlppaaMd
namespace Go.Proofs.Ytngoenbdimlppaa.Svc
open Go.RowKit Go.Proofs.YtngoenbdimlppaaW.PrintWords Go.Proofs.YtngoenbdimlppaaW.PrintLast Go.Proofs.YtngoenbdimlppaaW.PrintMore
set_option linter.unusedVariables false
set_option linter.unusedSimpArgs false
set_option maxRecDepth 100000

/-- The file, its triggers elsewhere. -/
def ff (F : FV) (z : SV) : FV := { F with tr := z }
theorem start_ff (F : FV) (z : SV) (s : MS) (now : Int) : startV (ff F z) s now = startV F s now := rfl
theorem stop_ff (F : FV) (z : SV) (s : MS) (now : Int) : stopV (ff F z) s now = stopV F s now := rfl
theorem exit_ff (F : FV) (z : SV) (s : MS) (code now : Int) : exitV (ff F z) s code now = exitV F s code now := rfl
theorem tick_ff (F : FV) (z : SV) (s : MS) (now : Int) : tickV (ff F z) s now = tickV F s now := rfl
/-- The state behind a call. -/
def callS (F : FV) (s : MS) (kd cd now : Int) : MS :=
  if kd % 5 = 0 then (startV F s now).2 else if kd % 5 = 1 then (stopV F s now).2 else if kd % 5 = 2 then (exitV F s cd now).2 else if kd % 5 = 3 then (tickV F s now).2 else s
theorem re_start (F : FV) (s : MS) (now : Int) : 0 ≤ (startV F s now).1.1.re ∧ (startV F s now).1.1.re ≤ 255 := by
  unfold startV beginV
  repeat' split
  all_goals simp
theorem er_start (F : FV) (s : MS) (now : Int) : (startV F s now).1.2 = 0 ∨ (startV F s now).1.2 = 4 := by
  unfold startV
  repeat' split
  all_goals simp
theorem re_stop (F : FV) (s : MS) (now : Int) : 0 ≤ (stopV F s now).1.re ∧ (stopV F s now).1.re ≤ 255 := by
  unfold stopV
  repeat' split
  all_goals simp
theorem re_exit (F : FV) (s : MS) (code now : Int) : 0 ≤ (exitV F s code now).1.re ∧ (exitV F s code now).1.re ≤ 255 := by
  unfold exitV failsV goneV
  repeat' split
  all_goals simp
theorem re_tick (F : FV) (s : MS) (now : Int) : 0 ≤ (tickV F s now).1.re ∧ (tickV F s now).1.re ≤ 255 := by
  unfold tickV begunV lostV
  repeat' split
  all_goals simp
theorem inv_call (F : FV) (s : MS) (kd cd now : Int) (h : Inv s) : Inv (callS F s kd cd now) := by
  unfold callS
  repeat' split
  · exact (inv_start F s now h).1
  · exact (inv_stop F s now h).1
  · exact (inv_exit F s cd now h).1
  · exact (inv_tick F s now h).1
  · exact h

set_option maxHeartbeats 4000000 in
theorem call_calls (n g1 g2 : Nat) (F : FV) (z : SV) (s : MS) (kd cd lt now : Int) (w : World) (hm : MB w g1 F s) (hr : RB w g2 (ff F z) s) (hne : g1 ≠ g2) (hi : Inv s) (hF : FileOK F) (hnow : R64 now)
    (hk0 : 0 ≤ kd) (hk1 : kd ≤ 255) (hn1 : n ≤ g1) (hn2 : n ≤ g2) :
    Calls Try.prog 23 #[.pointer (some ⟨g1, 0, none⟩), .pointer (some ⟨g2, 0, none⟩), .agg #[.int .u8 kd, .int .i64 cd, .int .u32 lt], .int .i64 now] w fun e w' =>
      e = .returned (.bool true) ∧ MB w' g1 F (callS F s kd cd now) ∧ RB w' g2 (ff F z) (callS F s kd cd now) ∧ Below n w w' := by
  have hu43 := Try.underlying43
  have hu80 := Try.underlying80
  have hl1 := hm.lt
  have hl2 := hr.lt
  have HM := Lib.hid hm
  have HR := Lib.hid hr
  have HI := Lib.hid hi
  have HF := Lib.hid hF
  have HN := Lib.hid hnow
  have HN1 := Lib.hid hn1
  have HN2 := Lib.hid hn2
  have hns : n ≤ w.heap.size := Nat.le_trans hn1 (Nat.le_of_lt hl1)
  have HNS := Lib.hid hns
  clear hm hr hi hF hnow hn1 hn2 hns
  have hX : (w.alloc (.cells #[.int .u8 kd, .int .i64 cd, .int .u32 lt] 25)).heap[w.heap.size]? = some (.cells #[.int .u8 kd, .int .i64 cd, .int .u32 lt] 25) := blk_new _ _
  have HX := Lib.hid hX
  clear hX
  unfold callS
  have kdc : kd % 5 = 0 ∨ kd % 5 = 1 ∨ kd % 5 = 2 ∨ kd % 5 = 3 ∨ kd % 5 = 4 := by omega
  rcases kdc with h5 | h5 | h5 | h5 | h5
  · rw [if_pos h5]
    have kb0 : (kd % 5 == 0) = true := by simpa using h5
    have kb1 : (kd % 5 == 1) = false := by simp; omega
    have kb2 : (kd % 5 == 2) = false := by simp; omega
    have kb3 : (kd % 5 == 3) = false := by simp; omega
    clear h5
    have hc1 := fun (W : World) (hw : MB W g1 F s) => start_calls g1 F s now W hw HN.out HF.out.up
    have hc2 := fun (W : World) (hw : RB W g2 (ff F z) s) => rstart_calls g2 (ff F z) s now W hw HN.out HF.out.up
    rw [start_ff] at hc2
    have hre := re_start F s now
    have her := er_start F s now
    obtain ⟨er, her'⟩ : ∃ er, er = (startV F s now).1.2 := ⟨_, rfl⟩
    obtain ⟨o, ho⟩ : ∃ o, o = (startV F s now).1.1 := ⟨_, rfl⟩
    obtain ⟨s', hs'⟩ : ∃ s', s' = (startV F s now).2 := ⟨_, rfl⟩
    rw [← ho, ← hs', ← her'] at hc1 hc2
    rw [← ho] at hre
    rw [← hs']
    rw [← her'] at her
    clear ho hs' her'
    obtain ⟨sp, ki, ag, re⟩ := o
    have HC1 := Lib.hid hc1
    have HC2 := Lib.hid hc2
    have HRE := Lib.hid hre
    clear hc1 hc2 hre
    have b0 : (true == true) = true := rfl
    have b1 : (false == false) = true := rfl
    rcases her with rfl | rfl
    · go_enter Try.func23, Try.ntmps23
      go_wp2_with (first
        | (go_at_call 10; ((with_reducible refine (HC1.out _ (HM.out.alloc _)).mono ?_); rintro e w1 ⟨rfl, hm1, hs1⟩); have hr1 := (HR.out.alloc _).stp hs1 (Ne.symm hne); have hz1 := hs1.size; have hz2 : w.heap.size < w1.heap.size := Nat.lt_of_lt_of_le (by rw [World.size_alloc]; exact Nat.lt_succ_self _) hz1; have HM1 := Lib.hid hm1; have HR1 := Lib.hid hr1; have HS1 := Lib.hid hs1; clear hm1 hr1 hs1 hz1)
        | (go_at_call 29; ((with_reducible refine (HC2.out _ (HR1.out.alloc _)).mono ?_); rintro e w2 ⟨rfl, hr2, hs2⟩); have hm2 := (HM1.out.alloc _).stp hs2 hne; have hx2 := hs2.blk (blk_new w1 _) (by omega); have hxl := blk_lt hx2; obtain ⟨k0, k1, k2, k3, -, -, -, -⟩ := box4 hx2; have HM2 := Lib.hid hm2; have HR2 := Lib.hid hr2; have HS2 := Lib.hid hs2; clear hm2 hr2 hs2 hx2)
        | (go_at_call 30; ((with_reducible refine (is_calls sp ki ag re HRE.out.1 HRE.out.2 _).mono ?_); rintro e w3 ⟨rfl, b3⟩); have B3 := Lib.hid b3; clear b3))
      go_ret
      have g1' : n ≤ w1.heap.size := by have := HNS.out; omega
      have g2' : n ≤ w2.heap.size := by omega
      have e1 := ((Below.refl n w).alloc HNS.out (.cells #[.int .u8 kd, .int .i64 cd, .int .u32 lt] 25)).trans (HS1.out.below HN1.out (Nat.le_trans HNS.out (by rw [World.size_alloc]; exact Nat.le_succ _)))
      have e2 := (e1.alloc g1' (.cells #[.bool sp, .bool ki, .bool ag, .int .u8 re] 43)).trans (HS2.out.below HN2.out (Nat.le_trans g1' (by rw [World.size_alloc]; exact Nat.le_succ _)))
      have e3 := (e2.alloc g2' (.cells #[.bool sp, .bool ki, .bool ag, .int .i64 re] 80)).trans (B3.out.mono (Nat.le_trans g2' (by rw [World.size_alloc]; exact Nat.le_succ _)))
      exact ⟨rfl, (HM2.out.alloc _).below B3.out, (HR2.out.alloc _).below B3.out, e3⟩
    · go_enter Try.func23, Try.ntmps23
      go_wp2_with (first
        | (go_at_call 10; ((with_reducible refine (HC1.out _ (HM.out.alloc _)).mono ?_); rintro e w1 ⟨rfl, hm1, hs1⟩); have hr1 := (HR.out.alloc _).stp hs1 (Ne.symm hne); have hz1 := hs1.size; have hz2 : w.heap.size < w1.heap.size := Nat.lt_of_lt_of_le (by rw [World.size_alloc]; exact Nat.lt_succ_self _) hz1; have HM1 := Lib.hid hm1; have HR1 := Lib.hid hr1; have HS1 := Lib.hid hs1; clear hm1 hr1 hs1 hz1)
        | (go_at_call 29; ((with_reducible refine (HC2.out _ (HR1.out.alloc _)).mono ?_); rintro e w2 ⟨rfl, hr2, hs2⟩); have hm2 := (HM1.out.alloc _).stp hs2 hne; have hx2 := hs2.blk (blk_new w1 _) (by omega); have hxl := blk_lt hx2; obtain ⟨k0, k1, k2, k3, -, -, -, -⟩ := box4 hx2; have HM2 := Lib.hid hm2; have HR2 := Lib.hid hr2; have HS2 := Lib.hid hs2; clear hm2 hr2 hs2 hx2)
        | (go_at_call 30; ((with_reducible refine (is_calls sp ki ag re HRE.out.1 HRE.out.2 _).mono ?_); rintro e w3 ⟨rfl, b3⟩); have B3 := Lib.hid b3; clear b3))
      go_ret
      have g1' : n ≤ w1.heap.size := by have := HNS.out; omega
      have g2' : n ≤ w2.heap.size := by omega
      have e1 := ((Below.refl n w).alloc HNS.out (.cells #[.int .u8 kd, .int .i64 cd, .int .u32 lt] 25)).trans (HS1.out.below HN1.out (Nat.le_trans HNS.out (by rw [World.size_alloc]; exact Nat.le_succ _)))
      have e2 := (e1.alloc g1' (.cells #[.bool sp, .bool ki, .bool ag, .int .u8 re] 43)).trans (HS2.out.below HN2.out (Nat.le_trans g1' (by rw [World.size_alloc]; exact Nat.le_succ _)))
      have e3 := (e2.alloc g2' (.cells #[.bool sp, .bool ki, .bool ag, .int .i64 re] 80)).trans (B3.out.mono (Nat.le_trans g2' (by rw [World.size_alloc]; exact Nat.le_succ _)))
      exact ⟨rfl, (HM2.out.alloc _).below B3.out, (HR2.out.alloc _).below B3.out, e3⟩
  · rw [if_neg (by omega), if_pos h5]
    have kb0 : (kd % 5 == 0) = false := by simp; omega
    have kb1 : (kd % 5 == 1) = true := by simpa using h5
    have kb2 : (kd % 5 == 2) = false := by simp; omega
    have kb3 : (kd % 5 == 3) = false := by simp; omega
    clear h5
    have hc1 := fun (W : World) (hw : MB W g1 F s) => stop_calls g1 F s now W hw HN.out HF.out.dn
    have hc2 := fun (W : World) (hw : RB W g2 (ff F z) s) => rstop_calls g2 (ff F z) s now W hw HN.out HF.out.dn
    rw [stop_ff] at hc2
    have hre := re_stop F s now
    obtain ⟨o, ho⟩ : ∃ o, o = (stopV F s now).1 := ⟨_, rfl⟩
    obtain ⟨s', hs'⟩ : ∃ s', s' = (stopV F s now).2 := ⟨_, rfl⟩
    rw [← ho, ← hs'] at hc1 hc2
    rw [← ho] at hre
    rw [← hs']
    clear ho hs'
    obtain ⟨sp, ki, ag, re⟩ := o
    have HC1 := Lib.hid hc1
    have HC2 := Lib.hid hc2
    have HRE := Lib.hid hre
    clear hc1 hc2 hre
    go_enter Try.func23, Try.ntmps23
    go_wp2_with (first
      | (go_at_call 11; ((with_reducible refine (HC1.out _ (HM.out.alloc _)).mono ?_); rintro e w1 ⟨rfl, hm1, hs1⟩); have hr1 := (HR.out.alloc _).stp hs1 (Ne.symm hne); have hz1 := hs1.size; have hz2 : w.heap.size < w1.heap.size := Nat.lt_of_lt_of_le (by rw [World.size_alloc]; exact Nat.lt_succ_self _) hz1; have HM1 := Lib.hid hm1; have HR1 := Lib.hid hr1; have HS1 := Lib.hid hs1; clear hm1 hr1 hs1 hz1))
    have hmW := HM1.out.alloc (.cells #[.bool sp, .bool ki, .bool ag, .int .u8 re] 43)
    have hrW := HR1.out.alloc (.cells #[.bool sp, .bool ki, .bool ag, .int .u8 re] 43)
    have hxW := blk_new w1 (.cells #[.bool sp, .bool ki, .bool ag, .int .u8 re] 43)
    have g1' : n ≤ w1.heap.size := by have := HNS.out; omega
    have e1 := (((Below.refl n w).alloc HNS.out (.cells #[.int .u8 kd, .int .i64 cd, .int .u32 lt] 25)).trans (HS1.out.below HN1.out (Nat.le_trans HNS.out (by rw [World.size_alloc]; exact Nat.le_succ _)))).alloc g1' (.cells #[.bool sp, .bool ki, .bool ag, .int .u8 re] 43)
    generalize w1.alloc (.cells #[.bool sp, .bool ki, .bool ag, .int .u8 re] 43) = W at hmW hrW hxW e1 ⊢
    obtain ⟨k0, k1, k2, k3, -, -, -, -⟩ := box4 hxW
    have HMW := Lib.hid hmW
    have HRW := Lib.hid hrW
    have HXW := Lib.hid hxW
    have E1 := Lib.hid e1
    have HMD := Lib.hid (show MB W.drew g1 F s' from hmW)
    have HRD := Lib.hid (show RB W.drew g2 (ff F z) s from hrW)
    have HXD := Lib.hid (show W.drew.heap[w1.heap.size]? = some (.cells #[.bool sp, .bool ki, .bool ag, .int .u8 re] 43) from hxW)
    clear hmW hrW hxW e1
    go_region_with ((first
      | (go_at_call 31; ((with_reducible refine (HC2.out _ HRD.out).mono ?_); rintro e w2 ⟨rfl, hr2, hs2⟩); have hm2 := HMD.out.stp hs2 hne; have hx2 := hs2.blk HXD.out (by omega); obtain ⟨p0, p1, p2, p3, -, -, -, -⟩ := box4 hx2; have HM2 := Lib.hid hm2; have HR2 := Lib.hid hr2; have HS2 := Lib.hid hs2; clear hm2 hr2 hs2 hx2)
      | (go_at_call 30; ((with_reducible refine (is_calls sp ki ag re HRE.out.1 HRE.out.2 _).mono ?_); rintro e w3 ⟨rfl, b3⟩); have B3 := Lib.hid b3; clear b3)))
    all_goals
      go_wp2
      go_ret
      have e2 := (E1.out.drew).trans (HS2.out.below HN2.out (Nat.le_trans HNS.out E1.out.size))
      have e3 := e2.trans (B3.out.mono (Nat.le_trans HNS.out e2.size))
      exact ⟨rfl, HM2.out.below B3.out, HR2.out.below B3.out, e3⟩
  · rw [if_neg (by omega), if_neg (by omega), if_pos h5]
    have kb0 : (kd % 5 == 0) = false := by simp; omega
    have kb1 : (kd % 5 == 1) = false := by simp; omega
    have kb2 : (kd % 5 == 2) = true := by simpa using h5
    have kb3 : (kd % 5 == 3) = false := by simp; omega
    clear h5
    have hc1 := fun (W : World) (hw : MB W g1 F s) => exit_calls g1 F s cd now W hw HN.out HF.out.agn (inv_run s HI.out)
    have hc2 := fun (W : World) (hw : RB W g2 (ff F z) s) => rexit_calls g2 (ff F z) s cd now W hw HN.out HF.out.agn
    rw [exit_ff] at hc2
    have hre := re_exit F s cd now
    obtain ⟨o, ho⟩ : ∃ o, o = (exitV F s cd now).1 := ⟨_, rfl⟩
    obtain ⟨s', hs'⟩ : ∃ s', s' = (exitV F s cd now).2 := ⟨_, rfl⟩
    rw [← ho, ← hs'] at hc1 hc2
    rw [← ho] at hre
    rw [← hs']
    clear ho hs'
    obtain ⟨sp, ki, ag, re⟩ := o
    have HC1 := Lib.hid hc1
    have HC2 := Lib.hid hc2
    have HRE := Lib.hid hre
    clear hc1 hc2 hre
    go_enter Try.func23, Try.ntmps23
    go_wp2
    have hmW := HM.out.alloc (.cells #[.int .u8 kd, .int .i64 cd, .int .u32 lt] 25)
    have hrW := HR.out.alloc (.cells #[.int .u8 kd, .int .i64 cd, .int .u32 lt] 25)
    have hxW := HX.out
    have e1 := (Below.refl n w).alloc HNS.out (.cells #[.int .u8 kd, .int .i64 cd, .int .u32 lt] 25)
    generalize w.alloc (.cells #[.int .u8 kd, .int .i64 cd, .int .u32 lt] 25) = W at hmW hrW hxW e1 ⊢
    have k1 : W.cell? ⟨w.heap.size, 1, none⟩ = some (.int .i64 cd) := (blk_cell hxW 1).trans rfl
    have HMW := Lib.hid hmW
    have HRW := Lib.hid hrW
    have HXW := Lib.hid hxW
    have E1 := Lib.hid e1
    have HMD := Lib.hid (show MB W.drew g1 F s from hmW)
    have HRD := Lib.hid (show RB W.drew g2 (ff F z) s from hrW)
    have HXD := Lib.hid (show W.drew.heap[w.heap.size]? = some (.cells #[.int .u8 kd, .int .i64 cd, .int .u32 lt] 25) from hxW)
    clear hmW hrW hxW e1
    go_region_with ((first
      | (go_at_call 12; ((with_reducible refine (HC1.out _ HMD.out).mono ?_); rintro e w1 ⟨rfl, hm1, hs1⟩); have hr1 := HRD.out.stp hs1 (Ne.symm hne); have hx1 := hs1.blk HXD.out (by omega); have p1 : w1.cell? ⟨w.heap.size, 1, none⟩ = some (.int .i64 cd) := (blk_cell hx1 1).trans rfl; have HM1 := Lib.hid hm1; have HR1 := Lib.hid hr1; have HS1 := Lib.hid hs1; clear hm1 hr1 hs1 hx1)
      | (go_at_call 32; ((with_reducible refine (HC2.out _ HR1.out).mono ?_); rintro e w2 ⟨rfl, hr2, hs2⟩); have hm2 := HM1.out.stp hs2 hne; have HM2 := Lib.hid hm2; have HR2 := Lib.hid hr2; have HS2 := Lib.hid hs2; clear hm2 hr2 hs2)
      | (go_at_call 30; ((with_reducible refine (is_calls sp ki ag re HRE.out.1 HRE.out.2 _).mono ?_); rintro e w3 ⟨rfl, b3⟩); have B3 := Lib.hid b3; clear b3)))
    all_goals
      go_wp2
      go_ret
      have e2 := (E1.out.drew).trans (HS1.out.below HN1.out (Nat.le_trans HNS.out E1.out.size))
      have e3 := e2.trans (HS2.out.below HN2.out (Nat.le_trans HNS.out e2.size))
      have e4 := e3.trans (B3.out.mono (Nat.le_trans HNS.out e3.size))
      exact ⟨rfl, HM2.out.below B3.out, HR2.out.below B3.out, e4⟩
  · rw [if_neg (by omega), if_neg (by omega), if_neg (by omega), if_pos h5]
    have kb0 : (kd % 5 == 0) = false := by simp; omega
    have kb1 : (kd % 5 == 1) = false := by simp; omega
    have kb2 : (kd % 5 == 2) = false := by simp; omega
    have kb3 : (kd % 5 == 3) = true := by simpa using h5
    clear h5
    have hc1 := fun (W : World) (hw : MB W g1 F s) => tick_calls g1 F s now W hw HN.out HF.out.dn (inv_due s HI.out)
    have hc2 := fun (W : World) (hw : RB W g2 (ff F z) s) => rtick_calls g2 (ff F z) s now W hw HN.out HF.out.dn
    rw [tick_ff] at hc2
    have hre := re_tick F s now
    obtain ⟨o, ho⟩ : ∃ o, o = (tickV F s now).1 := ⟨_, rfl⟩
    obtain ⟨s', hs'⟩ : ∃ s', s' = (tickV F s now).2 := ⟨_, rfl⟩
    rw [← ho, ← hs'] at hc1 hc2
    rw [← ho] at hre
    rw [← hs']
    clear ho hs'
    obtain ⟨sp, ki, ag, re⟩ := o
    have HC1 := Lib.hid hc1
    have HC2 := Lib.hid hc2
    have HRE := Lib.hid hre
    clear hc1 hc2 hre
    go_enter Try.func23, Try.ntmps23
    go_wp2_with (first
      | (go_at_call 13; ((with_reducible refine (HC1.out _ (HM.out.alloc _)).mono ?_); rintro e w1 ⟨rfl, hm1, hs1⟩); have hr1 := (HR.out.alloc _).stp hs1 (Ne.symm hne); have HM1 := Lib.hid hm1; have HR1 := Lib.hid hr1; have HS1 := Lib.hid hs1; clear hm1 hr1 hs1)
      | (go_at_call 33; ((with_reducible refine (HC2.out _ HR1.out).mono ?_); rintro e w2 ⟨rfl, hr2, hs2⟩); have hm2 := HM1.out.stp hs2 hne; have HM2 := Lib.hid hm2; have HR2 := Lib.hid hr2; have HS2 := Lib.hid hs2; clear hm2 hr2 hs2)
      | (go_at_call 30; ((with_reducible refine (is_calls sp ki ag re HRE.out.1 HRE.out.2 _).mono ?_); rintro e w3 ⟨rfl, b3⟩); have B3 := Lib.hid b3; clear b3))
    go_ret
    have e1 := ((Below.refl n w).alloc HNS.out (.cells #[.int .u8 kd, .int .i64 cd, .int .u32 lt] 25)).trans (HS1.out.below HN1.out (Nat.le_trans HNS.out (by rw [World.size_alloc]; exact Nat.le_succ _)))
    have e2 := e1.trans (HS2.out.below HN2.out (Nat.le_trans HNS.out e1.size))
    have e3 := e2.trans (B3.out.mono (Nat.le_trans HNS.out e2.size))
    exact ⟨rfl, HM2.out.below B3.out, HR2.out.below B3.out, e3⟩
  · rw [if_neg (by omega), if_neg (by omega), if_neg (by omega), if_neg (by omega)]
    have kb0 : (kd % 5 == 0) = false := by simp; omega
    have kb1 : (kd % 5 == 1) = false := by simp; omega
    have kb2 : (kd % 5 == 2) = false := by simp; omega
    have kb3 : (kd % 5 == 3) = false := by simp; omega
    clear h5
    go_enter Try.func23, Try.ntmps23
    go_wp2
    go_ret
    exact ⟨rfl, HM.out.alloc _, HR.out.alloc _, (Below.refl n w).alloc HNS.out _⟩
end Go.Proofs.Ytngoenbdimlppaa.Svc
