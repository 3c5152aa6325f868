/- The walk of the law SvcResults. -/
import Derived.Test.YtngoenbdimlppaaN4
import Derived.Test.YtngoenbdimlppaaMe
namespace Go.Proofs.Ytngoenbdimlppaa.Svc
open Go.RowKit Go.Proofs.YtngoenbdimlppaaW.PrintWords Go.Proofs.YtngoenbdimlppaaW.PrintLast Go.Proofs.YtngoenbdimlppaaW.PrintMore
open Go.Proofs.Ytngoenbdimlppaa.All (S25 k25 rd_T25 at_T25 S76 k76)
attribute [local go_sem high] eqA43
set_option linter.unusedVariables false
set_option linter.unusedSimpArgs false
set_option maxRecDepth 100000

/-- A file that came in. -/
structure FileIn (w : World) (F : FV) : Prop where
  ok : FileOK F
  kind : 0 ≤ F.kind ∧ F.kind ≤ 255
  typ : 0 ≤ F.typ ∧ F.typ ≤ 255
  rst : 0 ≤ F.rst ∧ F.rst ≤ 255
  tr : ∃ xs : List S76, Kd.C k76 w F.tr.a F.tr.n xs ∧ F.tr.n = xs.length ∧ xs.length * 32 ≤ 140737488355328
theorem FileIn.plain {w w' : World} {F : FV} (h : FileIn w F) (hb : Below w.heap.size w w') :
    Calls Try.prog 22 #[.agg (fc F)] w' fun e w2 => ∃ z, e = .returned (.agg (rfc (ff F z))) ∧ Below w'.heap.size w' w2 := by
  obtain ⟨xs, h1, h2, h3⟩ := h.tr
  exact plain_calls F xs w' h.kind h.typ h.rst (Kd.C_below h1 hb) h2 h3
theorem due0_call (F : FV) (s : MS) (kd cd t : Int) (hs : Due0 s) (h : 0 ≤ t) (h' : t ≤ 9223372036854775807) : Due0 (callS F s kd cd t) := by
  unfold callS
  repeat' split
  · exact due0_start _ _ _ hs h h'
  · exact due0_stop _ _ _ hs h h'
  · exact due0_exit _ _ _ _ hs h h'
  · exact due0_tick _ _ _ hs h h'
  · exact hs

/-- What a Start comes to, where none is under way. -/
theorem start_cases (F : FV) (s : MS) (t : Int) (hi : Inv s) (h2 : s.st ≠ 2) (ht : 0 ≤ t) (ht' : t ≤ 9223372036854775807) :
    ((startV F s t).1.2 = 4 ∧ (startV F s t).2.st = 4) ∨ ((startV F s t).1.2 = 0 ∧ (startV F s t).1.1.re = 1 ∧ (startV F s t).2.st = 3) ∨
      ((startV F s t).1.2 = 0 ∧ (startV F s t).1.1 = ⟨true, false, false, 0⟩ ∧ ∃ due, (startV F s t).2 = ⟨2, true, due, false⟩ ∧ t ≤ due ∧ due ≤ 9223372036854775807) := by
  unfold startV
  split
  · rename_i h; exact .inl ⟨rfl, h⟩
  split
  · rename_i h; exact .inr (.inl ⟨rfl, rfl, h⟩)
  unfold beginV
  split
  · split
    · split
      · exact .inr (.inl ⟨rfl, rfl, rfl⟩)
      · exact .inr (.inr ⟨rfl, rfl, _, rfl, later_ge t F.up ht ht'⟩)
    · split
      · exact .inr (.inl ⟨rfl, rfl, rfl⟩)
      · exact .inr (.inr ⟨rfl, rfl, _, rfl, by omega, ht'⟩)
  · exact .inr (.inl ⟨rfl, rfl, rfl⟩)
theorem exit_S (F : FV) (due code t : Int) : ((exitV F ⟨2, true, due, false⟩ code t).1.re = 1 ∨ (exitV F ⟨2, true, due, false⟩ code t).1.re = 2) ∧ (exitV F ⟨2, true, due, false⟩ code t).2.runs = false := by
  unfold exitV
  rw [if_pos rfl, if_pos rfl]
  unfold failsV
  repeat' split
  all_goals simp [toS, endS]
theorem exit_none (F : FV) (s : MS) (code t : Int) (h : s.runs = false) : exitV F s code t = (⟨false, false, false, 0⟩, s) := by
  unfold exitV
  rw [if_neg (by rw [h]; decide)]
theorem exit_no (g : Nat) (F : FV) (s : MS) (code now : Int) (w : World) (h : MB w g F s) (hn : R64 now) (hd : R64 F.agn) (hr : s.runs = false) :
    Calls Try.prog 12 #[.pointer (some ⟨g, 0, none⟩), .int .i64 code, .int .i64 now] w fun e w' => e = .returned (.agg #[.bool false, .bool false, .bool false, .int .u8 0]) ∧ MB w' g F s ∧ Stp g w w' := by
  have := exit_calls g F s code now w h hn hd (fun hh => by rw [hr] at hh; cases hh)
  rw [exit_none F s code now hr] at this; exact this
theorem tick_S (F : FV) (due : Int) (h : due ≠ 9223372036854775807) : ((tickV F ⟨2, true, due, false⟩ due).1.re = 1 ∧ (tickV F ⟨2, true, due, false⟩ due).2.st = 3) ∨
    ((tickV F ⟨2, true, due, false⟩ due).1.re = 5 ∧ (tickV F ⟨2, true, due, false⟩ due).1.ki = true ∧ (tickV F ⟨2, true, due, false⟩ due).2.st = 4) := by
  unfold tickV
  rw [if_neg h, if_neg (by simp), if_pos rfl]
  unfold begunV toS
  split <;> simp
theorem inv_S (due : Int) : Inv ⟨2, true, due, false⟩ := ⟨by simp, by simp, by simp, by simp, by simp, by simp⟩
/-- Stop and Exit, one behind the other, where a Start is under way. -/
theorem stop_exit (F : FV) (s : MS) (t : Int) (hi : Inv s) (h2 : s.st = 2) : exitV F (stopV F s t).2 0 t = (⟨false, false, false, 1⟩, ⟨1, false, 9223372036854775807, false⟩) := by
  have hr := hi.r2 h2
  unfold stopV
  rw [if_neg (by omega), if_pos hr]
  simp [exitV, killS, hr, goneV, toS]

set_option maxHeartbeats 8000000 in
theorem results_calls (F : FV) (A : Option Addr) (c0 : Nat) (l : List S25) (ex : Bool) (code : Int) (w : World) (hF : FileIn w F) (hl : Kd.C k25 w A l.length l) (hc : l.length ≤ c0) (hfit : ∀ x ∈ l, Fit25 x) (hlen : l.length ≤ 9223372036854775807) :
    Calls Try.prog 5 #[.agg (fc F), .slice A l.length c0, .bool ex, .int .i64 code] w fun e w' => e = .returned (.bool true) ∧ Below w.heap.size w w' := by
  have hu36 := Try.underlying36
  have hu43 := Try.underlying43
  have HFI := Lib.hid hF
  have HF := Lib.hid hF.ok
  have HL := Lib.hid hl
  have HT := Lib.hid hfit
  clear hF hl hfit
  by_cases c1 : 60 < l.length
  · have b1 : decide ((60 : Int) < (l.length : Int)) = true := decide_eq_true (by omega)
    clear c1
    go_enter Try.func5, Try.ntmps5
    go_wp2_with (first
      | ((with_reducible refine gate_dst (N := 4) rfl ?_); refine box_event ?hg (N := 4) ?hd (cs := fc F) (t := 36) ?hr ?_; (case hd => rfl); (case hg => rfl); (case hr => first | (go_simp; done) | (go_simp; rfl)); intro g1 e1 w1 h1 b1; have H1 := Lib.hid h1; have B1 := Lib.hid b1; clear e1 h1 b1)
      | (go_at_call 18; ((with_reducible refine (works_calls _).mono ?_); rintro e ww ⟨rfl, bw⟩); have BW := Lib.hid bw; clear bw))
    go_ret
    exact ⟨rfl, B1.out.trans (BW.out.mono B1.out.size)⟩
  have b1 : decide ((60 : Int) < (l.length : Int)) = false := decide_eq_false (by omega)
  by_cases cr : Ready F
  case neg =>
    have HR := Lib.hid (decide_eq_false cr)
    clear c1 cr
    go_enter Try.func5, Try.ntmps5
    go_wp2_with (first
      | ((with_reducible refine gate_dst (N := 4) rfl ?_); refine box_event ?hg (N := 4) ?hd (cs := fc F) (t := 36) ?hr ?_; (case hd => rfl); (case hg => rfl); (case hr => first | (go_simp; done) | (go_simp; rfl)); intro g1 e1 w1 h1 b1; have H1 := Lib.hid h1; have B1 := Lib.hid b1; clear e1 h1 b1)
      | ((with_reducible refine gate_dst (N := 22) rfl ?_); refine wpList_load_if rfl 36 _ rfl g1 0 rfl (fc F).toList _ (range_blk H1.out) hu36 rfl (by kernel_rfl) ?_)
      | (go_at_call 19; ((with_reducible refine (ready_calls F _).mono ?_); rw [HR.out]; rintro e w2 ⟨rfl, b2⟩); have B2 := Lib.hid b2; clear b2)
      | (go_at_call 18; ((with_reducible refine (works_calls _).mono ?_); rintro e ww ⟨rfl, bw⟩); have BW := Lib.hid bw; clear bw))
    go_ret
    exact ⟨rfl, (B1.out.trans (B2.out.mono B1.out.size)).trans (BW.out.mono (Nat.le_trans B1.out.size B2.out.size))⟩
  have HR := Lib.hid (decide_eq_true cr)
  clear cr
  have hl60 : l.length ≤ 60 := by omega
  clear c1
  go_enter Try.func5, Try.ntmps5
  go_wp2_with (first
    | ((with_reducible refine gate_dst (N := 4) rfl ?_); refine box_event ?hg (N := 4) ?hd (cs := fc F) (t := 36) ?hr ?_; (case hd => rfl); (case hg => rfl); (case hr => first | (go_simp; done) | (go_simp; rfl)); intro g1 e1 w1 h1 b1; have H1 := Lib.hid h1; have B1 := Lib.hid b1; clear e1 h1 b1)
    | ((with_reducible refine gate_dst (N := 22) rfl ?_); refine wpList_load_if rfl 36 _ rfl g1 0 rfl (fc F).toList _ (range_blk H1.out) hu36 rfl (by kernel_rfl) ?_)
    | (go_at_call 19; ((with_reducible refine (ready_calls F _).mono ?_); rw [HR.out]; rintro e w2 ⟨rfl, b2⟩); have H2 := Lib.hid (blk_below H1.out b2); have B2 := Lib.hid (B1.out.trans (b2.mono B1.out.size)); clear b2)
    | ((with_reducible refine gate_dst (N := 27) rfl ?_); refine wpList_load_mid rfl 36 _ rfl g1 0 rfl (fc F).toList _ (range_blk H2.out) hu36 rfl (by kernel_rfl) ?_)
    | (go_at_call 20; ((with_reducible refine (new_calls F _).mono ?_); rintro e w3 ⟨g, rfl, hg, hm3, b3⟩); have H3 := Lib.hid (blk_below H2.out b3); have HG := Lib.hid (Nat.le_trans B2.out.size hg); have HM3 := Lib.hid hm3; have B3 := Lib.hid (B2.out.trans (b3.mono B2.out.size)); clear hg hm3 b3)
    | ((with_reducible refine gate_dst (N := 29) rfl ?_); refine wpList_load_mid rfl 36 _ rfl g1 0 rfl (fc F).toList _ (range_blk H3.out) hu36 rfl (by kernel_rfl) ?_)
    | (go_at_call 22; ((with_reducible refine (HFI.out.plain B3.out).mono ?_); rintro e w4 ⟨z, rfl, b4⟩); have HM4 := Lib.hid (HM3.out.below b4); have B4 := Lib.hid (B3.out.trans (b4.mono B3.out.size)); clear b4)
    | (go_at_call 21; ((with_reducible refine (rnew_calls (ff F z) _).mono ?_); rintro e w5 ⟨g2, rfl, hg2, hr5, b5⟩); have HM5 := Lib.hid (HM4.out.below b5); have HR5 := Lib.hid hr5; have HG2 := Lib.hid (Nat.le_trans B4.out.size hg2); have HNE := Lib.hid (Nat.ne_of_lt (Nat.lt_of_lt_of_le HM4.out.lt hg2)); have B5 := Lib.hid (B4.out.trans (b5.mono B4.out.size)); clear hr5 b5 hg2))
  go_loopw [11, 12] (fun nw i wr => ∃ (k : Nat) (t : Int) (s : MS), k ≤ l.length ∧ 0 ≤ t ∧ t ≤ k * 4294967295 ∧ nw = .int .i64 t ∧ i = .int .i64 k ∧ MB wr g F s ∧ RB wr g2 (ff F z) s ∧ Inv s ∧ Due0 s ∧ Below w.heap.size w wr)
    (fun _ i _ => l.length - (intOf i).toNat)
  case atStart => exact ⟨0, 0, newS, Nat.zero_le _, by omega, by omega, rfl, rfl, HM5.out, HR5.out, inv_new, due0_inf _ _ _, B5.out⟩
  case round =>
    obtain ⟨k, t, s, hk, ht0, htk, rfl, rfl, hm, hr, hi, hd0, hB⟩ := hrel
    have hlt0 := hm.lt
    have HM := Lib.hid hm
    have HRR := Lib.hid hr
    have HI := Lib.hid hi
    have HD := Lib.hid hd0
    have HB := Lib.hid hB
    have hge : w.heap.size ≤ wr.heap.size := hB.size
    clear hm hr hi hB hd0
    by_cases hlt : k < l.length
    · have hlb : decide ((k : Int) < (l.length : Int)) = true := decide_eq_true (by omega)
      obtain ⟨ad, rfl, x0, x1, x2, xb⟩ := call_cells HL.out HB.out k hlt
      have hf := rd_fit HT.out k hlt
      obtain ⟨kd, hkd⟩ : ∃ kd, kd = (rd_T25 l k).f0 := ⟨_, rfl⟩
      obtain ⟨cd, hcd⟩ : ∃ cd, cd = (rd_T25 l k).f1 := ⟨_, rfl⟩
      obtain ⟨lt, hlt'⟩ : ∃ lt, lt = (rd_T25 l k).f2 := ⟨_, rfl⟩
      rw [← hkd] at x0; rw [← hcd] at x1; rw [← hlt'] at x2
      unfold Fit25 at hf
      rw [← hkd, ← hlt'] at hf
      obtain ⟨f1, f2, f3, f4⟩ := hf
      have ht1 : t ≤ 257698037700 := by omega
      have htl : t + lt ≤ (k + 1 : Nat) * 4294967295 := by omega
      have htl0 : 0 ≤ t + lt := by omega
      have htl1 : t + lt ≤ 9223372036854775807 := by omega
      have HTL := Lib.hid htl
      have HR64 := Lib.hid (show R64 (t + lt) from ⟨by omega, by omega⟩)
      have HLT := Lib.hid hlt
      clear hkd hcd hlt' htk htl
      go_wp2_with (first
        | (go_at_call 23; ((with_reducible refine (call_calls w.heap.size g g2 F z s kd cd lt (t + lt) _ HM.out HRR.out HNE.out HI.out HF.out HR64.out f1 f2 HG.out HG2.out).mono ?_); rintro e w6 ⟨rfl, hm6, hr6, b6⟩); have HM6 := Lib.hid hm6; have HR6 := Lib.hid hr6; have B6 := Lib.hid b6; clear hm6 hr6 b6))
      go_roundw
      case rel => exact ⟨k + 1, t + lt, _, HLT.out, htl0, HTL.out, by go_num, by go_num, HM6.out, HR6.out, inv_call F s kd cd (t + lt) HI.out, due0_call F s kd cd (t + lt) HD.out htl0 htl1, HB.out.trans B6.out⟩
      case measure => have := HLT.out; simp [intOf]; omega
    · have hlb : decide ((k : Int) < (l.length : Int)) = false := decide_eq_false (by omega)
      have ht1 : t ≤ 257698037700 := by omega
      have ht2 : t ≤ 9223372036854775807 := by omega
      have HR64 := Lib.hid (show R64 t from ⟨by omega, by omega⟩)
      have HR1 := Lib.hid (show R64 (t - 1) from ⟨by omega, by omega⟩)
      clear HRR
      by_cases c2 : s.st = 2
      · have b2 : (s.st == 2) = true := by simpa using c2
        have hse := stop_exit F s t HI.out c2
        have hcs := fun (W : World) (hw : MB W g F s) => stop_calls g F s t W hw HR64.out HF.out.dn
        obtain ⟨o9, ho9⟩ : ∃ o, o = (stopV F s t).1 := ⟨_, rfl⟩
        obtain ⟨s9, hs9⟩ : ∃ s', s' = (stopV F s t).2 := ⟨_, rfl⟩
        have hi9 := (inv_stop F s t HI.out).1
        rw [← ho9, ← hs9] at hcs
        rw [← hs9] at hse hi9
        clear ho9 hs9
        have hce := fun (W : World) (hw : MB W g F s9) => exit_calls g F s9 0 t W hw HR64.out HF.out.agn (inv_run s9 hi9)
        rw [hse] at hce
        have HCS := Lib.hid hcs
        have HCE := Lib.hid hce
        obtain ⟨s1, hs1⟩ : ∃ s1 : MS, s1 = ⟨1, false, 9223372036854775807, false⟩ := ⟨_, rfl⟩
        have hi1 : Inv s1 := by rw [hs1]; exact ⟨by simp, by simp, by simp, by simp, by simp, by simp⟩
        have hn1 : s1.st ≠ 2 := by rw [hs1]; decide
        rw [← hs1] at HCE
        clear hse hcs hce hi9 c2 hs1
        have hst := start_cases F s1 t hi1 hn1 ht0 ht2
        have hc := fun (W : World) (hw : MB W g F s1) => start_calls g F s1 t W hw HR64.out HF.out.up
        obtain ⟨o, ho⟩ : ∃ o, o = (startV F s1 t).1.1 := ⟨_, rfl⟩
        obtain ⟨er, her⟩ : ∃ er, er = (startV F s1 t).1.2 := ⟨_, rfl⟩
        obtain ⟨s2, hs2⟩ : ∃ s', s' = (startV F s1 t).2 := ⟨_, rfl⟩
        rw [← ho, ← her, ← hs2] at hst
        rw [← ho, ← her, ← hs2] at hc
        clear ho her hs2 hi1 hn1
        have HC := Lib.hid hc
        clear hc
        obtain ⟨sp, ki, ag, re⟩ := o
        rcases hst with ⟨rfl, h4⟩ | ⟨rfl, h1, h3⟩ | ⟨rfl, hoo, due, rfl, hdu1, hdu2⟩
        · have bst : (s2.st == 4) = true := by simpa using h4
          clear h4
          go_wp2_with (first
            | (go_at_call 14; ((with_reducible refine (state_calls g F s _ HM.out).mono ?_); rintro e w' ⟨rfl, rfl⟩))
            | (go_at_call 11; ((with_reducible refine (HCS.out _ HM.out).mono ?_); rintro e wa ⟨rfl, hma, hsa⟩); have HMa := Lib.hid hma; have HSa := Lib.hid hsa; clear hma hsa)
            | (go_at_call 12; ((with_reducible refine (HCE.out _ HMa.out).mono ?_); rintro e wb ⟨rfl, hmb, hsb⟩); have HMb := Lib.hid hmb; have HSb := Lib.hid (HSa.out.trans hsb); clear hmb hsb)
            | (go_at_call 10; ((with_reducible refine (HC.out _ HMb.out).mono ?_); rintro e w1' ⟨rfl, hm1, hs1⟩); have HM1 := Lib.hid hm1; have HS1 := Lib.hid (HSb.out.trans hs1); clear hm1 hs1)
            | (go_at_call 14; ((with_reducible refine (state_calls g F _ _ (HM1.out.alloc _)).mono ?_); rintro e w' ⟨rfl, rfl⟩))
            | (go_at_call 18; ((with_reducible refine (works_calls _).mono ?_); rintro e ww ⟨rfl, bw⟩); have BW := Lib.hid bw; clear bw))
          go_ret
          have e1 := HB.out.trans ((HS1.out.below HG.out hge).alloc (Nat.le_trans hge HS1.out.size) (.cells #[.bool sp, .bool ki, .bool ag, .int .u8 re] 43))
          exact ⟨rfl, e1.trans (BW.out.mono e1.size)⟩
        · simp only at h1
          subst h1
          have bst : (s2.st == 3) = true := by simpa using h3
          clear h3
          go_wp2_with (first
            | (go_at_call 14; ((with_reducible refine (state_calls g F s _ HM.out).mono ?_); rintro e w' ⟨rfl, rfl⟩))
            | (go_at_call 11; ((with_reducible refine (HCS.out _ HM.out).mono ?_); rintro e wa ⟨rfl, hma, hsa⟩); have HMa := Lib.hid hma; have HSa := Lib.hid hsa; clear hma hsa)
            | (go_at_call 12; ((with_reducible refine (HCE.out _ HMa.out).mono ?_); rintro e wb ⟨rfl, hmb, hsb⟩); have HMb := Lib.hid hmb; have HSb := Lib.hid (HSa.out.trans hsb); clear hmb hsb)
            | (go_at_call 10; ((with_reducible refine (HC.out _ HMb.out).mono ?_); rintro e w1' ⟨rfl, hm1, hs1⟩); have HM1 := Lib.hid hm1; have HS1 := Lib.hid (HSb.out.trans hs1); clear hm1 hs1)
            | (go_at_call 14; ((with_reducible refine (state_calls g F _ _ (HM1.out.alloc _)).mono ?_); rintro e w' ⟨rfl, rfl⟩))
            | (go_at_call 18; ((with_reducible refine (works_calls _).mono ?_); rintro e ww ⟨rfl, bw⟩); have BW := Lib.hid bw; clear bw))
          go_ret
          have e1 := HB.out.trans ((HS1.out.below HG.out hge).alloc (Nat.le_trans hge HS1.out.size) (.cells #[.bool sp, .bool ki, .bool ag, .int .u8 1] 43))
          exact ⟨rfl, e1.trans (BW.out.mono e1.size)⟩
        · simp only [OV.mk.injEq] at hoo
          obtain ⟨rfl, rfl, rfl, rfl⟩ := hoo
          have HDU1 := Lib.hid hdu1
          have HDU2 := Lib.hid hdu2
          cases ex
          · clear hdu1
            by_cases ci : due = 9223372036854775807
            · have bi : (due == 9223372036854775807) = true := by simpa using ci
              clear ci hdu2
              go_wp2_with (first
                | (go_at_call 14; ((with_reducible refine (state_calls g F s _ HM.out).mono ?_); rintro e w' ⟨rfl, rfl⟩))
                | (go_at_call 11; ((with_reducible refine (HCS.out _ HM.out).mono ?_); rintro e wa ⟨rfl, hma, hsa⟩); have HMa := Lib.hid hma; have HSa := Lib.hid hsa; clear hma hsa)
                | (go_at_call 12; ((with_reducible refine (HCE.out _ HMa.out).mono ?_); rintro e wb ⟨rfl, hmb, hsb⟩); have HMb := Lib.hid hmb; have HSb := Lib.hid (HSa.out.trans hsb); clear hmb hsb)
                | (go_at_call 10; ((with_reducible refine (HC.out _ HMb.out).mono ?_); rintro e w1' ⟨rfl, hm1, hs1⟩); have HM1 := Lib.hid hm1; have HS1 := Lib.hid (HSb.out.trans hs1); clear hm1 hs1)
                | (go_at_call 14; ((with_reducible refine (state_calls g F _ _ (HM1.out.alloc _)).mono ?_); rintro e w' ⟨rfl, rfl⟩))
                | (go_at_call 16; ((with_reducible refine (running_calls g F _ _ (HM1.out.alloc _)).mono ?_); rintro e w' ⟨rfl, rfl⟩))
                | (go_at_call 13; ((with_reducible refine (tick_no g F ⟨2, true, due, false⟩ (t - 1) _ (HM1.out.alloc _) HR1.out HF.out.dn (inv_S due) (.inr (by have := HDU1.out; simp only []; omega))).mono ?_); rintro e w2' ⟨rfl, hm2, hs2⟩); have HM2 := Lib.hid hm2; have HS2 := Lib.hid hs2; clear hm2 hs2)
                | (go_at_call 15; ((with_reducible refine (due_calls g F _ _ (HM2.out.alloc _)).mono ?_); rintro e w' ⟨rfl, rfl⟩))
                | (go_at_call 18; ((with_reducible refine (works_calls _).mono ?_); rintro e ww ⟨rfl, bw⟩); have BW := Lib.hid bw; clear bw))
              go_ret
              have e1 := HB.out.trans ((HS1.out.below HG.out hge).alloc (Nat.le_trans hge HS1.out.size) (.cells #[.bool true, .bool false, .bool false, .int .u8 0] 43))
              have e2 := e1.trans (HS2.out.below HG.out e1.size)
              have e3 := e2.alloc e2.size (.cells #[.bool false, .bool false, .bool false, .int .u8 0] 43)
              exact ⟨rfl, e3.trans (BW.out.mono e3.size)⟩
            have bi : (due == 9223372036854775807) = false := by simpa using ci
            have hts := tick_S F due ci
            have hct := fun (W : World) (hw : MB W g F ⟨2, true, due, false⟩) => tick_calls g F ⟨2, true, due, false⟩ due W hw ⟨by have := HDU1.out; omega, HDU2.out⟩ HF.out.dn (inv_due _ (inv_S due))
            obtain ⟨o3, ho3⟩ : ∃ o, o = (tickV F ⟨2, true, due, false⟩ due).1 := ⟨_, rfl⟩
            obtain ⟨s3, hs3⟩ : ∃ s', s' = (tickV F ⟨2, true, due, false⟩ due).2 := ⟨_, rfl⟩
            rw [← ho3, ← hs3] at hts
            rw [← ho3, ← hs3] at hct
            clear ho3 hs3 ci hdu2
            have HCT := Lib.hid hct
            clear hct
            obtain ⟨sp3, ki3, ag3, re3⟩ := o3
            rcases hts with ⟨h1, h3⟩ | ⟨h5, hk, h4⟩
            · simp only at h1
              subst h1
              have bst : (s3.st == 3) = true := by simpa using h3
              clear h3
              go_wp2_with (first
                | (go_at_call 14; ((with_reducible refine (state_calls g F s _ HM.out).mono ?_); rintro e w' ⟨rfl, rfl⟩))
                | (go_at_call 11; ((with_reducible refine (HCS.out _ HM.out).mono ?_); rintro e wa ⟨rfl, hma, hsa⟩); have HMa := Lib.hid hma; have HSa := Lib.hid hsa; clear hma hsa)
                | (go_at_call 12; ((with_reducible refine (HCE.out _ HMa.out).mono ?_); rintro e wb ⟨rfl, hmb, hsb⟩); have HMb := Lib.hid hmb; have HSb := Lib.hid (HSa.out.trans hsb); clear hmb hsb)
                | (go_at_call 10; ((with_reducible refine (HC.out _ HMb.out).mono ?_); rintro e w1' ⟨rfl, hm1, hs1⟩); have HM1 := Lib.hid hm1; have HS1 := Lib.hid (HSb.out.trans hs1); clear hm1 hs1)
                | (go_at_call 14; ((with_reducible refine (state_calls g F _ _ (HM1.out.alloc _)).mono ?_); rintro e w' ⟨rfl, rfl⟩))
                | (go_at_call 16; ((with_reducible refine (running_calls g F _ _ (HM1.out.alloc _)).mono ?_); rintro e w' ⟨rfl, rfl⟩))
                | (go_at_call 13; ((with_reducible refine (tick_no g F ⟨2, true, due, false⟩ (t - 1) _ (HM1.out.alloc _) HR1.out HF.out.dn (inv_S due) (.inr (by have := HDU1.out; simp only []; omega))).mono ?_); rintro e w2' ⟨rfl, hm2, hs2⟩); have HM2 := Lib.hid hm2; have HS2 := Lib.hid hs2; clear hm2 hs2)
                | (go_at_call 13; ((with_reducible refine (HCT.out _ (HM2.out.alloc _)).mono ?_); rintro e w3' ⟨rfl, hm3', hs3'⟩); have HM3' := Lib.hid hm3'; have HS3' := Lib.hid hs3'; clear hm3' hs3')
                | (go_at_call 14; ((with_reducible refine (state_calls g F _ _ (HM3'.out.alloc _)).mono ?_); rintro e w' ⟨rfl, rfl⟩))
                | (go_at_call 15; ((with_reducible refine (due_calls g F _ _ (HM2.out.alloc _)).mono ?_); rintro e w' ⟨rfl, rfl⟩))
                | (go_at_call 18; ((with_reducible refine (works_calls _).mono ?_); rintro e ww ⟨rfl, bw⟩); have BW := Lib.hid bw; clear bw))
              go_ret
              have e1 := HB.out.trans ((HS1.out.below HG.out hge).alloc (Nat.le_trans hge HS1.out.size) (.cells #[.bool true, .bool false, .bool false, .int .u8 0] 43))
              have e2 := e1.trans (HS2.out.below HG.out e1.size)
              have e3 := e2.alloc e2.size (.cells #[.bool false, .bool false, .bool false, .int .u8 0] 43)
              have e4 := e3.trans (HS3'.out.below HG.out e3.size)
              have e5 := e4.alloc e4.size (.cells #[.bool sp3, .bool ki3, .bool ag3, .int .u8 1] 43)
              exact ⟨rfl, e5.trans (BW.out.mono e5.size)⟩
            · simp only at h5 hk
              subst h5 hk
              have bst : (s3.st == 4) = true := by simpa using h4
              clear h4
              go_wp2_with (first
                | (go_at_call 14; ((with_reducible refine (state_calls g F s _ HM.out).mono ?_); rintro e w' ⟨rfl, rfl⟩))
                | (go_at_call 11; ((with_reducible refine (HCS.out _ HM.out).mono ?_); rintro e wa ⟨rfl, hma, hsa⟩); have HMa := Lib.hid hma; have HSa := Lib.hid hsa; clear hma hsa)
                | (go_at_call 12; ((with_reducible refine (HCE.out _ HMa.out).mono ?_); rintro e wb ⟨rfl, hmb, hsb⟩); have HMb := Lib.hid hmb; have HSb := Lib.hid (HSa.out.trans hsb); clear hmb hsb)
                | (go_at_call 10; ((with_reducible refine (HC.out _ HMb.out).mono ?_); rintro e w1' ⟨rfl, hm1, hs1⟩); have HM1 := Lib.hid hm1; have HS1 := Lib.hid (HSb.out.trans hs1); clear hm1 hs1)
                | (go_at_call 14; ((with_reducible refine (state_calls g F _ _ (HM1.out.alloc _)).mono ?_); rintro e w' ⟨rfl, rfl⟩))
                | (go_at_call 16; ((with_reducible refine (running_calls g F _ _ (HM1.out.alloc _)).mono ?_); rintro e w' ⟨rfl, rfl⟩))
                | (go_at_call 13; ((with_reducible refine (tick_no g F ⟨2, true, due, false⟩ (t - 1) _ (HM1.out.alloc _) HR1.out HF.out.dn (inv_S due) (.inr (by have := HDU1.out; simp only []; omega))).mono ?_); rintro e w2' ⟨rfl, hm2, hs2⟩); have HM2 := Lib.hid hm2; have HS2 := Lib.hid hs2; clear hm2 hs2)
                | (go_at_call 13; ((with_reducible refine (HCT.out _ (HM2.out.alloc _)).mono ?_); rintro e w3' ⟨rfl, hm3', hs3'⟩); have HM3' := Lib.hid hm3'; have HS3' := Lib.hid hs3'; clear hm3' hs3')
                | (go_at_call 14; ((with_reducible refine (state_calls g F _ _ (HM3'.out.alloc _)).mono ?_); rintro e w' ⟨rfl, rfl⟩))
                | (go_at_call 15; ((with_reducible refine (due_calls g F _ _ (HM2.out.alloc _)).mono ?_); rintro e w' ⟨rfl, rfl⟩))
                | (go_at_call 18; ((with_reducible refine (works_calls _).mono ?_); rintro e ww ⟨rfl, bw⟩); have BW := Lib.hid bw; clear bw))
              go_ret
              have e1 := HB.out.trans ((HS1.out.below HG.out hge).alloc (Nat.le_trans hge HS1.out.size) (.cells #[.bool true, .bool false, .bool false, .int .u8 0] 43))
              have e2 := e1.trans (HS2.out.below HG.out e1.size)
              have e3 := e2.alloc e2.size (.cells #[.bool false, .bool false, .bool false, .int .u8 0] 43)
              have e4 := e3.trans (HS3'.out.below HG.out e3.size)
              have e5 := e4.alloc e4.size (.cells #[.bool sp3, .bool true, .bool ag3, .int .u8 5] 43)
              exact ⟨rfl, e5.trans (BW.out.mono e5.size)⟩
          · clear hdu1 hdu2
            have hes := exit_S F due code t
            have hcx := fun (W : World) (hw : MB W g F ⟨2, true, due, false⟩) => exit_calls g F ⟨2, true, due, false⟩ code t W hw HR64.out HF.out.agn (fun _ => .inl rfl)
            obtain ⟨o3, ho3⟩ : ∃ o, o = (exitV F ⟨2, true, due, false⟩ code t).1 := ⟨_, rfl⟩
            obtain ⟨s3, hs3⟩ : ∃ s', s' = (exitV F ⟨2, true, due, false⟩ code t).2 := ⟨_, rfl⟩
            rw [← ho3, ← hs3] at hes
            rw [← ho3, ← hs3] at hcx
            clear ho3 hs3
            have HCX := Lib.hid hcx
            clear hcx
            obtain ⟨sp3, ki3, ag3, re3⟩ := o3
            obtain ⟨st3, rn3, du3, la3⟩ := s3
            obtain ⟨hre, hrn⟩ := hes
            simp only at hre hrn
            subst hrn
            rcases hre with rfl | rfl
            · skip
              go_wp2_with (first
                | (go_at_call 14; ((with_reducible refine (state_calls g F s _ HM.out).mono ?_); rintro e w' ⟨rfl, rfl⟩))
                | (go_at_call 11; ((with_reducible refine (HCS.out _ HM.out).mono ?_); rintro e wa ⟨rfl, hma, hsa⟩); have HMa := Lib.hid hma; have HSa := Lib.hid hsa; clear hma hsa)
                | (go_at_call 12; ((with_reducible refine (HCE.out _ HMa.out).mono ?_); rintro e wb ⟨rfl, hmb, hsb⟩); have HMb := Lib.hid hmb; have HSb := Lib.hid (HSa.out.trans hsb); clear hmb hsb)
                | (go_at_call 10; ((with_reducible refine (HC.out _ HMb.out).mono ?_); rintro e w1' ⟨rfl, hm1, hs1⟩); have HM1 := Lib.hid hm1; have HS1 := Lib.hid (HSb.out.trans hs1); clear hm1 hs1)
                | (go_at_call 14; ((with_reducible refine (state_calls g F _ _ (HM1.out.alloc _)).mono ?_); rintro e w' ⟨rfl, rfl⟩))
                | (go_at_call 16; ((with_reducible refine (running_calls g F _ _ (HM1.out.alloc _)).mono ?_); rintro e w' ⟨rfl, rfl⟩))
                | (go_at_call 13; ((with_reducible refine (tick_no g F ⟨2, true, due, false⟩ (t - 1) _ (HM1.out.alloc _) HR1.out HF.out.dn (inv_S due) (.inr (by have := HDU1.out; simp only []; omega))).mono ?_); rintro e w2' ⟨rfl, hm2, hs2⟩); have HM2 := Lib.hid hm2; have HS2 := Lib.hid hs2; clear hm2 hs2)
                | (go_at_call 12; ((with_reducible refine (HCX.out _ (HM2.out.alloc _)).mono ?_); rintro e w3' ⟨rfl, hm3', hs3'⟩); have HM3' := Lib.hid hm3'; have HS3' := Lib.hid hs3'; clear hm3' hs3')
                | (go_at_call 16; ((with_reducible refine (running_calls g F _ _ (HM3'.out.alloc _)).mono ?_); rintro e w' ⟨rfl, rfl⟩))
                | (go_at_call 12; ((with_reducible refine (exit_no g F ⟨st3, false, du3, la3⟩ code t _ (HM3'.out.alloc _) HR64.out HF.out.agn rfl).mono ?_); rintro e w4' ⟨rfl, hm4', hs4'⟩); have HM4' := Lib.hid hm4'; have HS4' := Lib.hid hs4'; clear hm4' hs4')
                | (go_at_call 18; ((with_reducible refine (works_calls _).mono ?_); rintro e ww ⟨rfl, bw⟩); have BW := Lib.hid bw; clear bw))
              go_ret
              have e1 := HB.out.trans ((HS1.out.below HG.out hge).alloc (Nat.le_trans hge HS1.out.size) (.cells #[.bool true, .bool false, .bool false, .int .u8 0] 43))
              have e2 := e1.trans (HS2.out.below HG.out e1.size)
              have e3 := e2.alloc e2.size (.cells #[.bool false, .bool false, .bool false, .int .u8 0] 43)
              have e4 := e3.trans (HS3'.out.below HG.out e3.size)
              have e5 := e4.alloc e4.size (.cells #[.bool sp3, .bool ki3, .bool ag3, .int .u8 1] 43)
              have e6 := e5.trans (HS4'.out.below HG.out e5.size)
              exact ⟨rfl, e6.trans (BW.out.mono e6.size)⟩
            · skip
              go_wp2_with (first
                | (go_at_call 14; ((with_reducible refine (state_calls g F s _ HM.out).mono ?_); rintro e w' ⟨rfl, rfl⟩))
                | (go_at_call 11; ((with_reducible refine (HCS.out _ HM.out).mono ?_); rintro e wa ⟨rfl, hma, hsa⟩); have HMa := Lib.hid hma; have HSa := Lib.hid hsa; clear hma hsa)
                | (go_at_call 12; ((with_reducible refine (HCE.out _ HMa.out).mono ?_); rintro e wb ⟨rfl, hmb, hsb⟩); have HMb := Lib.hid hmb; have HSb := Lib.hid (HSa.out.trans hsb); clear hmb hsb)
                | (go_at_call 10; ((with_reducible refine (HC.out _ HMb.out).mono ?_); rintro e w1' ⟨rfl, hm1, hs1⟩); have HM1 := Lib.hid hm1; have HS1 := Lib.hid (HSb.out.trans hs1); clear hm1 hs1)
                | (go_at_call 14; ((with_reducible refine (state_calls g F _ _ (HM1.out.alloc _)).mono ?_); rintro e w' ⟨rfl, rfl⟩))
                | (go_at_call 16; ((with_reducible refine (running_calls g F _ _ (HM1.out.alloc _)).mono ?_); rintro e w' ⟨rfl, rfl⟩))
                | (go_at_call 13; ((with_reducible refine (tick_no g F ⟨2, true, due, false⟩ (t - 1) _ (HM1.out.alloc _) HR1.out HF.out.dn (inv_S due) (.inr (by have := HDU1.out; simp only []; omega))).mono ?_); rintro e w2' ⟨rfl, hm2, hs2⟩); have HM2 := Lib.hid hm2; have HS2 := Lib.hid hs2; clear hm2 hs2)
                | (go_at_call 12; ((with_reducible refine (HCX.out _ (HM2.out.alloc _)).mono ?_); rintro e w3' ⟨rfl, hm3', hs3'⟩); have HM3' := Lib.hid hm3'; have HS3' := Lib.hid hs3'; clear hm3' hs3')
                | (go_at_call 16; ((with_reducible refine (running_calls g F _ _ (HM3'.out.alloc _)).mono ?_); rintro e w' ⟨rfl, rfl⟩))
                | (go_at_call 12; ((with_reducible refine (exit_no g F ⟨st3, false, du3, la3⟩ code t _ (HM3'.out.alloc _) HR64.out HF.out.agn rfl).mono ?_); rintro e w4' ⟨rfl, hm4', hs4'⟩); have HM4' := Lib.hid hm4'; have HS4' := Lib.hid hs4'; clear hm4' hs4')
                | (go_at_call 18; ((with_reducible refine (works_calls _).mono ?_); rintro e ww ⟨rfl, bw⟩); have BW := Lib.hid bw; clear bw))
              go_ret
              have e1 := HB.out.trans ((HS1.out.below HG.out hge).alloc (Nat.le_trans hge HS1.out.size) (.cells #[.bool true, .bool false, .bool false, .int .u8 0] 43))
              have e2 := e1.trans (HS2.out.below HG.out e1.size)
              have e3 := e2.alloc e2.size (.cells #[.bool false, .bool false, .bool false, .int .u8 0] 43)
              have e4 := e3.trans (HS3'.out.below HG.out e3.size)
              have e5 := e4.alloc e4.size (.cells #[.bool sp3, .bool ki3, .bool ag3, .int .u8 2] 43)
              have e6 := e5.trans (HS4'.out.below HG.out e5.size)
              exact ⟨rfl, e6.trans (BW.out.mono e6.size)⟩
      · have b2 : (s.st == 2) = false := by simpa using c2
        have hi1 := HI.out
        have hn1 := c2
        clear c2
        have hst := start_cases F s t hi1 hn1 ht0 ht2
        have hc := fun (W : World) (hw : MB W g F s) => start_calls g F s t W hw HR64.out HF.out.up
        obtain ⟨o, ho⟩ : ∃ o, o = (startV F s t).1.1 := ⟨_, rfl⟩
        obtain ⟨er, her⟩ : ∃ er, er = (startV F s t).1.2 := ⟨_, rfl⟩
        obtain ⟨s2, hs2⟩ : ∃ s', s' = (startV F s t).2 := ⟨_, rfl⟩
        rw [← ho, ← her, ← hs2] at hst
        rw [← ho, ← her, ← hs2] at hc
        clear ho her hs2 hi1 hn1
        have HC := Lib.hid hc
        clear hc
        obtain ⟨sp, ki, ag, re⟩ := o
        rcases hst with ⟨rfl, h4⟩ | ⟨rfl, h1, h3⟩ | ⟨rfl, hoo, due, rfl, hdu1, hdu2⟩
        · have bst : (s2.st == 4) = true := by simpa using h4
          clear h4
          go_wp2_with (first
            | (go_at_call 14; ((with_reducible refine (state_calls g F s _ HM.out).mono ?_); rintro e w' ⟨rfl, rfl⟩))
            | (go_at_call 10; ((with_reducible refine (HC.out _ HM.out).mono ?_); rintro e w1' ⟨rfl, hm1, hs1⟩); have HM1 := Lib.hid hm1; have HS1 := Lib.hid hs1; clear hm1 hs1)
            | (go_at_call 14; ((with_reducible refine (state_calls g F _ _ (HM1.out.alloc _)).mono ?_); rintro e w' ⟨rfl, rfl⟩))
            | (go_at_call 18; ((with_reducible refine (works_calls _).mono ?_); rintro e ww ⟨rfl, bw⟩); have BW := Lib.hid bw; clear bw))
          go_ret
          have e1 := HB.out.trans ((HS1.out.below HG.out hge).alloc (Nat.le_trans hge HS1.out.size) (.cells #[.bool sp, .bool ki, .bool ag, .int .u8 re] 43))
          exact ⟨rfl, e1.trans (BW.out.mono e1.size)⟩
        · simp only at h1
          subst h1
          have bst : (s2.st == 3) = true := by simpa using h3
          clear h3
          go_wp2_with (first
            | (go_at_call 14; ((with_reducible refine (state_calls g F s _ HM.out).mono ?_); rintro e w' ⟨rfl, rfl⟩))
            | (go_at_call 10; ((with_reducible refine (HC.out _ HM.out).mono ?_); rintro e w1' ⟨rfl, hm1, hs1⟩); have HM1 := Lib.hid hm1; have HS1 := Lib.hid hs1; clear hm1 hs1)
            | (go_at_call 14; ((with_reducible refine (state_calls g F _ _ (HM1.out.alloc _)).mono ?_); rintro e w' ⟨rfl, rfl⟩))
            | (go_at_call 18; ((with_reducible refine (works_calls _).mono ?_); rintro e ww ⟨rfl, bw⟩); have BW := Lib.hid bw; clear bw))
          go_ret
          have e1 := HB.out.trans ((HS1.out.below HG.out hge).alloc (Nat.le_trans hge HS1.out.size) (.cells #[.bool sp, .bool ki, .bool ag, .int .u8 1] 43))
          exact ⟨rfl, e1.trans (BW.out.mono e1.size)⟩
        · simp only [OV.mk.injEq] at hoo
          obtain ⟨rfl, rfl, rfl, rfl⟩ := hoo
          have HDU1 := Lib.hid hdu1
          have HDU2 := Lib.hid hdu2
          cases ex
          · clear hdu1
            by_cases ci : due = 9223372036854775807
            · have bi : (due == 9223372036854775807) = true := by simpa using ci
              clear ci hdu2
              go_wp2_with (first
                | (go_at_call 14; ((with_reducible refine (state_calls g F s _ HM.out).mono ?_); rintro e w' ⟨rfl, rfl⟩))
                | (go_at_call 10; ((with_reducible refine (HC.out _ HM.out).mono ?_); rintro e w1' ⟨rfl, hm1, hs1⟩); have HM1 := Lib.hid hm1; have HS1 := Lib.hid hs1; clear hm1 hs1)
                | (go_at_call 14; ((with_reducible refine (state_calls g F _ _ (HM1.out.alloc _)).mono ?_); rintro e w' ⟨rfl, rfl⟩))
                | (go_at_call 16; ((with_reducible refine (running_calls g F _ _ (HM1.out.alloc _)).mono ?_); rintro e w' ⟨rfl, rfl⟩))
                | (go_at_call 13; ((with_reducible refine (tick_no g F ⟨2, true, due, false⟩ (t - 1) _ (HM1.out.alloc _) HR1.out HF.out.dn (inv_S due) (.inr (by have := HDU1.out; simp only []; omega))).mono ?_); rintro e w2' ⟨rfl, hm2, hs2⟩); have HM2 := Lib.hid hm2; have HS2 := Lib.hid hs2; clear hm2 hs2)
                | (go_at_call 15; ((with_reducible refine (due_calls g F _ _ (HM2.out.alloc _)).mono ?_); rintro e w' ⟨rfl, rfl⟩))
                | (go_at_call 18; ((with_reducible refine (works_calls _).mono ?_); rintro e ww ⟨rfl, bw⟩); have BW := Lib.hid bw; clear bw))
              go_ret
              have e1 := HB.out.trans ((HS1.out.below HG.out hge).alloc (Nat.le_trans hge HS1.out.size) (.cells #[.bool true, .bool false, .bool false, .int .u8 0] 43))
              have e2 := e1.trans (HS2.out.below HG.out e1.size)
              have e3 := e2.alloc e2.size (.cells #[.bool false, .bool false, .bool false, .int .u8 0] 43)
              exact ⟨rfl, e3.trans (BW.out.mono e3.size)⟩
            have bi : (due == 9223372036854775807) = false := by simpa using ci
            have hts := tick_S F due ci
            have hct := fun (W : World) (hw : MB W g F ⟨2, true, due, false⟩) => tick_calls g F ⟨2, true, due, false⟩ due W hw ⟨by have := HDU1.out; omega, HDU2.out⟩ HF.out.dn (inv_due _ (inv_S due))
            obtain ⟨o3, ho3⟩ : ∃ o, o = (tickV F ⟨2, true, due, false⟩ due).1 := ⟨_, rfl⟩
            obtain ⟨s3, hs3⟩ : ∃ s', s' = (tickV F ⟨2, true, due, false⟩ due).2 := ⟨_, rfl⟩
            rw [← ho3, ← hs3] at hts
            rw [← ho3, ← hs3] at hct
            clear ho3 hs3 ci hdu2
            have HCT := Lib.hid hct
            clear hct
            obtain ⟨sp3, ki3, ag3, re3⟩ := o3
            rcases hts with ⟨h1, h3⟩ | ⟨h5, hk, h4⟩
            · simp only at h1
              subst h1
              have bst : (s3.st == 3) = true := by simpa using h3
              clear h3
              go_wp2_with (first
                | (go_at_call 14; ((with_reducible refine (state_calls g F s _ HM.out).mono ?_); rintro e w' ⟨rfl, rfl⟩))
                | (go_at_call 10; ((with_reducible refine (HC.out _ HM.out).mono ?_); rintro e w1' ⟨rfl, hm1, hs1⟩); have HM1 := Lib.hid hm1; have HS1 := Lib.hid hs1; clear hm1 hs1)
                | (go_at_call 14; ((with_reducible refine (state_calls g F _ _ (HM1.out.alloc _)).mono ?_); rintro e w' ⟨rfl, rfl⟩))
                | (go_at_call 16; ((with_reducible refine (running_calls g F _ _ (HM1.out.alloc _)).mono ?_); rintro e w' ⟨rfl, rfl⟩))
                | (go_at_call 13; ((with_reducible refine (tick_no g F ⟨2, true, due, false⟩ (t - 1) _ (HM1.out.alloc _) HR1.out HF.out.dn (inv_S due) (.inr (by have := HDU1.out; simp only []; omega))).mono ?_); rintro e w2' ⟨rfl, hm2, hs2⟩); have HM2 := Lib.hid hm2; have HS2 := Lib.hid hs2; clear hm2 hs2)
                | (go_at_call 13; ((with_reducible refine (HCT.out _ (HM2.out.alloc _)).mono ?_); rintro e w3' ⟨rfl, hm3', hs3'⟩); have HM3' := Lib.hid hm3'; have HS3' := Lib.hid hs3'; clear hm3' hs3')
                | (go_at_call 14; ((with_reducible refine (state_calls g F _ _ (HM3'.out.alloc _)).mono ?_); rintro e w' ⟨rfl, rfl⟩))
                | (go_at_call 15; ((with_reducible refine (due_calls g F _ _ (HM2.out.alloc _)).mono ?_); rintro e w' ⟨rfl, rfl⟩))
                | (go_at_call 18; ((with_reducible refine (works_calls _).mono ?_); rintro e ww ⟨rfl, bw⟩); have BW := Lib.hid bw; clear bw))
              go_ret
              have e1 := HB.out.trans ((HS1.out.below HG.out hge).alloc (Nat.le_trans hge HS1.out.size) (.cells #[.bool true, .bool false, .bool false, .int .u8 0] 43))
              have e2 := e1.trans (HS2.out.below HG.out e1.size)
              have e3 := e2.alloc e2.size (.cells #[.bool false, .bool false, .bool false, .int .u8 0] 43)
              have e4 := e3.trans (HS3'.out.below HG.out e3.size)
              have e5 := e4.alloc e4.size (.cells #[.bool sp3, .bool ki3, .bool ag3, .int .u8 1] 43)
              exact ⟨rfl, e5.trans (BW.out.mono e5.size)⟩
            · simp only at h5 hk
              subst h5 hk
              have bst : (s3.st == 4) = true := by simpa using h4
              clear h4
              go_wp2_with (first
                | (go_at_call 14; ((with_reducible refine (state_calls g F s _ HM.out).mono ?_); rintro e w' ⟨rfl, rfl⟩))
                | (go_at_call 10; ((with_reducible refine (HC.out _ HM.out).mono ?_); rintro e w1' ⟨rfl, hm1, hs1⟩); have HM1 := Lib.hid hm1; have HS1 := Lib.hid hs1; clear hm1 hs1)
                | (go_at_call 14; ((with_reducible refine (state_calls g F _ _ (HM1.out.alloc _)).mono ?_); rintro e w' ⟨rfl, rfl⟩))
                | (go_at_call 16; ((with_reducible refine (running_calls g F _ _ (HM1.out.alloc _)).mono ?_); rintro e w' ⟨rfl, rfl⟩))
                | (go_at_call 13; ((with_reducible refine (tick_no g F ⟨2, true, due, false⟩ (t - 1) _ (HM1.out.alloc _) HR1.out HF.out.dn (inv_S due) (.inr (by have := HDU1.out; simp only []; omega))).mono ?_); rintro e w2' ⟨rfl, hm2, hs2⟩); have HM2 := Lib.hid hm2; have HS2 := Lib.hid hs2; clear hm2 hs2)
                | (go_at_call 13; ((with_reducible refine (HCT.out _ (HM2.out.alloc _)).mono ?_); rintro e w3' ⟨rfl, hm3', hs3'⟩); have HM3' := Lib.hid hm3'; have HS3' := Lib.hid hs3'; clear hm3' hs3')
                | (go_at_call 14; ((with_reducible refine (state_calls g F _ _ (HM3'.out.alloc _)).mono ?_); rintro e w' ⟨rfl, rfl⟩))
                | (go_at_call 15; ((with_reducible refine (due_calls g F _ _ (HM2.out.alloc _)).mono ?_); rintro e w' ⟨rfl, rfl⟩))
                | (go_at_call 18; ((with_reducible refine (works_calls _).mono ?_); rintro e ww ⟨rfl, bw⟩); have BW := Lib.hid bw; clear bw))
              go_ret
              have e1 := HB.out.trans ((HS1.out.below HG.out hge).alloc (Nat.le_trans hge HS1.out.size) (.cells #[.bool true, .bool false, .bool false, .int .u8 0] 43))
              have e2 := e1.trans (HS2.out.below HG.out e1.size)
              have e3 := e2.alloc e2.size (.cells #[.bool false, .bool false, .bool false, .int .u8 0] 43)
              have e4 := e3.trans (HS3'.out.below HG.out e3.size)
              have e5 := e4.alloc e4.size (.cells #[.bool sp3, .bool true, .bool ag3, .int .u8 5] 43)
              exact ⟨rfl, e5.trans (BW.out.mono e5.size)⟩
          · clear hdu1 hdu2
            have hes := exit_S F due code t
            have hcx := fun (W : World) (hw : MB W g F ⟨2, true, due, false⟩) => exit_calls g F ⟨2, true, due, false⟩ code t W hw HR64.out HF.out.agn (fun _ => .inl rfl)
            obtain ⟨o3, ho3⟩ : ∃ o, o = (exitV F ⟨2, true, due, false⟩ code t).1 := ⟨_, rfl⟩
            obtain ⟨s3, hs3⟩ : ∃ s', s' = (exitV F ⟨2, true, due, false⟩ code t).2 := ⟨_, rfl⟩
            rw [← ho3, ← hs3] at hes
            rw [← ho3, ← hs3] at hcx
            clear ho3 hs3
            have HCX := Lib.hid hcx
            clear hcx
            obtain ⟨sp3, ki3, ag3, re3⟩ := o3
            obtain ⟨st3, rn3, du3, la3⟩ := s3
            obtain ⟨hre, hrn⟩ := hes
            simp only at hre hrn
            subst hrn
            rcases hre with rfl | rfl
            · skip
              go_wp2_with (first
                | (go_at_call 14; ((with_reducible refine (state_calls g F s _ HM.out).mono ?_); rintro e w' ⟨rfl, rfl⟩))
                | (go_at_call 10; ((with_reducible refine (HC.out _ HM.out).mono ?_); rintro e w1' ⟨rfl, hm1, hs1⟩); have HM1 := Lib.hid hm1; have HS1 := Lib.hid hs1; clear hm1 hs1)
                | (go_at_call 14; ((with_reducible refine (state_calls g F _ _ (HM1.out.alloc _)).mono ?_); rintro e w' ⟨rfl, rfl⟩))
                | (go_at_call 16; ((with_reducible refine (running_calls g F _ _ (HM1.out.alloc _)).mono ?_); rintro e w' ⟨rfl, rfl⟩))
                | (go_at_call 13; ((with_reducible refine (tick_no g F ⟨2, true, due, false⟩ (t - 1) _ (HM1.out.alloc _) HR1.out HF.out.dn (inv_S due) (.inr (by have := HDU1.out; simp only []; omega))).mono ?_); rintro e w2' ⟨rfl, hm2, hs2⟩); have HM2 := Lib.hid hm2; have HS2 := Lib.hid hs2; clear hm2 hs2)
                | (go_at_call 12; ((with_reducible refine (HCX.out _ (HM2.out.alloc _)).mono ?_); rintro e w3' ⟨rfl, hm3', hs3'⟩); have HM3' := Lib.hid hm3'; have HS3' := Lib.hid hs3'; clear hm3' hs3')
                | (go_at_call 16; ((with_reducible refine (running_calls g F _ _ (HM3'.out.alloc _)).mono ?_); rintro e w' ⟨rfl, rfl⟩))
                | (go_at_call 12; ((with_reducible refine (exit_no g F ⟨st3, false, du3, la3⟩ code t _ (HM3'.out.alloc _) HR64.out HF.out.agn rfl).mono ?_); rintro e w4' ⟨rfl, hm4', hs4'⟩); have HM4' := Lib.hid hm4'; have HS4' := Lib.hid hs4'; clear hm4' hs4')
                | (go_at_call 18; ((with_reducible refine (works_calls _).mono ?_); rintro e ww ⟨rfl, bw⟩); have BW := Lib.hid bw; clear bw))
              go_ret
              have e1 := HB.out.trans ((HS1.out.below HG.out hge).alloc (Nat.le_trans hge HS1.out.size) (.cells #[.bool true, .bool false, .bool false, .int .u8 0] 43))
              have e2 := e1.trans (HS2.out.below HG.out e1.size)
              have e3 := e2.alloc e2.size (.cells #[.bool false, .bool false, .bool false, .int .u8 0] 43)
              have e4 := e3.trans (HS3'.out.below HG.out e3.size)
              have e5 := e4.alloc e4.size (.cells #[.bool sp3, .bool ki3, .bool ag3, .int .u8 1] 43)
              have e6 := e5.trans (HS4'.out.below HG.out e5.size)
              exact ⟨rfl, e6.trans (BW.out.mono e6.size)⟩
            · skip
              go_wp2_with (first
                | (go_at_call 14; ((with_reducible refine (state_calls g F s _ HM.out).mono ?_); rintro e w' ⟨rfl, rfl⟩))
                | (go_at_call 10; ((with_reducible refine (HC.out _ HM.out).mono ?_); rintro e w1' ⟨rfl, hm1, hs1⟩); have HM1 := Lib.hid hm1; have HS1 := Lib.hid hs1; clear hm1 hs1)
                | (go_at_call 14; ((with_reducible refine (state_calls g F _ _ (HM1.out.alloc _)).mono ?_); rintro e w' ⟨rfl, rfl⟩))
                | (go_at_call 16; ((with_reducible refine (running_calls g F _ _ (HM1.out.alloc _)).mono ?_); rintro e w' ⟨rfl, rfl⟩))
                | (go_at_call 13; ((with_reducible refine (tick_no g F ⟨2, true, due, false⟩ (t - 1) _ (HM1.out.alloc _) HR1.out HF.out.dn (inv_S due) (.inr (by have := HDU1.out; simp only []; omega))).mono ?_); rintro e w2' ⟨rfl, hm2, hs2⟩); have HM2 := Lib.hid hm2; have HS2 := Lib.hid hs2; clear hm2 hs2)
                | (go_at_call 12; ((with_reducible refine (HCX.out _ (HM2.out.alloc _)).mono ?_); rintro e w3' ⟨rfl, hm3', hs3'⟩); have HM3' := Lib.hid hm3'; have HS3' := Lib.hid hs3'; clear hm3' hs3')
                | (go_at_call 16; ((with_reducible refine (running_calls g F _ _ (HM3'.out.alloc _)).mono ?_); rintro e w' ⟨rfl, rfl⟩))
                | (go_at_call 12; ((with_reducible refine (exit_no g F ⟨st3, false, du3, la3⟩ code t _ (HM3'.out.alloc _) HR64.out HF.out.agn rfl).mono ?_); rintro e w4' ⟨rfl, hm4', hs4'⟩); have HM4' := Lib.hid hm4'; have HS4' := Lib.hid hs4'; clear hm4' hs4')
                | (go_at_call 18; ((with_reducible refine (works_calls _).mono ?_); rintro e ww ⟨rfl, bw⟩); have BW := Lib.hid bw; clear bw))
              go_ret
              have e1 := HB.out.trans ((HS1.out.below HG.out hge).alloc (Nat.le_trans hge HS1.out.size) (.cells #[.bool true, .bool false, .bool false, .int .u8 0] 43))
              have e2 := e1.trans (HS2.out.below HG.out e1.size)
              have e3 := e2.alloc e2.size (.cells #[.bool false, .bool false, .bool false, .int .u8 0] 43)
              have e4 := e3.trans (HS3'.out.below HG.out e3.size)
              have e5 := e4.alloc e4.size (.cells #[.bool sp3, .bool ki3, .bool ag3, .int .u8 2] 43)
              have e6 := e5.trans (HS4'.out.below HG.out e5.size)
              exact ⟨rfl, e6.trans (BW.out.mono e6.size)⟩
end Go.Proofs.Ytngoenbdimlppaa.Svc
