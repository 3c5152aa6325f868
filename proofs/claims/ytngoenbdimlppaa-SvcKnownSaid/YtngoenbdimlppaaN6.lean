/- The walk of the law SvcStops. -/
import Derived.Test.YtngoenbdimlppaaN5
namespace Go.Proofs.Ytngoenbdimlppaa.Svc
open Go.RowKit Go.Proofs.YtngoenbdimlppaaW.PrintWords Go.Proofs.YtngoenbdimlppaaW.PrintLast Go.Proofs.YtngoenbdimlppaaW.PrintMore
open Go.Proofs.Ytngoenbdimlppaa.All (S25 k25 rd_T25 at_T25 S76 k76)
attribute [local go_sem high] eqA43
set_option linter.unusedVariables false
set_option linter.unusedSimpArgs false
set_option maxRecDepth 100000

theorem stop_cases (F : FV) (s : MS) (t : Int) (hi : Inv s) (hd : Due0 s) (ht : 0 ≤ t) (ht' : t ≤ 9223372036854775807) :
    stopV F s t = (⟨false, false, false, 1⟩, ⟨1, false, 9223372036854775807, false⟩) ∨
      ∃ ki due, stopV F s t = (⟨false, ki, false, 0⟩, ⟨4, true, due, false⟩) ∧ 0 ≤ due ∧ due ≤ 9223372036854775807 := by
  have hd' := due0_stop F s t hd ht ht'
  unfold stopV at hd' ⊢
  by_cases c4 : s.st = 4
  · rw [if_pos c4] at hd' ⊢
    have hr := hi.r4 c4
    obtain ⟨st, rn, due, la⟩ := s
    simp only at c4 hr
    subst c4 hr
    exact .inr ⟨_, _, rfl, hd'.1, hd'.2⟩
  rw [if_neg c4] at hd' ⊢
  cases hr : s.runs
  · rw [hr, if_neg (by decide)] at hd' 
    rw [if_neg (by decide)]
    exact .inl (by simp [toS, hr])
  · rw [hr, if_pos rfl] at hd'
    rw [if_pos rfl]
    exact .inr ⟨true, later t F.dn, by unfold killS; rw [hr], hd'.1, hd'.2⟩
theorem exit_gone (g : Nat) (F : FV) (due code now : Int) (w : World) (h : MB w g F ⟨4, true, due, false⟩) (hn : R64 now) (hd : R64 F.agn) :
    Calls Try.prog 12 #[.pointer (some ⟨g, 0, none⟩), .int .i64 code, .int .i64 now] w fun e w' => e = .returned (.agg #[.bool false, .bool false, .bool false, .int .u8 1]) ∧ MB w' g F ⟨1, false, 9223372036854775807, false⟩ ∧ Stp g w w' := by
  have := exit_calls g F _ code now w h hn hd (fun _ => .inr (.inr rfl))
  have e : exitV F ⟨4, true, due, false⟩ code now = (⟨false, false, false, 1⟩, ⟨1, false, 9223372036854775807, false⟩) := by simp [exitV, goneV, toS]
  rw [e] at this; exact this
theorem tick_gone (g : Nat) (F : FV) (due : Int) (w : World) (h : MB w g F ⟨4, true, due, false⟩) (hn : R64 due) (hd : R64 F.dn) (hne : due ≠ 9223372036854775807) :
    Calls Try.prog 13 #[.pointer (some ⟨g, 0, none⟩), .int .i64 due] w fun e w' => e = .returned (.agg #[.bool false, .bool true, .bool false, .int .u8 5]) ∧ MB w' g F ⟨5, false, 9223372036854775807, false⟩ ∧ Stp g w w' := by
  have := tick_calls g F _ due w h hn hd (fun _ => .inr (.inr (.inl rfl)))
  have e : tickV F ⟨4, true, due, false⟩ due = (⟨false, true, false, 5⟩, ⟨5, false, 9223372036854775807, false⟩) := by
    unfold tickV
    rw [if_neg hne, if_neg (by simp)]
    simp [lostV]
  rw [e] at this; exact this
theorem blk_new2 (w : World) (o1 o2 : Obj) : ((w.alloc o1).alloc o2).heap[w.heap.size + 1]? = some o2 := by
  have := blk_new (w.alloc o1) o2
  rwa [World.size_alloc] at this
theorem ne2 {w : World} {g : Nat} {F : FV} {s : MS} (h : MB w g F s) : g ≠ w.heap.size + 1 := by have := h.lt; omega
theorem one4 (a b c : Bool) (d : Int) : (#[.bool a, .bool b, .bool c, .int .u8 d] : Array Value).all (·.oneCell') = true := by
  simp [Value.oneCell']
theorem mb_stp {w w' : World} {g b : Nat} {F : FV} {s : MS} (h : MB w g F s) (k : Stp b w w') (hn : g ≠ b) : MB w' g F s := k.blk h hn
theorem inv_1 : Inv ⟨1, false, 9223372036854775807, false⟩ := ⟨by simp, by simp, by simp, by simp, by simp, by simp⟩
theorem inv_5 : Inv ⟨5, false, 9223372036854775807, false⟩ := ⟨by simp, by simp, by simp, by simp, by simp, by simp⟩

set_option maxHeartbeats 8000000 in
theorem stops_calls (F : FV) (A : Option Addr) (c0 : Nat) (l : List S25) (ex : Bool) (code : Int) (w : World) (hF : FileIn w F) (hl : Kd.C k25 w A l.length l) (hc : l.length ≤ c0) (hfit : ∀ x ∈ l, Fit25 x) (hlen : l.length ≤ 9223372036854775807) :
    Calls Try.prog 6 #[.agg (fc F), .slice A l.length c0, .bool ex, .int .i64 code] w fun e w' => e = .returned (.bool true) ∧ Below w.heap.size w w' := by
  have hu36 := Try.underlying36
  have hu43 := Try.underlying43
  have HFI := Lib.hid hF
  have HF := Lib.hid hF.ok
  have HL := Lib.hid hl
  have HT := Lib.hid hfit
  clear hF hl hfit
  by_cases c1 : 60 < l.length
  · have b1 : decide ((60 : Int) < (l.length : Int)) = true := decide_eq_true (by omega)
    clear c1
    go_enter Try.func6, Try.ntmps6
    go_wp2_with (first
      | ((with_reducible refine gate_dst (N := 4) rfl ?_); refine box_event ?hg (N := 4) ?hd (cs := fc F) (t := 36) ?hr ?_; (case hd => rfl); (case hg => rfl); (case hr => first | (go_simp; done) | (go_simp; rfl)); intro g1 e1 w1 h1 b1; have H1 := Lib.hid h1; have B1 := Lib.hid b1; clear e1 h1 b1)
      | (go_at_call 18; ((with_reducible refine (works_calls _).mono ?_); rintro e ww ⟨rfl, bw⟩); have BW := Lib.hid bw; clear bw))
    go_ret
    exact ⟨rfl, B1.out.trans (BW.out.mono B1.out.size)⟩
  have b1 : decide ((60 : Int) < (l.length : Int)) = false := decide_eq_false (by omega)
  by_cases cr : Ready F
  case neg =>
    have HR := Lib.hid (decide_eq_false cr)
    clear c1 cr
    go_enter Try.func6, Try.ntmps6
    go_wp2_with (first
      | ((with_reducible refine gate_dst (N := 4) rfl ?_); refine box_event ?hg (N := 4) ?hd (cs := fc F) (t := 36) ?hr ?_; (case hd => rfl); (case hg => rfl); (case hr => first | (go_simp; done) | (go_simp; rfl)); intro g1 e1 w1 h1 b1; have H1 := Lib.hid h1; have B1 := Lib.hid b1; clear e1 h1 b1)
      | ((with_reducible refine gate_dst (N := 20) rfl ?_); refine wpList_load_if rfl 36 _ rfl g1 0 rfl (fc F).toList _ (range_blk H1.out) hu36 rfl (by kernel_rfl) ?_)
      | (go_at_call 19; ((with_reducible refine (ready_calls F _).mono ?_); rw [HR.out]; rintro e w2 ⟨rfl, b2⟩); have B2 := Lib.hid b2; clear b2)
      | (go_at_call 18; ((with_reducible refine (works_calls _).mono ?_); rintro e ww ⟨rfl, bw⟩); have BW := Lib.hid bw; clear bw))
    go_ret
    exact ⟨rfl, (B1.out.trans (B2.out.mono B1.out.size)).trans (BW.out.mono (Nat.le_trans B1.out.size B2.out.size))⟩
  have HR := Lib.hid (decide_eq_true cr)
  clear cr
  have hl60 : l.length ≤ 60 := by omega
  clear c1
  go_enter Try.func6, Try.ntmps6
  go_wp2_with (first
    | ((with_reducible refine gate_dst (N := 4) rfl ?_); refine box_event ?hg (N := 4) ?hd (cs := fc F) (t := 36) ?hr ?_; (case hd => rfl); (case hg => rfl); (case hr => first | (go_simp; done) | (go_simp; rfl)); intro g1 e1 w1 h1 b1; have H1 := Lib.hid h1; have B1 := Lib.hid b1; clear e1 h1 b1)
    | ((with_reducible refine gate_dst (N := 20) rfl ?_); refine wpList_load_if rfl 36 _ rfl g1 0 rfl (fc F).toList _ (range_blk H1.out) hu36 rfl (by kernel_rfl) ?_)
    | (go_at_call 19; ((with_reducible refine (ready_calls F _).mono ?_); rw [HR.out]; rintro e w2 ⟨rfl, b2⟩); have H2 := Lib.hid (blk_below H1.out b2); have B2 := Lib.hid (B1.out.trans (b2.mono B1.out.size)); clear b2)
    | ((with_reducible refine gate_dst (N := 25) rfl ?_); refine wpList_load_mid rfl 36 _ rfl g1 0 rfl (fc F).toList _ (range_blk H2.out) hu36 rfl (by kernel_rfl) ?_)
    | (go_at_call 20; ((with_reducible refine (new_calls F _).mono ?_); rintro e w3 ⟨g, rfl, hg, hm3, b3⟩); have H3 := Lib.hid (blk_below H2.out b3); have HG := Lib.hid (Nat.le_trans B2.out.size hg); have HM3 := Lib.hid hm3; have B3 := Lib.hid (B2.out.trans (b3.mono B2.out.size)); clear hg hm3 b3)
    | ((with_reducible refine gate_dst (N := 27) rfl ?_); refine wpList_load_mid rfl 36 _ rfl g1 0 rfl (fc F).toList _ (range_blk H3.out) hu36 rfl (by kernel_rfl) ?_)
    | (go_at_call 22; ((with_reducible refine (HFI.out.plain B3.out).mono ?_); rintro e w4 ⟨z, rfl, b4⟩); have HM4 := Lib.hid (HM3.out.below b4); have B4 := Lib.hid (B3.out.trans (b4.mono B3.out.size)); clear b4)
    | (go_at_call 21; ((with_reducible refine (rnew_calls (ff F z) _).mono ?_); rintro e w5 ⟨g2, rfl, hg2, hr5, b5⟩); have HM5 := Lib.hid (HM4.out.below b5); have HR5 := Lib.hid hr5; have HG2 := Lib.hid (Nat.le_trans B4.out.size hg2); have HNE := Lib.hid (Nat.ne_of_lt (Nat.lt_of_lt_of_le HM4.out.lt hg2)); have B5 := Lib.hid (B4.out.trans (b5.mono B4.out.size)); clear hr5 b5 hg2))
  go_loopw [11, 12] (fun nw i wr => ∃ (k : Nat) (t : Int) (s : MS), k ≤ l.length ∧ 0 ≤ t ∧ t ≤ k * 4294967295 ∧ nw = .int .i64 t ∧ i = .int .i64 k ∧ MB wr g F s ∧ RB wr g2 (ff F z) s ∧ Inv s ∧ Due0 s ∧ Below w.heap.size w wr)
    (fun _ i _ => l.length - (intOf i).toNat)
  case atStart => exact ⟨0, 0, newS, Nat.zero_le _, by omega, by omega, rfl, rfl, HM5.out, HR5.out, inv_new, due0_inf _ _ _, B5.out⟩
  case round =>
    obtain ⟨k, t, s, hk, ht0, htk, rfl, rfl, hm, hr, hi, hd0, hB⟩ := hrel
    have hlt0 := hm.lt
    have HM := Lib.hid hm
    have HRR := Lib.hid hr
    have HI := Lib.hid hi
    have HD := Lib.hid hd0
    have HB := Lib.hid hB
    have hge : w.heap.size ≤ wr.heap.size := hB.size
    clear hm hr hi hB hd0
    by_cases hlt : k < l.length
    · have hlb : decide ((k : Int) < (l.length : Int)) = true := decide_eq_true (by omega)
      obtain ⟨ad, rfl, x0, x1, x2, xb⟩ := call_cells HL.out HB.out k hlt
      have hf := rd_fit HT.out k hlt
      obtain ⟨kd, hkd⟩ : ∃ kd, kd = (rd_T25 l k).f0 := ⟨_, rfl⟩
      obtain ⟨cd, hcd⟩ : ∃ cd, cd = (rd_T25 l k).f1 := ⟨_, rfl⟩
      obtain ⟨lt, hlt'⟩ : ∃ lt, lt = (rd_T25 l k).f2 := ⟨_, rfl⟩
      rw [← hkd] at x0; rw [← hcd] at x1; rw [← hlt'] at x2
      unfold Fit25 at hf
      rw [← hkd, ← hlt'] at hf
      obtain ⟨f1, f2, f3, f4⟩ := hf
      have ht1 : t ≤ 257698037700 := by omega
      have htl : t + lt ≤ (k + 1 : Nat) * 4294967295 := by omega
      have htl0 : 0 ≤ t + lt := by omega
      have htl1 : t + lt ≤ 9223372036854775807 := by omega
      have HTL := Lib.hid htl
      have HR64 := Lib.hid (show R64 (t + lt) from ⟨by omega, by omega⟩)
      have HLT := Lib.hid hlt
      clear hkd hcd hlt' htk htl
      go_wp2_with (first
        | (go_at_call 23; ((with_reducible refine (call_calls w.heap.size g g2 F z s kd cd lt (t + lt) _ HM.out HRR.out HNE.out HI.out HF.out HR64.out f1 f2 HG.out HG2.out).mono ?_); rintro e w6 ⟨rfl, hm6, hr6, b6⟩); have HM6 := Lib.hid hm6; have HR6 := Lib.hid hr6; have B6 := Lib.hid b6; clear hm6 hr6 b6))
      go_roundw
      case rel => exact ⟨k + 1, t + lt, _, HLT.out, htl0, HTL.out, by go_num, by go_num, HM6.out, HR6.out, inv_call F s kd cd (t + lt) HI.out, due0_call F s kd cd (t + lt) HD.out htl0 htl1, HB.out.trans B6.out⟩
      case measure => have := HLT.out; simp [intOf]; omega
    · have hlb : decide ((k : Int) < (l.length : Int)) = false := decide_eq_false (by omega)
      have ht1 : t ≤ 257698037700 := by omega
      have ht2 : t ≤ 9223372036854775807 := by omega
      have HR64 := Lib.hid (show R64 t from ⟨by omega, by omega⟩)
      have HR1 := Lib.hid (show R64 (t - 1) from ⟨by omega, by omega⟩)
      clear HRR
      have hsc := stop_cases F s t HI.out HD.out ht0 ht2
      have hcs := fun (W : World) (hw : MB W g F s) => stop_calls g F s t W hw HR64.out HF.out.dn
      have HBIG := Lib.hid (show R64 4611686018427387904 from ⟨by decide, by decide⟩)
      rcases hsc with hsc | ⟨ki, due, hsc, hd1, hd2⟩
      all_goals rw [hsc] at hcs; clear hsc; have HCS := Lib.hid hcs; clear hcs
      · skip
        go_wp2_with (first
          | (go_at_call 11; ((with_reducible refine (HCS.out _ HM.out).mono ?_); rintro e wa ⟨rfl, hma, hsa⟩); have HM1 := Lib.hid hma; have HS1 := Lib.hid hsa; clear hma hsa)
          | (go_at_call 14; ((with_reducible refine (state_calls g F _ _ (HM1.out.alloc _)).mono ?_); rintro e w' ⟨rfl, rfl⟩))
          | (go_at_call 16; ((with_reducible refine (running_calls g F _ _ (HM1.out.alloc _)).mono ?_); rintro e w' ⟨rfl, rfl⟩))
          | (go_at_call 15; ((with_reducible refine (due_calls g F _ _ (HM1.out.alloc _)).mono ?_); rintro e w' ⟨rfl, rfl⟩))
          | (go_at_call 18; ((with_reducible refine (works_calls _).mono ?_); rintro e ww ⟨rfl, bw⟩); have BW := Lib.hid bw; clear bw))
        go_ret
        have e1 := HB.out.trans ((HS1.out.below HG.out hge).alloc (Nat.le_trans hge HS1.out.size) (.cells #[.bool false, .bool false, .bool false, .int .u8 1] 43))
        exact ⟨rfl, e1.trans (BW.out.mono e1.size)⟩
      cases ex
      · have HRD := Lib.hid (show R64 due from ⟨by omega, hd2⟩)
        clear hd1
        by_cases ci : due = 9223372036854775807
        · have bi : (due == 9223372036854775807) = true := by simpa using ci
          clear ci hd2
          go_wp2_with (first
            | (go_at_call 11; ((with_reducible refine (HCS.out _ HM.out).mono ?_); rintro e wa ⟨rfl, hma, hsa⟩); have HM1 := Lib.hid hma; have HS1 := Lib.hid hsa; clear hma hsa)
            | (go_at_call 14; ((with_reducible refine (state_calls g F _ _ (HM1.out.alloc _)).mono ?_); rintro e w' ⟨rfl, rfl⟩))
            | (go_at_call 16; ((with_reducible refine (running_calls g F _ _ (HM1.out.alloc _)).mono ?_); rintro e w' ⟨rfl, rfl⟩))
            | (go_at_call 15; ((with_reducible refine (due_calls g F _ _ ((HM1.out.alloc _).alloc _)).mono ?_); rintro e w' ⟨rfl, rfl⟩))
            | (go_at_call 18; ((with_reducible refine (works_calls _).mono ?_); rintro e ww ⟨rfl, bw⟩); have BW := Lib.hid bw; clear bw))
          go_ret
          have e1 := HB.out.trans ((HS1.out.below HG.out hge).alloc (Nat.le_trans hge HS1.out.size) (.cells #[.bool false, .bool ki, .bool false, .int .u8 0] 43))
          have e2 := e1.alloc e1.size (.cells #[.bool false, .bool false, .bool false, .int .u8 0] 43)
          exact ⟨rfl, e2.trans (BW.out.mono e2.size)⟩
        have bi : (due == 9223372036854775807) = false := by simpa using ci
        have HNE2 := Lib.hid ci
        clear ci hd2
        go_wp2_with (first
          | (go_at_call 11; ((with_reducible refine (HCS.out _ HM.out).mono ?_); rintro e wa ⟨rfl, hma, hsa⟩); have HM1 := Lib.hid hma; have HS1 := Lib.hid hsa; clear hma hsa)
          | (go_at_call 13; ((with_reducible refine (tick_gone g F due _ ((HM1.out.alloc _).alloc _) HRD.out HF.out.dn HNE2.out).mono ?_); rintro e w3 ⟨rfl, hm3, hs3⟩); have HB3 := Lib.hid (hs3.blk (blk_new2 wa _ _) (Ne.symm (ne2 HM1.out))); have HN3 := Lib.hid (ne2 HM1.out); have HM3 := Lib.hid hm3; have HS3 := Lib.hid hs3; clear hm3 hs3)
          | ((with_reducible refine gate_store (t := 43) (p := 15) rfl ?_); refine wpList_store_all rfl 43 _ _ rfl _ #[.bool false, .bool false, .bool false, .int .u8 0] #[.bool false, .bool true, .bool false, .int .u8 5] 43 rfl rfl HB3.out rfl (by kernel_rfl) (one4 _ _ _ _) ?_; intro w4 h4 s4; have H4 := Lib.hid h4; have S4 := Lib.hid s4; have HM4 := Lib.hid (mb_stp HM3.out s4 HN3.out); clear h4 s4)
          | ((with_reducible refine gate_dst (N := 120) rfl ?_); refine wpList_load_if rfl 43 _ rfl _ 0 rfl (#[.bool false, .bool true, .bool false, .int .u8 5] : Array Value).toList _ (range_blk H4.out) hu43 rfl (by kernel_rfl) ?_)
          | (go_at_call 13; ((with_reducible refine (tick_no g F _ 4611686018427387904 _ HM4.out HBIG.out HF.out.dn inv_5 (.inl rfl)).mono ?_); rintro e w5 ⟨rfl, hm5, hs5⟩); have HS5 := Lib.hid hs5; clear hm5 hs5)
          | (go_at_call 14; ((with_reducible refine (state_calls g F _ _ (HM1.out.alloc _)).mono ?_); rintro e w' ⟨rfl, rfl⟩))
          | (go_at_call 14; ((with_reducible refine (state_calls g F _ _ HM4.out).mono ?_); rintro e w' ⟨rfl, rfl⟩))
          | (go_at_call 16; ((with_reducible refine (running_calls g F _ _ (HM1.out.alloc _)).mono ?_); rintro e w' ⟨rfl, rfl⟩))
          | (go_at_call 16; ((with_reducible refine (running_calls g F _ _ HM4.out).mono ?_); rintro e w' ⟨rfl, rfl⟩))
          | (go_at_call 15; ((with_reducible refine (due_calls g F _ _ ((HM1.out.alloc _).alloc _)).mono ?_); rintro e w' ⟨rfl, rfl⟩))
          | (go_at_call 15; ((with_reducible refine (due_calls g F _ _ HM4.out).mono ?_); rintro e w' ⟨rfl, rfl⟩))
          | (go_at_call 18; ((with_reducible refine (works_calls _).mono ?_); rintro e ww ⟨rfl, bw⟩); have BW := Lib.hid bw; clear bw))
        go_ret
        have e1 := HB.out.trans ((HS1.out.below HG.out hge).alloc (Nat.le_trans hge HS1.out.size) (.cells #[.bool false, .bool ki, .bool false, .int .u8 0] 43))
        have e2 := e1.alloc e1.size (.cells #[.bool false, .bool false, .bool false, .int .u8 0] 43)
        have e3 := e2.trans (HS3.out.below HG.out e2.size)
        have e4 := e3.trans (S4.out.below (Nat.le_trans hge (Nat.le_trans HS1.out.size (Nat.le_succ _))) e3.size)
        have e5 := e4.trans (HS5.out.below HG.out e4.size)
        exact ⟨rfl, e5.trans (BW.out.mono e5.size)⟩
      · clear hd1 hd2
        go_wp2_with (first
          | (go_at_call 11; ((with_reducible refine (HCS.out _ HM.out).mono ?_); rintro e wa ⟨rfl, hma, hsa⟩); have HM1 := Lib.hid hma; have HS1 := Lib.hid hsa; clear hma hsa)
          | (go_at_call 12; ((with_reducible refine (exit_gone g F due code t _ ((HM1.out.alloc _).alloc _) HR64.out HF.out.agn).mono ?_); rintro e w3 ⟨rfl, hm3, hs3⟩); have HB3 := Lib.hid (hs3.blk (blk_new2 wa _ _) (Ne.symm (ne2 HM1.out))); have HN3 := Lib.hid (ne2 HM1.out); have HM3 := Lib.hid hm3; have HS3 := Lib.hid hs3; clear hm3 hs3)
          | ((with_reducible refine gate_store (t := 43) (p := 15) rfl ?_); refine wpList_store_all rfl 43 _ _ rfl _ #[.bool false, .bool false, .bool false, .int .u8 0] #[.bool false, .bool false, .bool false, .int .u8 1] 43 rfl rfl HB3.out rfl (by kernel_rfl) (one4 _ _ _ _) ?_; intro w4 h4 s4; have H4 := Lib.hid h4; have S4 := Lib.hid s4; have HM4 := Lib.hid (mb_stp HM3.out s4 HN3.out); clear h4 s4)
          | ((with_reducible refine gate_dst (N := 107) rfl ?_); refine wpList_load_if rfl 43 _ rfl _ 0 rfl (#[.bool false, .bool false, .bool false, .int .u8 1] : Array Value).toList _ (range_blk H4.out) hu43 rfl (by kernel_rfl) ?_)
          | (go_at_call 13; ((with_reducible refine (tick_no g F _ 4611686018427387904 _ HM4.out HBIG.out HF.out.dn inv_1 (.inl rfl)).mono ?_); rintro e w5 ⟨rfl, hm5, hs5⟩); have HS5 := Lib.hid hs5; clear hm5 hs5)
          | (go_at_call 14; ((with_reducible refine (state_calls g F _ _ (HM1.out.alloc _)).mono ?_); rintro e w' ⟨rfl, rfl⟩))
          | (go_at_call 14; ((with_reducible refine (state_calls g F _ _ HM4.out).mono ?_); rintro e w' ⟨rfl, rfl⟩))
          | (go_at_call 16; ((with_reducible refine (running_calls g F _ _ (HM1.out.alloc _)).mono ?_); rintro e w' ⟨rfl, rfl⟩))
          | (go_at_call 16; ((with_reducible refine (running_calls g F _ _ HM4.out).mono ?_); rintro e w' ⟨rfl, rfl⟩))
          | (go_at_call 15; ((with_reducible refine (due_calls g F _ _ ((HM1.out.alloc _).alloc _)).mono ?_); rintro e w' ⟨rfl, rfl⟩))
          | (go_at_call 15; ((with_reducible refine (due_calls g F _ _ HM4.out).mono ?_); rintro e w' ⟨rfl, rfl⟩))
          | (go_at_call 18; ((with_reducible refine (works_calls _).mono ?_); rintro e ww ⟨rfl, bw⟩); have BW := Lib.hid bw; clear bw))
        go_ret
        have e1 := HB.out.trans ((HS1.out.below HG.out hge).alloc (Nat.le_trans hge HS1.out.size) (.cells #[.bool false, .bool ki, .bool false, .int .u8 0] 43))
        have e2 := e1.alloc e1.size (.cells #[.bool false, .bool false, .bool false, .int .u8 0] 43)
        have e3 := e2.trans (HS3.out.below HG.out e2.size)
        have e4 := e3.trans (S4.out.below (Nat.le_trans hge (Nat.le_trans HS1.out.size (Nat.le_succ _))) e3.size)
        have e5 := e4.trans (HS5.out.below HG.out e4.size)
        exact ⟨rfl, e5.trans (BW.out.mono e5.size)⟩
end Go.Proofs.Ytngoenbdimlppaa.Svc
