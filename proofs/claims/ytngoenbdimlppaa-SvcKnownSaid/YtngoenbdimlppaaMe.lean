/- The walk of the law SvcEarly. -/
import Derived.Test.YtngoenbdimlppaaMd
namespace Go.Proofs.Ytngoenbdimlppaa.Svc
open Go.RowKit Go.Proofs.YtngoenbdimlppaaW.PrintWords Go.Proofs.YtngoenbdimlppaaW.PrintLast Go.Proofs.YtngoenbdimlppaaW.PrintMore
open Go.Proofs.Ytngoenbdimlppaa.All (S25 k25 rd_T25 at_T25)
attribute [local go_sem high] eqA43
set_option linter.unusedVariables false
set_option linter.unusedSimpArgs false
set_option maxRecDepth 100000

/-- A deadline is a time, or none. -/
def Due0 (s : MS) : Prop := 0 ≤ s.due ∧ s.due ≤ 9223372036854775807
theorem later_ge (t sp : Int) (h : 0 ≤ t) (h' : t ≤ 9223372036854775807) : t ≤ later t sp ∧ later t sp ≤ 9223372036854775807 := by
  unfold later INF
  split <;> (repeat' split) <;> omega
theorem due0_inf (st : Int) (r la : Bool) : Due0 ⟨st, r, 9223372036854775807, la⟩ := ⟨by simp, by simp⟩
theorem due0_later (st : Int) (r la : Bool) (t sp : Int) (h : 0 ≤ t) (h' : t ≤ 9223372036854775807) : Due0 ⟨st, r, later t sp, la⟩ := by
  have := later_ge t sp h h'
  exact ⟨by simp only []; omega, this.2⟩
theorem due0_end (F : FV) (s : MS) (code t : Int) (h : 0 ≤ t) (h' : t ≤ 9223372036854775807) : Due0 (endS F s code t) := by
  unfold endS
  split
  · exact due0_later _ _ _ _ _ h h'
  · exact due0_inf _ _ _
theorem due0_start (F : FV) (s : MS) (t : Int) (hs : Due0 s) (h : 0 ≤ t) (h' : t ≤ 9223372036854775807) : Due0 (startV F s t).2 := by
  unfold startV beginV toS
  repeat' split
  all_goals first | exact hs | exact due0_inf _ _ _ | exact due0_later _ _ _ _ _ h h' | exact ⟨h, h'⟩
theorem due0_stop (F : FV) (s : MS) (t : Int) (hs : Due0 s) (h : 0 ≤ t) (h' : t ≤ 9223372036854775807) : Due0 (stopV F s t).2 := by
  unfold stopV toS killS
  repeat' split
  all_goals first | exact hs | exact due0_inf _ _ _ | exact due0_later _ _ _ _ _ h h'
theorem due0_exit (F : FV) (s : MS) (code t : Int) (hs : Due0 s) (h : 0 ≤ t) (h' : t ≤ 9223372036854775807) : Due0 (exitV F s code t).2 := by
  unfold exitV failsV goneV toS
  repeat' split
  all_goals first | exact hs | exact due0_inf _ _ _ | exact due0_end _ _ _ _ h h'
theorem due0_tick (F : FV) (s : MS) (t : Int) (hs : Due0 s) (h : 0 ≤ t) (h' : t ≤ 9223372036854775807) : Due0 (tickV F s t).2 := by
  unfold tickV begunV lostV toS
  repeat' split
  all_goals first | exact hs | exact due0_inf _ _ _ | exact due0_later _ _ _ _ _ h h'
theorem tick_zero (F : FV) (s : MS) (now : Int) (h : s.due = 9223372036854775807 ∨ now < s.due) : tickV F s now = (⟨false, false, false, 0⟩, s) := by
  unfold tickV
  split
  · rfl
  · rw [if_pos (by omega)]
theorem tick_no (g : Nat) (F : FV) (s : MS) (now : Int) (w : World) (h : MB w g F s) (hn : R64 now) (hd : R64 F.dn) (hi : Inv s) (hz : s.due = 9223372036854775807 ∨ now < s.due) :
    Calls Try.prog 13 #[.pointer (some ⟨g, 0, none⟩), .int .i64 now] w fun e w' => e = .returned (.agg #[.bool false, .bool false, .bool false, .int .u8 0]) ∧ MB w' g F s ∧ Stp g w w' := by
  have := tick_calls g F s now w h hn hd (inv_due s hi)
  rw [tick_zero F s now hz] at this; exact this
/-- What a Tick at the deadline comes to. -/
theorem tick_at (F : FV) (s : MS) (hi : Inv s) (hs : Due0 s) (hd : s.due ≠ 9223372036854775807) :
    (((tickV F s s.due).1 = ⟨false, false, false, 1⟩ ∧ (tickV F s s.due).2.st ≠ s.st) ∨ (∃ re, (tickV F s s.due).1 = ⟨false, true, false, re⟩ ∧ (tickV F s s.due).2.st ≠ s.st) ∨
      ((tickV F s s.due).1 = ⟨false, false, true, 0⟩ ∧ (tickV F s s.due).2.st = s.st)) ∧ s.due ≤ (tickV F s s.due).2.due := by
  unfold tickV
  rw [if_neg hd, if_neg (by omega)]
  split
  · rename_i h2
    unfold begunV toS
    split
    · exact ⟨.inl ⟨rfl, by simp; omega⟩, hs.2⟩
    · exact ⟨.inr (.inl ⟨5, rfl, by simp; omega⟩), (later_ge _ _ hs.1 hs.2).1⟩
  · split
    · unfold lostV
      exact ⟨.inr (.inl ⟨_, rfl, by simp; omega⟩), hs.2⟩
    · exact ⟨.inr (.inr ⟨rfl, rfl⟩), hs.2⟩

set_option maxHeartbeats 4000000 in
theorem early_calls (F : FV) (A : Option Addr) (c0 : Nat) (l : List S25) (ah : Int) (w : World) (hF : FileOK F) (hl : Kd.C k25 w A l.length l) (hc : l.length ≤ c0) (hfit : ∀ x ∈ l, Fit25 x) (hlen : l.length ≤ 9223372036854775807) (ha0 : 0 ≤ ah) (ha1 : ah ≤ 4294967295) :
    Calls Try.prog 4 #[.agg (fc F), .slice A l.length c0, .int .u32 ah] w fun e w' => e = .returned (.bool true) ∧ Below w.heap.size w w' := by
  have hu36 := Try.underlying36
  have hu43 := Try.underlying43
  have HF := Lib.hid hF
  have HL := Lib.hid hl
  have HT := Lib.hid hfit
  clear hF hl hfit
  by_cases c1 : 100 < l.length
  · have b1 : decide ((100 : Int) < (l.length : Int)) = true := decide_eq_true (by omega)
    clear c1
    go_enter Try.func4, Try.ntmps4
    go_wp2_with (first
      | ((with_reducible refine gate_dst (N := 3) rfl ?_); refine box_event ?hg (N := 3) ?hd (cs := fc F) (t := 36) ?hr ?_; (case hd => rfl); (case hg => rfl); (case hr => first | (go_simp; done) | (go_simp; rfl)); intro g1 e1 w1 h1 b1; have H1 := Lib.hid h1; have B1 := Lib.hid b1; clear e1 h1 b1)
      | (go_at_call 18; ((with_reducible refine (works_calls _).mono ?_); rintro e ww ⟨rfl, bw⟩); have BW := Lib.hid bw; clear bw))
    go_ret
    exact ⟨rfl, B1.out.trans (BW.out.mono B1.out.size)⟩
  have b1 : decide ((100 : Int) < (l.length : Int)) = false := decide_eq_false (by omega)
  by_cases cr : Ready F
  case neg =>
    have HR := Lib.hid (decide_eq_false cr)
    clear c1 cr
    go_enter Try.func4, Try.ntmps4
    go_wp2_with (first
      | ((with_reducible refine gate_dst (N := 3) rfl ?_); refine box_event ?hg (N := 3) ?hd (cs := fc F) (t := 36) ?hr ?_; (case hd => rfl); (case hg => rfl); (case hr => first | (go_simp; done) | (go_simp; rfl)); intro g1 e1 w1 h1 b1; have H1 := Lib.hid h1; have B1 := Lib.hid b1; clear e1 h1 b1)
      | ((with_reducible refine gate_dst (N := 19) rfl ?_); refine wpList_load_if rfl 36 _ rfl g1 0 rfl (fc F).toList _ (range_blk H1.out) hu36 rfl (by kernel_rfl) ?_)
      | (go_at_call 19; ((with_reducible refine (ready_calls F _).mono ?_); rw [HR.out]; rintro e w2 ⟨rfl, b2⟩); have B2 := Lib.hid b2; clear b2)
      | (go_at_call 18; ((with_reducible refine (works_calls _).mono ?_); rintro e ww ⟨rfl, bw⟩); have BW := Lib.hid bw; clear bw))
    go_ret
    exact ⟨rfl, (B1.out.trans (B2.out.mono B1.out.size)).trans (BW.out.mono (Nat.le_trans B1.out.size B2.out.size))⟩
  have HR := Lib.hid (decide_eq_true cr)
  clear cr
  have hl100 : l.length ≤ 100 := by omega
  clear c1
  go_enter Try.func4, Try.ntmps4
  go_wp2_with (first
    | ((with_reducible refine gate_dst (N := 3) rfl ?_); refine box_event ?hg (N := 3) ?hd (cs := fc F) (t := 36) ?hr ?_; (case hd => rfl); (case hg => rfl); (case hr => first | (go_simp; done) | (go_simp; rfl)); intro g1 e1 w1 h1 b1; have H1 := Lib.hid h1; have B1 := Lib.hid b1; clear e1 h1 b1)
    | ((with_reducible refine gate_dst (N := 19) rfl ?_); refine wpList_load_if rfl 36 _ rfl g1 0 rfl (fc F).toList _ (range_blk H1.out) hu36 rfl (by kernel_rfl) ?_)
    | (go_at_call 19; ((with_reducible refine (ready_calls F _).mono ?_); rw [HR.out]; rintro e w2 ⟨rfl, b2⟩); have H2 := Lib.hid (blk_below H1.out b2); have B2 := Lib.hid (B1.out.trans (b2.mono B1.out.size)); clear b2)
    | ((with_reducible refine gate_dst (N := 24) rfl ?_); refine wpList_load_mid rfl 36 _ rfl g1 0 rfl (fc F).toList _ (range_blk H2.out) hu36 rfl (by kernel_rfl) ?_)
    | (go_at_call 20; ((with_reducible refine (new_calls F _).mono ?_); rintro e w3 ⟨g, rfl, hg, hm3, b3⟩); have HG := Lib.hid (Nat.le_trans B2.out.size hg); have HM3 := Lib.hid hm3; have B3 := Lib.hid (B2.out.trans (b3.mono B2.out.size)); clear hg hm3 b3))
  go_loopw [8, 9] (fun nw i wr => ∃ (k : Nat) (t : Int) (s : MS), k ≤ l.length ∧ 0 ≤ t ∧ t ≤ k * 4294967295 ∧ nw = .int .i64 t ∧ i = .int .i64 k ∧ MB wr g F s ∧ Inv s ∧ Due0 s ∧ Below w.heap.size w wr)
    (fun _ i _ => l.length - (intOf i).toNat)
  case atStart => exact ⟨0, 0, newS, Nat.zero_le _, by omega, by omega, rfl, rfl, HM3.out, inv_new, due0_inf _ _ _, B3.out⟩
  case round =>
    obtain ⟨k, t, s, hk, ht0, htk, rfl, rfl, hm, hi, hd0, hB⟩ := hrel
    have hlt0 := hm.lt
    have HM := Lib.hid hm
    have HI := Lib.hid hi
    have HD := Lib.hid hd0
    have HB := Lib.hid hB
    clear hm hi hB hd0
    by_cases hlt : k < l.length
    · have hlb : decide ((k : Int) < (l.length : Int)) = true := decide_eq_true (by omega)
      obtain ⟨ad, rfl, x0, x1, x2, xb⟩ := call_cells HL.out HB.out k hlt
      have hf := rd_fit HT.out k hlt
      obtain ⟨kd, hkd⟩ : ∃ kd, kd = (rd_T25 l k).f0 := ⟨_, rfl⟩
      obtain ⟨cd, hcd⟩ : ∃ cd, cd = (rd_T25 l k).f1 := ⟨_, rfl⟩
      obtain ⟨lt, hlt'⟩ : ∃ lt, lt = (rd_T25 l k).f2 := ⟨_, rfl⟩
      rw [← hkd] at x0; rw [← hcd] at x1; rw [← hlt'] at x2
      unfold Fit25 at hf
      rw [← hkd, ← hlt'] at hf
      obtain ⟨f1, f2, f3, f4⟩ := hf
      have ht1 : t ≤ 429496729500 := by omega
      have htl : t + lt ≤ (k + 1 : Nat) * 4294967295 := by omega
      have htl0 : 0 ≤ t + lt := by omega
      have htl1 : t + lt ≤ 9223372036854775807 := by omega
      have hge : w.heap.size ≤ wr.heap.size := HB.out.size
      have HTL := Lib.hid htl
      have hR64 : R64 (t + lt) := ⟨by omega, by omega⟩
      have HR64 := Lib.hid hR64
      clear hkd hcd hlt' htk htl hR64
      have kdc : kd % 5 = 0 ∨ kd % 5 = 1 ∨ kd % 5 = 2 ∨ kd % 5 = 3 ∨ kd % 5 = 4 := by omega
      rcases kdc with h5 | h5 | h5 | h5 | h5
      · have kb0 : (kd % 5 == 0) = true := by simpa using h5
        have kb1 : (kd % 5 == 1) = false := by simp; omega
        have kb2 : (kd % 5 == 2) = false := by simp; omega
        have kb3 : (kd % 5 == 3) = false := by simp; omega
        clear h5
        have hcc := start_calls g F s (t + lt) _ HM.out HR64.out HF.out.up
        have hi5 := (inv_start F s (t + lt) HI.out).1
        have hd5 := due0_start F s (t + lt) HD.out htl0 htl1
        obtain ⟨er, her⟩ : ∃ er, er = (startV F s (t + lt)).1.2 := ⟨_, rfl⟩
        rw [← her] at hcc
        clear her
        obtain ⟨o, ho⟩ : ∃ o, o = (startV F s (t + lt)).1.1 := ⟨_, rfl⟩
        obtain ⟨s', hs'⟩ : ∃ s', s' = (startV F s (t + lt)).2 := ⟨_, rfl⟩
        rw [← ho, ← hs'] at hcc
        rw [← hs'] at hi5 hd5
        clear ho hs'
        have HC := Lib.hid hcc
        clear hcc
        have HI5 := Lib.hid hi5
        have HD5 := Lib.hid hd5
        by_cases ci : s'.due = 9223372036854775807
        · have bi : (s'.due == 9223372036854775807) = true := by simpa using ci
          have HZ := Lib.hid ci
          have nst : (s'.st != s'.st) = false := by simp
          have nrn : (s'.runs != s'.runs) = false := by simp
          clear ci hi5 hd5
          go_wp2_with (first
            | (go_at_call 10; ((with_reducible refine (HC.out).mono ?_); rintro e w5 ⟨rfl, hm5, hs5⟩); have HM5 := Lib.hid hm5; have HS5 := Lib.hid hs5; clear hm5 hs5)
            | (go_at_call 14; ((with_reducible refine (state_calls g F s' _ HM5.out).mono ?_); rintro e w' ⟨rfl, rfl⟩))
            | (go_at_call 15; ((with_reducible refine (due_calls g F s' _ HM5.out).mono ?_); rintro e w' ⟨rfl, rfl⟩))
            | (go_at_call 16; ((with_reducible refine (running_calls g F s' _ HM5.out).mono ?_); rintro e w' ⟨rfl, rfl⟩))
            | (go_at_call 13; ((with_reducible refine (tick_no g F s' _ _ HM5.out (r64 (by omega) (by omega)) HF.out.dn HI5.out (.inl HZ.out)).mono ?_); rintro e w6 ⟨rfl, hm6, hs6⟩); have HM6 := Lib.hid hm6; have HS6 := Lib.hid hs6; clear hm6 hs6)
            | (go_at_call 14; ((with_reducible refine (state_calls g F s' _ HM6.out).mono ?_); rintro e w' ⟨rfl, rfl⟩))
            | (go_at_call 15; ((with_reducible refine (due_calls g F s' _ HM6.out).mono ?_); rintro e w' ⟨rfl, rfl⟩))
            | (go_at_call 16; ((with_reducible refine (running_calls g F s' _ HM6.out).mono ?_); rintro e w' ⟨rfl, rfl⟩)))
          go_roundw
          case rel => exact ⟨k + 1, t + lt, s', by omega, htl0, HTL.out, by go_num, by go_num, HM6.out, HI5.out, HD5.out, HB.out.trans ((HS5.out.trans HS6.out).below HG.out hge)⟩
          case measure => simp [intOf]; omega
        have bi : (s'.due == 9223372036854775807) = false := by simpa using ci
        have hta := tick_at F s' hi5 hd5 ci
        have hcT := fun g' ww hm' => tick_calls g' F s' s'.due ww hm' ⟨by have := hd5.1; omega, hd5.2⟩ HF.out.dn (inv_due s' hi5)
        obtain ⟨o2, ho2⟩ : ∃ o2, o2 = (tickV F s' s'.due).1 := ⟨_, rfl⟩
        obtain ⟨s2, hs2⟩ : ∃ s2, s2 = (tickV F s' s'.due).2 := ⟨_, rfl⟩
        rw [← ho2, ← hs2] at hta
        rw [← ho2, ← hs2] at hcT
        clear ho2 hs2
        obtain ⟨hA, hdu⟩ := hta
        rcases hA with hA | hA | hA
        · obtain ⟨he, hst⟩ := hA
          rw [he] at hcT
          obtain ⟨st2, rn2, du2, la2⟩ := s2
          simp only at hdu hst
          have bst : (st2 == s'.st) = false := by simpa using hst
          have bdu : decide (du2 < s'.due) = false := decide_eq_false (by omega)
          have nst : (s'.st != s'.st) = false := by simp
          have nrn : (s'.runs != s'.runs) = false := by simp
          have ndu : (s'.due != s'.due) = false := by simp
          have hq1 := HD5.out.1
          have hq2 := HD5.out.2
          have HCT := Lib.hid hcT
          have HDU := Lib.hid hdu
          clear ci hi5 hd5 hst he hcT hdu
          go_wp2_with (first
            | (go_at_call 10; ((with_reducible refine (HC.out).mono ?_); rintro e w5 ⟨rfl, hm5, hs5⟩); have HM5 := Lib.hid hm5; have HS5 := Lib.hid hs5; clear hm5 hs5)
            | (go_at_call 13; ((with_reducible refine (HCT.out g' _ HM7.out).mono ?_); rintro e w8 ⟨rfl, hm8, hs8⟩); have HM8 := Lib.hid hm8; have HS8 := Lib.hid hs8; clear hm8 hs8)
            | (go_at_call 14; ((with_reducible refine (state_calls g' F _ _ (HM8.out.alloc _)).mono ?_); rintro e w' ⟨rfl, rfl⟩))
            | (go_at_call 15; ((with_reducible refine (due_calls g' F _ _ (HM8.out.alloc _)).mono ?_); rintro e w' ⟨rfl, rfl⟩))
            | (go_at_call 14; ((with_reducible refine (state_calls g F s' _ HM6.out).mono ?_); rintro e w' ⟨rfl, rfl⟩))
            | (go_at_call 15; ((with_reducible refine (due_calls g F s' _ HM6.out).mono ?_); rintro e w' ⟨rfl, rfl⟩))
            | (go_at_call 16; ((with_reducible refine (running_calls g F s' _ HM6.out).mono ?_); rintro e w' ⟨rfl, rfl⟩))
            | (go_at_call 14; ((with_reducible refine (state_calls g F s' _ HM5.out).mono ?_); rintro e w' ⟨rfl, rfl⟩))
            | (go_at_call 15; ((with_reducible refine (due_calls g F s' _ HM5.out).mono ?_); rintro e w' ⟨rfl, rfl⟩))
            | (go_at_call 16; ((with_reducible refine (running_calls g F s' _ HM5.out).mono ?_); rintro e w' ⟨rfl, rfl⟩))
            | (go_at_call 17; ((with_reducible refine (copy_calls g F s' _ HM6.out).mono ?_); rintro e w7 ⟨g', rfl, hg', hm7, b7⟩); have HM7 := Lib.hid hm7; have HB7 := Lib.hid b7; have HG7 := Lib.hid hg'; clear hm7 b7 hg')
            | (go_at_call 13; ((with_reducible refine (tick_no g F s' _ _ HM5.out (r64 (by omega) (by omega)) HF.out.dn HI5.out (.inr (by omega))).mono ?_); rintro e w6 ⟨rfl, hm6, hs6⟩); have HM6 := Lib.hid hm6; have HS6 := Lib.hid hs6; clear hm6 hs6))
          go_roundw
          case rel => exact ⟨k + 1, t + lt, s', by omega, htl0, HTL.out, by go_num, by go_num, ((HM6.out.below HB7.out).stp HS8.out (Nat.ne_of_lt (Nat.lt_of_lt_of_le HM6.out.lt HG7.out))).alloc _, HI5.out, HD5.out, HB.out.trans (((HS5.out.trans HS6.out).below HG.out hge).trans ((HB7.out.mono (Nat.le_trans hge (HS5.out.trans HS6.out).size)).trans ((HS8.out.below (Nat.le_trans (Nat.le_trans hge (HS5.out.trans HS6.out).size) HG7.out) (Nat.le_trans (Nat.le_trans hge (HS5.out.trans HS6.out).size) HB7.out.size)).alloc (Nat.le_trans (Nat.le_trans (Nat.le_trans hge (HS5.out.trans HS6.out).size) HB7.out.size) HS8.out.size) _)))⟩
          case measure => simp [intOf]; omega
        · obtain ⟨re, he, hst⟩ := hA
          rw [he] at hcT
          obtain ⟨st2, rn2, du2, la2⟩ := s2
          simp only at hdu hst
          have bst : (st2 == s'.st) = false := by simpa using hst
          have bdu : decide (du2 < s'.due) = false := decide_eq_false (by omega)
          have nst : (s'.st != s'.st) = false := by simp
          have nrn : (s'.runs != s'.runs) = false := by simp
          have ndu : (s'.due != s'.due) = false := by simp
          have hq1 := HD5.out.1
          have hq2 := HD5.out.2
          have HCT := Lib.hid hcT
          have HDU := Lib.hid hdu
          clear ci hi5 hd5 hst he hcT hdu
          go_wp2_with (first
            | (go_at_call 10; ((with_reducible refine (HC.out).mono ?_); rintro e w5 ⟨rfl, hm5, hs5⟩); have HM5 := Lib.hid hm5; have HS5 := Lib.hid hs5; clear hm5 hs5)
            | (go_at_call 13; ((with_reducible refine (HCT.out g' _ HM7.out).mono ?_); rintro e w8 ⟨rfl, hm8, hs8⟩); have HM8 := Lib.hid hm8; have HS8 := Lib.hid hs8; clear hm8 hs8)
            | (go_at_call 14; ((with_reducible refine (state_calls g' F _ _ (HM8.out.alloc _)).mono ?_); rintro e w' ⟨rfl, rfl⟩))
            | (go_at_call 15; ((with_reducible refine (due_calls g' F _ _ (HM8.out.alloc _)).mono ?_); rintro e w' ⟨rfl, rfl⟩))
            | (go_at_call 14; ((with_reducible refine (state_calls g F s' _ HM6.out).mono ?_); rintro e w' ⟨rfl, rfl⟩))
            | (go_at_call 15; ((with_reducible refine (due_calls g F s' _ HM6.out).mono ?_); rintro e w' ⟨rfl, rfl⟩))
            | (go_at_call 16; ((with_reducible refine (running_calls g F s' _ HM6.out).mono ?_); rintro e w' ⟨rfl, rfl⟩))
            | (go_at_call 14; ((with_reducible refine (state_calls g F s' _ HM5.out).mono ?_); rintro e w' ⟨rfl, rfl⟩))
            | (go_at_call 15; ((with_reducible refine (due_calls g F s' _ HM5.out).mono ?_); rintro e w' ⟨rfl, rfl⟩))
            | (go_at_call 16; ((with_reducible refine (running_calls g F s' _ HM5.out).mono ?_); rintro e w' ⟨rfl, rfl⟩))
            | (go_at_call 17; ((with_reducible refine (copy_calls g F s' _ HM6.out).mono ?_); rintro e w7 ⟨g', rfl, hg', hm7, b7⟩); have HM7 := Lib.hid hm7; have HB7 := Lib.hid b7; have HG7 := Lib.hid hg'; clear hm7 b7 hg')
            | (go_at_call 13; ((with_reducible refine (tick_no g F s' _ _ HM5.out (r64 (by omega) (by omega)) HF.out.dn HI5.out (.inr (by omega))).mono ?_); rintro e w6 ⟨rfl, hm6, hs6⟩); have HM6 := Lib.hid hm6; have HS6 := Lib.hid hs6; clear hm6 hs6))
          go_roundw
          case rel => exact ⟨k + 1, t + lt, s', by omega, htl0, HTL.out, by go_num, by go_num, ((HM6.out.below HB7.out).stp HS8.out (Nat.ne_of_lt (Nat.lt_of_lt_of_le HM6.out.lt HG7.out))).alloc _, HI5.out, HD5.out, HB.out.trans (((HS5.out.trans HS6.out).below HG.out hge).trans ((HB7.out.mono (Nat.le_trans hge (HS5.out.trans HS6.out).size)).trans ((HS8.out.below (Nat.le_trans (Nat.le_trans hge (HS5.out.trans HS6.out).size) HG7.out) (Nat.le_trans (Nat.le_trans hge (HS5.out.trans HS6.out).size) HB7.out.size)).alloc (Nat.le_trans (Nat.le_trans (Nat.le_trans hge (HS5.out.trans HS6.out).size) HB7.out.size) HS8.out.size) _)))⟩
          case measure => simp [intOf]; omega
        · obtain ⟨he, hst⟩ := hA
          rw [he] at hcT
          obtain ⟨st2, rn2, du2, la2⟩ := s2
          simp only at hdu hst
          have bst : (st2 == s'.st) = true := by simpa using hst
          have bdu : decide (du2 < s'.due) = false := decide_eq_false (by omega)
          have nst : (s'.st != s'.st) = false := by simp
          have nrn : (s'.runs != s'.runs) = false := by simp
          have ndu : (s'.due != s'.due) = false := by simp
          have hq1 := HD5.out.1
          have hq2 := HD5.out.2
          have HCT := Lib.hid hcT
          have HDU := Lib.hid hdu
          clear ci hi5 hd5 hst he hcT hdu
          go_wp2_with (first
            | (go_at_call 10; ((with_reducible refine (HC.out).mono ?_); rintro e w5 ⟨rfl, hm5, hs5⟩); have HM5 := Lib.hid hm5; have HS5 := Lib.hid hs5; clear hm5 hs5)
            | (go_at_call 13; ((with_reducible refine (HCT.out g' _ HM7.out).mono ?_); rintro e w8 ⟨rfl, hm8, hs8⟩); have HM8 := Lib.hid hm8; have HS8 := Lib.hid hs8; clear hm8 hs8)
            | (go_at_call 14; ((with_reducible refine (state_calls g' F _ _ (HM8.out.alloc _)).mono ?_); rintro e w' ⟨rfl, rfl⟩))
            | (go_at_call 15; ((with_reducible refine (due_calls g' F _ _ (HM8.out.alloc _)).mono ?_); rintro e w' ⟨rfl, rfl⟩))
            | (go_at_call 14; ((with_reducible refine (state_calls g F s' _ HM6.out).mono ?_); rintro e w' ⟨rfl, rfl⟩))
            | (go_at_call 15; ((with_reducible refine (due_calls g F s' _ HM6.out).mono ?_); rintro e w' ⟨rfl, rfl⟩))
            | (go_at_call 16; ((with_reducible refine (running_calls g F s' _ HM6.out).mono ?_); rintro e w' ⟨rfl, rfl⟩))
            | (go_at_call 14; ((with_reducible refine (state_calls g F s' _ HM5.out).mono ?_); rintro e w' ⟨rfl, rfl⟩))
            | (go_at_call 15; ((with_reducible refine (due_calls g F s' _ HM5.out).mono ?_); rintro e w' ⟨rfl, rfl⟩))
            | (go_at_call 16; ((with_reducible refine (running_calls g F s' _ HM5.out).mono ?_); rintro e w' ⟨rfl, rfl⟩))
            | (go_at_call 17; ((with_reducible refine (copy_calls g F s' _ HM6.out).mono ?_); rintro e w7 ⟨g', rfl, hg', hm7, b7⟩); have HM7 := Lib.hid hm7; have HB7 := Lib.hid b7; have HG7 := Lib.hid hg'; clear hm7 b7 hg')
            | (go_at_call 13; ((with_reducible refine (tick_no g F s' _ _ HM5.out (r64 (by omega) (by omega)) HF.out.dn HI5.out (.inr (by omega))).mono ?_); rintro e w6 ⟨rfl, hm6, hs6⟩); have HM6 := Lib.hid hm6; have HS6 := Lib.hid hs6; clear hm6 hs6))
          go_roundw
          case rel => exact ⟨k + 1, t + lt, s', by omega, htl0, HTL.out, by go_num, by go_num, ((HM6.out.below HB7.out).stp HS8.out (Nat.ne_of_lt (Nat.lt_of_lt_of_le HM6.out.lt HG7.out))).alloc _, HI5.out, HD5.out, HB.out.trans (((HS5.out.trans HS6.out).below HG.out hge).trans ((HB7.out.mono (Nat.le_trans hge (HS5.out.trans HS6.out).size)).trans ((HS8.out.below (Nat.le_trans (Nat.le_trans hge (HS5.out.trans HS6.out).size) HG7.out) (Nat.le_trans (Nat.le_trans hge (HS5.out.trans HS6.out).size) HB7.out.size)).alloc (Nat.le_trans (Nat.le_trans (Nat.le_trans hge (HS5.out.trans HS6.out).size) HB7.out.size) HS8.out.size) _)))⟩
          case measure => simp [intOf]; omega
      · have kb0 : (kd % 5 == 0) = false := by simp; omega
        have kb1 : (kd % 5 == 1) = true := by simpa using h5
        have kb2 : (kd % 5 == 2) = false := by simp; omega
        have kb3 : (kd % 5 == 3) = false := by simp; omega
        clear h5
        have hcc := stop_calls g F s (t + lt) _ HM.out HR64.out HF.out.dn
        have hi5 := (inv_stop F s (t + lt) HI.out).1
        have hd5 := due0_stop F s (t + lt) HD.out htl0 htl1
        obtain ⟨o, ho⟩ : ∃ o, o = (stopV F s (t + lt)).1 := ⟨_, rfl⟩
        obtain ⟨s', hs'⟩ : ∃ s', s' = (stopV F s (t + lt)).2 := ⟨_, rfl⟩
        rw [← ho, ← hs'] at hcc
        rw [← hs'] at hi5 hd5
        clear ho hs'
        have HC := Lib.hid hcc
        clear hcc
        have HI5 := Lib.hid hi5
        have HD5 := Lib.hid hd5
        by_cases ci : s'.due = 9223372036854775807
        · have bi : (s'.due == 9223372036854775807) = true := by simpa using ci
          have HZ := Lib.hid ci
          have nst : (s'.st != s'.st) = false := by simp
          have nrn : (s'.runs != s'.runs) = false := by simp
          clear ci hi5 hd5
          go_wp2_with (first
            | (go_at_call 11; ((with_reducible refine (HC.out).mono ?_); rintro e w5 ⟨rfl, hm5, hs5⟩); have HM5 := Lib.hid hm5; have HS5 := Lib.hid hs5; clear hm5 hs5)
            | (go_at_call 14; ((with_reducible refine (state_calls g F s' _ HM5.out).mono ?_); rintro e w' ⟨rfl, rfl⟩))
            | (go_at_call 15; ((with_reducible refine (due_calls g F s' _ HM5.out).mono ?_); rintro e w' ⟨rfl, rfl⟩))
            | (go_at_call 16; ((with_reducible refine (running_calls g F s' _ HM5.out).mono ?_); rintro e w' ⟨rfl, rfl⟩))
            | (go_at_call 13; ((with_reducible refine (tick_no g F s' _ _ HM5.out (r64 (by omega) (by omega)) HF.out.dn HI5.out (.inl HZ.out)).mono ?_); rintro e w6 ⟨rfl, hm6, hs6⟩); have HM6 := Lib.hid hm6; have HS6 := Lib.hid hs6; clear hm6 hs6)
            | (go_at_call 14; ((with_reducible refine (state_calls g F s' _ HM6.out).mono ?_); rintro e w' ⟨rfl, rfl⟩))
            | (go_at_call 15; ((with_reducible refine (due_calls g F s' _ HM6.out).mono ?_); rintro e w' ⟨rfl, rfl⟩))
            | (go_at_call 16; ((with_reducible refine (running_calls g F s' _ HM6.out).mono ?_); rintro e w' ⟨rfl, rfl⟩)))
          go_roundw
          case rel => exact ⟨k + 1, t + lt, s', by omega, htl0, HTL.out, by go_num, by go_num, HM6.out, HI5.out, HD5.out, HB.out.trans ((HS5.out.trans HS6.out).below HG.out hge)⟩
          case measure => simp [intOf]; omega
        have bi : (s'.due == 9223372036854775807) = false := by simpa using ci
        have hta := tick_at F s' hi5 hd5 ci
        have hcT := fun g' ww hm' => tick_calls g' F s' s'.due ww hm' ⟨by have := hd5.1; omega, hd5.2⟩ HF.out.dn (inv_due s' hi5)
        obtain ⟨o2, ho2⟩ : ∃ o2, o2 = (tickV F s' s'.due).1 := ⟨_, rfl⟩
        obtain ⟨s2, hs2⟩ : ∃ s2, s2 = (tickV F s' s'.due).2 := ⟨_, rfl⟩
        rw [← ho2, ← hs2] at hta
        rw [← ho2, ← hs2] at hcT
        clear ho2 hs2
        obtain ⟨hA, hdu⟩ := hta
        rcases hA with hA | hA | hA
        · obtain ⟨he, hst⟩ := hA
          rw [he] at hcT
          obtain ⟨st2, rn2, du2, la2⟩ := s2
          simp only at hdu hst
          have bst : (st2 == s'.st) = false := by simpa using hst
          have bdu : decide (du2 < s'.due) = false := decide_eq_false (by omega)
          have nst : (s'.st != s'.st) = false := by simp
          have nrn : (s'.runs != s'.runs) = false := by simp
          have ndu : (s'.due != s'.due) = false := by simp
          have hq1 := HD5.out.1
          have hq2 := HD5.out.2
          have HCT := Lib.hid hcT
          have HDU := Lib.hid hdu
          clear ci hi5 hd5 hst he hcT hdu
          go_wp2_with (first
            | (go_at_call 11; ((with_reducible refine (HC.out).mono ?_); rintro e w5 ⟨rfl, hm5, hs5⟩); have HM5 := Lib.hid hm5; have HS5 := Lib.hid hs5; clear hm5 hs5)
            | (go_at_call 13; ((with_reducible refine (HCT.out g' _ HM7.out).mono ?_); rintro e w8 ⟨rfl, hm8, hs8⟩); have HM8 := Lib.hid hm8; have HS8 := Lib.hid hs8; clear hm8 hs8)
            | (go_at_call 14; ((with_reducible refine (state_calls g' F _ _ (HM8.out.alloc _)).mono ?_); rintro e w' ⟨rfl, rfl⟩))
            | (go_at_call 15; ((with_reducible refine (due_calls g' F _ _ (HM8.out.alloc _)).mono ?_); rintro e w' ⟨rfl, rfl⟩))
            | (go_at_call 14; ((with_reducible refine (state_calls g F s' _ HM6.out).mono ?_); rintro e w' ⟨rfl, rfl⟩))
            | (go_at_call 15; ((with_reducible refine (due_calls g F s' _ HM6.out).mono ?_); rintro e w' ⟨rfl, rfl⟩))
            | (go_at_call 16; ((with_reducible refine (running_calls g F s' _ HM6.out).mono ?_); rintro e w' ⟨rfl, rfl⟩))
            | (go_at_call 14; ((with_reducible refine (state_calls g F s' _ HM5.out).mono ?_); rintro e w' ⟨rfl, rfl⟩))
            | (go_at_call 15; ((with_reducible refine (due_calls g F s' _ HM5.out).mono ?_); rintro e w' ⟨rfl, rfl⟩))
            | (go_at_call 16; ((with_reducible refine (running_calls g F s' _ HM5.out).mono ?_); rintro e w' ⟨rfl, rfl⟩))
            | (go_at_call 17; ((with_reducible refine (copy_calls g F s' _ HM6.out).mono ?_); rintro e w7 ⟨g', rfl, hg', hm7, b7⟩); have HM7 := Lib.hid hm7; have HB7 := Lib.hid b7; have HG7 := Lib.hid hg'; clear hm7 b7 hg')
            | (go_at_call 13; ((with_reducible refine (tick_no g F s' _ _ HM5.out (r64 (by omega) (by omega)) HF.out.dn HI5.out (.inr (by omega))).mono ?_); rintro e w6 ⟨rfl, hm6, hs6⟩); have HM6 := Lib.hid hm6; have HS6 := Lib.hid hs6; clear hm6 hs6))
          go_roundw
          case rel => exact ⟨k + 1, t + lt, s', by omega, htl0, HTL.out, by go_num, by go_num, ((HM6.out.below HB7.out).stp HS8.out (Nat.ne_of_lt (Nat.lt_of_lt_of_le HM6.out.lt HG7.out))).alloc _, HI5.out, HD5.out, HB.out.trans (((HS5.out.trans HS6.out).below HG.out hge).trans ((HB7.out.mono (Nat.le_trans hge (HS5.out.trans HS6.out).size)).trans ((HS8.out.below (Nat.le_trans (Nat.le_trans hge (HS5.out.trans HS6.out).size) HG7.out) (Nat.le_trans (Nat.le_trans hge (HS5.out.trans HS6.out).size) HB7.out.size)).alloc (Nat.le_trans (Nat.le_trans (Nat.le_trans hge (HS5.out.trans HS6.out).size) HB7.out.size) HS8.out.size) _)))⟩
          case measure => simp [intOf]; omega
        · obtain ⟨re, he, hst⟩ := hA
          rw [he] at hcT
          obtain ⟨st2, rn2, du2, la2⟩ := s2
          simp only at hdu hst
          have bst : (st2 == s'.st) = false := by simpa using hst
          have bdu : decide (du2 < s'.due) = false := decide_eq_false (by omega)
          have nst : (s'.st != s'.st) = false := by simp
          have nrn : (s'.runs != s'.runs) = false := by simp
          have ndu : (s'.due != s'.due) = false := by simp
          have hq1 := HD5.out.1
          have hq2 := HD5.out.2
          have HCT := Lib.hid hcT
          have HDU := Lib.hid hdu
          clear ci hi5 hd5 hst he hcT hdu
          go_wp2_with (first
            | (go_at_call 11; ((with_reducible refine (HC.out).mono ?_); rintro e w5 ⟨rfl, hm5, hs5⟩); have HM5 := Lib.hid hm5; have HS5 := Lib.hid hs5; clear hm5 hs5)
            | (go_at_call 13; ((with_reducible refine (HCT.out g' _ HM7.out).mono ?_); rintro e w8 ⟨rfl, hm8, hs8⟩); have HM8 := Lib.hid hm8; have HS8 := Lib.hid hs8; clear hm8 hs8)
            | (go_at_call 14; ((with_reducible refine (state_calls g' F _ _ (HM8.out.alloc _)).mono ?_); rintro e w' ⟨rfl, rfl⟩))
            | (go_at_call 15; ((with_reducible refine (due_calls g' F _ _ (HM8.out.alloc _)).mono ?_); rintro e w' ⟨rfl, rfl⟩))
            | (go_at_call 14; ((with_reducible refine (state_calls g F s' _ HM6.out).mono ?_); rintro e w' ⟨rfl, rfl⟩))
            | (go_at_call 15; ((with_reducible refine (due_calls g F s' _ HM6.out).mono ?_); rintro e w' ⟨rfl, rfl⟩))
            | (go_at_call 16; ((with_reducible refine (running_calls g F s' _ HM6.out).mono ?_); rintro e w' ⟨rfl, rfl⟩))
            | (go_at_call 14; ((with_reducible refine (state_calls g F s' _ HM5.out).mono ?_); rintro e w' ⟨rfl, rfl⟩))
            | (go_at_call 15; ((with_reducible refine (due_calls g F s' _ HM5.out).mono ?_); rintro e w' ⟨rfl, rfl⟩))
            | (go_at_call 16; ((with_reducible refine (running_calls g F s' _ HM5.out).mono ?_); rintro e w' ⟨rfl, rfl⟩))
            | (go_at_call 17; ((with_reducible refine (copy_calls g F s' _ HM6.out).mono ?_); rintro e w7 ⟨g', rfl, hg', hm7, b7⟩); have HM7 := Lib.hid hm7; have HB7 := Lib.hid b7; have HG7 := Lib.hid hg'; clear hm7 b7 hg')
            | (go_at_call 13; ((with_reducible refine (tick_no g F s' _ _ HM5.out (r64 (by omega) (by omega)) HF.out.dn HI5.out (.inr (by omega))).mono ?_); rintro e w6 ⟨rfl, hm6, hs6⟩); have HM6 := Lib.hid hm6; have HS6 := Lib.hid hs6; clear hm6 hs6))
          go_roundw
          case rel => exact ⟨k + 1, t + lt, s', by omega, htl0, HTL.out, by go_num, by go_num, ((HM6.out.below HB7.out).stp HS8.out (Nat.ne_of_lt (Nat.lt_of_lt_of_le HM6.out.lt HG7.out))).alloc _, HI5.out, HD5.out, HB.out.trans (((HS5.out.trans HS6.out).below HG.out hge).trans ((HB7.out.mono (Nat.le_trans hge (HS5.out.trans HS6.out).size)).trans ((HS8.out.below (Nat.le_trans (Nat.le_trans hge (HS5.out.trans HS6.out).size) HG7.out) (Nat.le_trans (Nat.le_trans hge (HS5.out.trans HS6.out).size) HB7.out.size)).alloc (Nat.le_trans (Nat.le_trans (Nat.le_trans hge (HS5.out.trans HS6.out).size) HB7.out.size) HS8.out.size) _)))⟩
          case measure => simp [intOf]; omega
        · obtain ⟨he, hst⟩ := hA
          rw [he] at hcT
          obtain ⟨st2, rn2, du2, la2⟩ := s2
          simp only at hdu hst
          have bst : (st2 == s'.st) = true := by simpa using hst
          have bdu : decide (du2 < s'.due) = false := decide_eq_false (by omega)
          have nst : (s'.st != s'.st) = false := by simp
          have nrn : (s'.runs != s'.runs) = false := by simp
          have ndu : (s'.due != s'.due) = false := by simp
          have hq1 := HD5.out.1
          have hq2 := HD5.out.2
          have HCT := Lib.hid hcT
          have HDU := Lib.hid hdu
          clear ci hi5 hd5 hst he hcT hdu
          go_wp2_with (first
            | (go_at_call 11; ((with_reducible refine (HC.out).mono ?_); rintro e w5 ⟨rfl, hm5, hs5⟩); have HM5 := Lib.hid hm5; have HS5 := Lib.hid hs5; clear hm5 hs5)
            | (go_at_call 13; ((with_reducible refine (HCT.out g' _ HM7.out).mono ?_); rintro e w8 ⟨rfl, hm8, hs8⟩); have HM8 := Lib.hid hm8; have HS8 := Lib.hid hs8; clear hm8 hs8)
            | (go_at_call 14; ((with_reducible refine (state_calls g' F _ _ (HM8.out.alloc _)).mono ?_); rintro e w' ⟨rfl, rfl⟩))
            | (go_at_call 15; ((with_reducible refine (due_calls g' F _ _ (HM8.out.alloc _)).mono ?_); rintro e w' ⟨rfl, rfl⟩))
            | (go_at_call 14; ((with_reducible refine (state_calls g F s' _ HM6.out).mono ?_); rintro e w' ⟨rfl, rfl⟩))
            | (go_at_call 15; ((with_reducible refine (due_calls g F s' _ HM6.out).mono ?_); rintro e w' ⟨rfl, rfl⟩))
            | (go_at_call 16; ((with_reducible refine (running_calls g F s' _ HM6.out).mono ?_); rintro e w' ⟨rfl, rfl⟩))
            | (go_at_call 14; ((with_reducible refine (state_calls g F s' _ HM5.out).mono ?_); rintro e w' ⟨rfl, rfl⟩))
            | (go_at_call 15; ((with_reducible refine (due_calls g F s' _ HM5.out).mono ?_); rintro e w' ⟨rfl, rfl⟩))
            | (go_at_call 16; ((with_reducible refine (running_calls g F s' _ HM5.out).mono ?_); rintro e w' ⟨rfl, rfl⟩))
            | (go_at_call 17; ((with_reducible refine (copy_calls g F s' _ HM6.out).mono ?_); rintro e w7 ⟨g', rfl, hg', hm7, b7⟩); have HM7 := Lib.hid hm7; have HB7 := Lib.hid b7; have HG7 := Lib.hid hg'; clear hm7 b7 hg')
            | (go_at_call 13; ((with_reducible refine (tick_no g F s' _ _ HM5.out (r64 (by omega) (by omega)) HF.out.dn HI5.out (.inr (by omega))).mono ?_); rintro e w6 ⟨rfl, hm6, hs6⟩); have HM6 := Lib.hid hm6; have HS6 := Lib.hid hs6; clear hm6 hs6))
          go_roundw
          case rel => exact ⟨k + 1, t + lt, s', by omega, htl0, HTL.out, by go_num, by go_num, ((HM6.out.below HB7.out).stp HS8.out (Nat.ne_of_lt (Nat.lt_of_lt_of_le HM6.out.lt HG7.out))).alloc _, HI5.out, HD5.out, HB.out.trans (((HS5.out.trans HS6.out).below HG.out hge).trans ((HB7.out.mono (Nat.le_trans hge (HS5.out.trans HS6.out).size)).trans ((HS8.out.below (Nat.le_trans (Nat.le_trans hge (HS5.out.trans HS6.out).size) HG7.out) (Nat.le_trans (Nat.le_trans hge (HS5.out.trans HS6.out).size) HB7.out.size)).alloc (Nat.le_trans (Nat.le_trans (Nat.le_trans hge (HS5.out.trans HS6.out).size) HB7.out.size) HS8.out.size) _)))⟩
          case measure => simp [intOf]; omega
      · have kb0 : (kd % 5 == 0) = false := by simp; omega
        have kb1 : (kd % 5 == 1) = false := by simp; omega
        have kb2 : (kd % 5 == 2) = true := by simpa using h5
        have kb3 : (kd % 5 == 3) = false := by simp; omega
        clear h5
        have hcc := exit_calls g F s cd (t + lt) _ HM.out HR64.out HF.out.agn (inv_run s HI.out)
        have hi5 := (inv_exit F s cd (t + lt) HI.out).1
        have hd5 := due0_exit F s cd (t + lt) HD.out htl0 htl1
        obtain ⟨o, ho⟩ : ∃ o, o = (exitV F s cd (t + lt)).1 := ⟨_, rfl⟩
        obtain ⟨s', hs'⟩ : ∃ s', s' = (exitV F s cd (t + lt)).2 := ⟨_, rfl⟩
        rw [← ho, ← hs'] at hcc
        rw [← hs'] at hi5 hd5
        clear ho hs'
        have HC := Lib.hid hcc
        clear hcc
        have HI5 := Lib.hid hi5
        have HD5 := Lib.hid hd5
        by_cases ci : s'.due = 9223372036854775807
        · have bi : (s'.due == 9223372036854775807) = true := by simpa using ci
          have HZ := Lib.hid ci
          have nst : (s'.st != s'.st) = false := by simp
          have nrn : (s'.runs != s'.runs) = false := by simp
          clear ci hi5 hd5
          go_wp2_with (first
            | (go_at_call 12; ((with_reducible refine (HC.out).mono ?_); rintro e w5 ⟨rfl, hm5, hs5⟩); have HM5 := Lib.hid hm5; have HS5 := Lib.hid hs5; clear hm5 hs5)
            | (go_at_call 14; ((with_reducible refine (state_calls g F s' _ HM5.out).mono ?_); rintro e w' ⟨rfl, rfl⟩))
            | (go_at_call 15; ((with_reducible refine (due_calls g F s' _ HM5.out).mono ?_); rintro e w' ⟨rfl, rfl⟩))
            | (go_at_call 16; ((with_reducible refine (running_calls g F s' _ HM5.out).mono ?_); rintro e w' ⟨rfl, rfl⟩))
            | (go_at_call 13; ((with_reducible refine (tick_no g F s' _ _ HM5.out (r64 (by omega) (by omega)) HF.out.dn HI5.out (.inl HZ.out)).mono ?_); rintro e w6 ⟨rfl, hm6, hs6⟩); have HM6 := Lib.hid hm6; have HS6 := Lib.hid hs6; clear hm6 hs6)
            | (go_at_call 14; ((with_reducible refine (state_calls g F s' _ HM6.out).mono ?_); rintro e w' ⟨rfl, rfl⟩))
            | (go_at_call 15; ((with_reducible refine (due_calls g F s' _ HM6.out).mono ?_); rintro e w' ⟨rfl, rfl⟩))
            | (go_at_call 16; ((with_reducible refine (running_calls g F s' _ HM6.out).mono ?_); rintro e w' ⟨rfl, rfl⟩)))
          go_roundw
          case rel => exact ⟨k + 1, t + lt, s', by omega, htl0, HTL.out, by go_num, by go_num, HM6.out, HI5.out, HD5.out, HB.out.trans ((HS5.out.trans HS6.out).below HG.out hge)⟩
          case measure => simp [intOf]; omega
        have bi : (s'.due == 9223372036854775807) = false := by simpa using ci
        have hta := tick_at F s' hi5 hd5 ci
        have hcT := fun g' ww hm' => tick_calls g' F s' s'.due ww hm' ⟨by have := hd5.1; omega, hd5.2⟩ HF.out.dn (inv_due s' hi5)
        obtain ⟨o2, ho2⟩ : ∃ o2, o2 = (tickV F s' s'.due).1 := ⟨_, rfl⟩
        obtain ⟨s2, hs2⟩ : ∃ s2, s2 = (tickV F s' s'.due).2 := ⟨_, rfl⟩
        rw [← ho2, ← hs2] at hta
        rw [← ho2, ← hs2] at hcT
        clear ho2 hs2
        obtain ⟨hA, hdu⟩ := hta
        rcases hA with hA | hA | hA
        · obtain ⟨he, hst⟩ := hA
          rw [he] at hcT
          obtain ⟨st2, rn2, du2, la2⟩ := s2
          simp only at hdu hst
          have bst : (st2 == s'.st) = false := by simpa using hst
          have bdu : decide (du2 < s'.due) = false := decide_eq_false (by omega)
          have nst : (s'.st != s'.st) = false := by simp
          have nrn : (s'.runs != s'.runs) = false := by simp
          have ndu : (s'.due != s'.due) = false := by simp
          have hq1 := HD5.out.1
          have hq2 := HD5.out.2
          have HCT := Lib.hid hcT
          have HDU := Lib.hid hdu
          clear ci hi5 hd5 hst he hcT hdu
          go_wp2_with (first
            | (go_at_call 12; ((with_reducible refine (HC.out).mono ?_); rintro e w5 ⟨rfl, hm5, hs5⟩); have HM5 := Lib.hid hm5; have HS5 := Lib.hid hs5; clear hm5 hs5)
            | (go_at_call 13; ((with_reducible refine (HCT.out g' _ HM7.out).mono ?_); rintro e w8 ⟨rfl, hm8, hs8⟩); have HM8 := Lib.hid hm8; have HS8 := Lib.hid hs8; clear hm8 hs8)
            | (go_at_call 14; ((with_reducible refine (state_calls g' F _ _ (HM8.out.alloc _)).mono ?_); rintro e w' ⟨rfl, rfl⟩))
            | (go_at_call 15; ((with_reducible refine (due_calls g' F _ _ (HM8.out.alloc _)).mono ?_); rintro e w' ⟨rfl, rfl⟩))
            | (go_at_call 14; ((with_reducible refine (state_calls g F s' _ HM6.out).mono ?_); rintro e w' ⟨rfl, rfl⟩))
            | (go_at_call 15; ((with_reducible refine (due_calls g F s' _ HM6.out).mono ?_); rintro e w' ⟨rfl, rfl⟩))
            | (go_at_call 16; ((with_reducible refine (running_calls g F s' _ HM6.out).mono ?_); rintro e w' ⟨rfl, rfl⟩))
            | (go_at_call 14; ((with_reducible refine (state_calls g F s' _ HM5.out).mono ?_); rintro e w' ⟨rfl, rfl⟩))
            | (go_at_call 15; ((with_reducible refine (due_calls g F s' _ HM5.out).mono ?_); rintro e w' ⟨rfl, rfl⟩))
            | (go_at_call 16; ((with_reducible refine (running_calls g F s' _ HM5.out).mono ?_); rintro e w' ⟨rfl, rfl⟩))
            | (go_at_call 17; ((with_reducible refine (copy_calls g F s' _ HM6.out).mono ?_); rintro e w7 ⟨g', rfl, hg', hm7, b7⟩); have HM7 := Lib.hid hm7; have HB7 := Lib.hid b7; have HG7 := Lib.hid hg'; clear hm7 b7 hg')
            | (go_at_call 13; ((with_reducible refine (tick_no g F s' _ _ HM5.out (r64 (by omega) (by omega)) HF.out.dn HI5.out (.inr (by omega))).mono ?_); rintro e w6 ⟨rfl, hm6, hs6⟩); have HM6 := Lib.hid hm6; have HS6 := Lib.hid hs6; clear hm6 hs6))
          go_roundw
          case rel => exact ⟨k + 1, t + lt, s', by omega, htl0, HTL.out, by go_num, by go_num, ((HM6.out.below HB7.out).stp HS8.out (Nat.ne_of_lt (Nat.lt_of_lt_of_le HM6.out.lt HG7.out))).alloc _, HI5.out, HD5.out, HB.out.trans (((HS5.out.trans HS6.out).below HG.out hge).trans ((HB7.out.mono (Nat.le_trans hge (HS5.out.trans HS6.out).size)).trans ((HS8.out.below (Nat.le_trans (Nat.le_trans hge (HS5.out.trans HS6.out).size) HG7.out) (Nat.le_trans (Nat.le_trans hge (HS5.out.trans HS6.out).size) HB7.out.size)).alloc (Nat.le_trans (Nat.le_trans (Nat.le_trans hge (HS5.out.trans HS6.out).size) HB7.out.size) HS8.out.size) _)))⟩
          case measure => simp [intOf]; omega
        · obtain ⟨re, he, hst⟩ := hA
          rw [he] at hcT
          obtain ⟨st2, rn2, du2, la2⟩ := s2
          simp only at hdu hst
          have bst : (st2 == s'.st) = false := by simpa using hst
          have bdu : decide (du2 < s'.due) = false := decide_eq_false (by omega)
          have nst : (s'.st != s'.st) = false := by simp
          have nrn : (s'.runs != s'.runs) = false := by simp
          have ndu : (s'.due != s'.due) = false := by simp
          have hq1 := HD5.out.1
          have hq2 := HD5.out.2
          have HCT := Lib.hid hcT
          have HDU := Lib.hid hdu
          clear ci hi5 hd5 hst he hcT hdu
          go_wp2_with (first
            | (go_at_call 12; ((with_reducible refine (HC.out).mono ?_); rintro e w5 ⟨rfl, hm5, hs5⟩); have HM5 := Lib.hid hm5; have HS5 := Lib.hid hs5; clear hm5 hs5)
            | (go_at_call 13; ((with_reducible refine (HCT.out g' _ HM7.out).mono ?_); rintro e w8 ⟨rfl, hm8, hs8⟩); have HM8 := Lib.hid hm8; have HS8 := Lib.hid hs8; clear hm8 hs8)
            | (go_at_call 14; ((with_reducible refine (state_calls g' F _ _ (HM8.out.alloc _)).mono ?_); rintro e w' ⟨rfl, rfl⟩))
            | (go_at_call 15; ((with_reducible refine (due_calls g' F _ _ (HM8.out.alloc _)).mono ?_); rintro e w' ⟨rfl, rfl⟩))
            | (go_at_call 14; ((with_reducible refine (state_calls g F s' _ HM6.out).mono ?_); rintro e w' ⟨rfl, rfl⟩))
            | (go_at_call 15; ((with_reducible refine (due_calls g F s' _ HM6.out).mono ?_); rintro e w' ⟨rfl, rfl⟩))
            | (go_at_call 16; ((with_reducible refine (running_calls g F s' _ HM6.out).mono ?_); rintro e w' ⟨rfl, rfl⟩))
            | (go_at_call 14; ((with_reducible refine (state_calls g F s' _ HM5.out).mono ?_); rintro e w' ⟨rfl, rfl⟩))
            | (go_at_call 15; ((with_reducible refine (due_calls g F s' _ HM5.out).mono ?_); rintro e w' ⟨rfl, rfl⟩))
            | (go_at_call 16; ((with_reducible refine (running_calls g F s' _ HM5.out).mono ?_); rintro e w' ⟨rfl, rfl⟩))
            | (go_at_call 17; ((with_reducible refine (copy_calls g F s' _ HM6.out).mono ?_); rintro e w7 ⟨g', rfl, hg', hm7, b7⟩); have HM7 := Lib.hid hm7; have HB7 := Lib.hid b7; have HG7 := Lib.hid hg'; clear hm7 b7 hg')
            | (go_at_call 13; ((with_reducible refine (tick_no g F s' _ _ HM5.out (r64 (by omega) (by omega)) HF.out.dn HI5.out (.inr (by omega))).mono ?_); rintro e w6 ⟨rfl, hm6, hs6⟩); have HM6 := Lib.hid hm6; have HS6 := Lib.hid hs6; clear hm6 hs6))
          go_roundw
          case rel => exact ⟨k + 1, t + lt, s', by omega, htl0, HTL.out, by go_num, by go_num, ((HM6.out.below HB7.out).stp HS8.out (Nat.ne_of_lt (Nat.lt_of_lt_of_le HM6.out.lt HG7.out))).alloc _, HI5.out, HD5.out, HB.out.trans (((HS5.out.trans HS6.out).below HG.out hge).trans ((HB7.out.mono (Nat.le_trans hge (HS5.out.trans HS6.out).size)).trans ((HS8.out.below (Nat.le_trans (Nat.le_trans hge (HS5.out.trans HS6.out).size) HG7.out) (Nat.le_trans (Nat.le_trans hge (HS5.out.trans HS6.out).size) HB7.out.size)).alloc (Nat.le_trans (Nat.le_trans (Nat.le_trans hge (HS5.out.trans HS6.out).size) HB7.out.size) HS8.out.size) _)))⟩
          case measure => simp [intOf]; omega
        · obtain ⟨he, hst⟩ := hA
          rw [he] at hcT
          obtain ⟨st2, rn2, du2, la2⟩ := s2
          simp only at hdu hst
          have bst : (st2 == s'.st) = true := by simpa using hst
          have bdu : decide (du2 < s'.due) = false := decide_eq_false (by omega)
          have nst : (s'.st != s'.st) = false := by simp
          have nrn : (s'.runs != s'.runs) = false := by simp
          have ndu : (s'.due != s'.due) = false := by simp
          have hq1 := HD5.out.1
          have hq2 := HD5.out.2
          have HCT := Lib.hid hcT
          have HDU := Lib.hid hdu
          clear ci hi5 hd5 hst he hcT hdu
          go_wp2_with (first
            | (go_at_call 12; ((with_reducible refine (HC.out).mono ?_); rintro e w5 ⟨rfl, hm5, hs5⟩); have HM5 := Lib.hid hm5; have HS5 := Lib.hid hs5; clear hm5 hs5)
            | (go_at_call 13; ((with_reducible refine (HCT.out g' _ HM7.out).mono ?_); rintro e w8 ⟨rfl, hm8, hs8⟩); have HM8 := Lib.hid hm8; have HS8 := Lib.hid hs8; clear hm8 hs8)
            | (go_at_call 14; ((with_reducible refine (state_calls g' F _ _ (HM8.out.alloc _)).mono ?_); rintro e w' ⟨rfl, rfl⟩))
            | (go_at_call 15; ((with_reducible refine (due_calls g' F _ _ (HM8.out.alloc _)).mono ?_); rintro e w' ⟨rfl, rfl⟩))
            | (go_at_call 14; ((with_reducible refine (state_calls g F s' _ HM6.out).mono ?_); rintro e w' ⟨rfl, rfl⟩))
            | (go_at_call 15; ((with_reducible refine (due_calls g F s' _ HM6.out).mono ?_); rintro e w' ⟨rfl, rfl⟩))
            | (go_at_call 16; ((with_reducible refine (running_calls g F s' _ HM6.out).mono ?_); rintro e w' ⟨rfl, rfl⟩))
            | (go_at_call 14; ((with_reducible refine (state_calls g F s' _ HM5.out).mono ?_); rintro e w' ⟨rfl, rfl⟩))
            | (go_at_call 15; ((with_reducible refine (due_calls g F s' _ HM5.out).mono ?_); rintro e w' ⟨rfl, rfl⟩))
            | (go_at_call 16; ((with_reducible refine (running_calls g F s' _ HM5.out).mono ?_); rintro e w' ⟨rfl, rfl⟩))
            | (go_at_call 17; ((with_reducible refine (copy_calls g F s' _ HM6.out).mono ?_); rintro e w7 ⟨g', rfl, hg', hm7, b7⟩); have HM7 := Lib.hid hm7; have HB7 := Lib.hid b7; have HG7 := Lib.hid hg'; clear hm7 b7 hg')
            | (go_at_call 13; ((with_reducible refine (tick_no g F s' _ _ HM5.out (r64 (by omega) (by omega)) HF.out.dn HI5.out (.inr (by omega))).mono ?_); rintro e w6 ⟨rfl, hm6, hs6⟩); have HM6 := Lib.hid hm6; have HS6 := Lib.hid hs6; clear hm6 hs6))
          go_roundw
          case rel => exact ⟨k + 1, t + lt, s', by omega, htl0, HTL.out, by go_num, by go_num, ((HM6.out.below HB7.out).stp HS8.out (Nat.ne_of_lt (Nat.lt_of_lt_of_le HM6.out.lt HG7.out))).alloc _, HI5.out, HD5.out, HB.out.trans (((HS5.out.trans HS6.out).below HG.out hge).trans ((HB7.out.mono (Nat.le_trans hge (HS5.out.trans HS6.out).size)).trans ((HS8.out.below (Nat.le_trans (Nat.le_trans hge (HS5.out.trans HS6.out).size) HG7.out) (Nat.le_trans (Nat.le_trans hge (HS5.out.trans HS6.out).size) HB7.out.size)).alloc (Nat.le_trans (Nat.le_trans (Nat.le_trans hge (HS5.out.trans HS6.out).size) HB7.out.size) HS8.out.size) _)))⟩
          case measure => simp [intOf]; omega
      · have kb0 : (kd % 5 == 0) = false := by simp; omega
        have kb1 : (kd % 5 == 1) = false := by simp; omega
        have kb2 : (kd % 5 == 2) = false := by simp; omega
        have kb3 : (kd % 5 == 3) = true := by simpa using h5
        clear h5
        have hcc := tick_calls g F s (t + lt) _ HM.out HR64.out HF.out.dn (inv_due s HI.out)
        have hi5 := (inv_tick F s (t + lt) HI.out).1
        have hd5 := due0_tick F s (t + lt) HD.out htl0 htl1
        obtain ⟨o, ho⟩ : ∃ o, o = (tickV F s (t + lt)).1 := ⟨_, rfl⟩
        obtain ⟨s', hs'⟩ : ∃ s', s' = (tickV F s (t + lt)).2 := ⟨_, rfl⟩
        rw [← ho, ← hs'] at hcc
        rw [← hs'] at hi5 hd5
        clear ho hs'
        have HC := Lib.hid hcc
        clear hcc
        have HI5 := Lib.hid hi5
        have HD5 := Lib.hid hd5
        by_cases ci : s'.due = 9223372036854775807
        · have bi : (s'.due == 9223372036854775807) = true := by simpa using ci
          have HZ := Lib.hid ci
          have nst : (s'.st != s'.st) = false := by simp
          have nrn : (s'.runs != s'.runs) = false := by simp
          clear ci hi5 hd5
          go_wp2_with (first
            | (go_at_call 13; ((with_reducible refine (HC.out).mono ?_); rintro e w5 ⟨rfl, hm5, hs5⟩); have HM5 := Lib.hid hm5; have HS5 := Lib.hid hs5; clear hm5 hs5)
            | (go_at_call 14; ((with_reducible refine (state_calls g F s' _ HM5.out).mono ?_); rintro e w' ⟨rfl, rfl⟩))
            | (go_at_call 15; ((with_reducible refine (due_calls g F s' _ HM5.out).mono ?_); rintro e w' ⟨rfl, rfl⟩))
            | (go_at_call 16; ((with_reducible refine (running_calls g F s' _ HM5.out).mono ?_); rintro e w' ⟨rfl, rfl⟩))
            | (go_at_call 13; ((with_reducible refine (tick_no g F s' _ _ HM5.out (r64 (by omega) (by omega)) HF.out.dn HI5.out (.inl HZ.out)).mono ?_); rintro e w6 ⟨rfl, hm6, hs6⟩); have HM6 := Lib.hid hm6; have HS6 := Lib.hid hs6; clear hm6 hs6)
            | (go_at_call 14; ((with_reducible refine (state_calls g F s' _ HM6.out).mono ?_); rintro e w' ⟨rfl, rfl⟩))
            | (go_at_call 15; ((with_reducible refine (due_calls g F s' _ HM6.out).mono ?_); rintro e w' ⟨rfl, rfl⟩))
            | (go_at_call 16; ((with_reducible refine (running_calls g F s' _ HM6.out).mono ?_); rintro e w' ⟨rfl, rfl⟩)))
          go_roundw
          case rel => exact ⟨k + 1, t + lt, s', by omega, htl0, HTL.out, by go_num, by go_num, HM6.out, HI5.out, HD5.out, HB.out.trans ((HS5.out.trans HS6.out).below HG.out hge)⟩
          case measure => simp [intOf]; omega
        have bi : (s'.due == 9223372036854775807) = false := by simpa using ci
        have hta := tick_at F s' hi5 hd5 ci
        have hcT := fun g' ww hm' => tick_calls g' F s' s'.due ww hm' ⟨by have := hd5.1; omega, hd5.2⟩ HF.out.dn (inv_due s' hi5)
        obtain ⟨o2, ho2⟩ : ∃ o2, o2 = (tickV F s' s'.due).1 := ⟨_, rfl⟩
        obtain ⟨s2, hs2⟩ : ∃ s2, s2 = (tickV F s' s'.due).2 := ⟨_, rfl⟩
        rw [← ho2, ← hs2] at hta
        rw [← ho2, ← hs2] at hcT
        clear ho2 hs2
        obtain ⟨hA, hdu⟩ := hta
        rcases hA with hA | hA | hA
        · obtain ⟨he, hst⟩ := hA
          rw [he] at hcT
          obtain ⟨st2, rn2, du2, la2⟩ := s2
          simp only at hdu hst
          have bst : (st2 == s'.st) = false := by simpa using hst
          have bdu : decide (du2 < s'.due) = false := decide_eq_false (by omega)
          have nst : (s'.st != s'.st) = false := by simp
          have nrn : (s'.runs != s'.runs) = false := by simp
          have ndu : (s'.due != s'.due) = false := by simp
          have hq1 := HD5.out.1
          have hq2 := HD5.out.2
          have HCT := Lib.hid hcT
          have HDU := Lib.hid hdu
          clear ci hi5 hd5 hst he hcT hdu
          go_wp2_with (first
            | (go_at_call 13; ((with_reducible refine (HC.out).mono ?_); rintro e w5 ⟨rfl, hm5, hs5⟩); have HM5 := Lib.hid hm5; have HS5 := Lib.hid hs5; clear hm5 hs5)
            | (go_at_call 13; ((with_reducible refine (HCT.out g' _ HM7.out).mono ?_); rintro e w8 ⟨rfl, hm8, hs8⟩); have HM8 := Lib.hid hm8; have HS8 := Lib.hid hs8; clear hm8 hs8)
            | (go_at_call 14; ((with_reducible refine (state_calls g' F _ _ (HM8.out.alloc _)).mono ?_); rintro e w' ⟨rfl, rfl⟩))
            | (go_at_call 15; ((with_reducible refine (due_calls g' F _ _ (HM8.out.alloc _)).mono ?_); rintro e w' ⟨rfl, rfl⟩))
            | (go_at_call 14; ((with_reducible refine (state_calls g F s' _ HM6.out).mono ?_); rintro e w' ⟨rfl, rfl⟩))
            | (go_at_call 15; ((with_reducible refine (due_calls g F s' _ HM6.out).mono ?_); rintro e w' ⟨rfl, rfl⟩))
            | (go_at_call 16; ((with_reducible refine (running_calls g F s' _ HM6.out).mono ?_); rintro e w' ⟨rfl, rfl⟩))
            | (go_at_call 14; ((with_reducible refine (state_calls g F s' _ HM5.out).mono ?_); rintro e w' ⟨rfl, rfl⟩))
            | (go_at_call 15; ((with_reducible refine (due_calls g F s' _ HM5.out).mono ?_); rintro e w' ⟨rfl, rfl⟩))
            | (go_at_call 16; ((with_reducible refine (running_calls g F s' _ HM5.out).mono ?_); rintro e w' ⟨rfl, rfl⟩))
            | (go_at_call 17; ((with_reducible refine (copy_calls g F s' _ HM6.out).mono ?_); rintro e w7 ⟨g', rfl, hg', hm7, b7⟩); have HM7 := Lib.hid hm7; have HB7 := Lib.hid b7; have HG7 := Lib.hid hg'; clear hm7 b7 hg')
            | (go_at_call 13; ((with_reducible refine (tick_no g F s' _ _ HM5.out (r64 (by omega) (by omega)) HF.out.dn HI5.out (.inr (by omega))).mono ?_); rintro e w6 ⟨rfl, hm6, hs6⟩); have HM6 := Lib.hid hm6; have HS6 := Lib.hid hs6; clear hm6 hs6))
          go_roundw
          case rel => exact ⟨k + 1, t + lt, s', by omega, htl0, HTL.out, by go_num, by go_num, ((HM6.out.below HB7.out).stp HS8.out (Nat.ne_of_lt (Nat.lt_of_lt_of_le HM6.out.lt HG7.out))).alloc _, HI5.out, HD5.out, HB.out.trans (((HS5.out.trans HS6.out).below HG.out hge).trans ((HB7.out.mono (Nat.le_trans hge (HS5.out.trans HS6.out).size)).trans ((HS8.out.below (Nat.le_trans (Nat.le_trans hge (HS5.out.trans HS6.out).size) HG7.out) (Nat.le_trans (Nat.le_trans hge (HS5.out.trans HS6.out).size) HB7.out.size)).alloc (Nat.le_trans (Nat.le_trans (Nat.le_trans hge (HS5.out.trans HS6.out).size) HB7.out.size) HS8.out.size) _)))⟩
          case measure => simp [intOf]; omega
        · obtain ⟨re, he, hst⟩ := hA
          rw [he] at hcT
          obtain ⟨st2, rn2, du2, la2⟩ := s2
          simp only at hdu hst
          have bst : (st2 == s'.st) = false := by simpa using hst
          have bdu : decide (du2 < s'.due) = false := decide_eq_false (by omega)
          have nst : (s'.st != s'.st) = false := by simp
          have nrn : (s'.runs != s'.runs) = false := by simp
          have ndu : (s'.due != s'.due) = false := by simp
          have hq1 := HD5.out.1
          have hq2 := HD5.out.2
          have HCT := Lib.hid hcT
          have HDU := Lib.hid hdu
          clear ci hi5 hd5 hst he hcT hdu
          go_wp2_with (first
            | (go_at_call 13; ((with_reducible refine (HC.out).mono ?_); rintro e w5 ⟨rfl, hm5, hs5⟩); have HM5 := Lib.hid hm5; have HS5 := Lib.hid hs5; clear hm5 hs5)
            | (go_at_call 13; ((with_reducible refine (HCT.out g' _ HM7.out).mono ?_); rintro e w8 ⟨rfl, hm8, hs8⟩); have HM8 := Lib.hid hm8; have HS8 := Lib.hid hs8; clear hm8 hs8)
            | (go_at_call 14; ((with_reducible refine (state_calls g' F _ _ (HM8.out.alloc _)).mono ?_); rintro e w' ⟨rfl, rfl⟩))
            | (go_at_call 15; ((with_reducible refine (due_calls g' F _ _ (HM8.out.alloc _)).mono ?_); rintro e w' ⟨rfl, rfl⟩))
            | (go_at_call 14; ((with_reducible refine (state_calls g F s' _ HM6.out).mono ?_); rintro e w' ⟨rfl, rfl⟩))
            | (go_at_call 15; ((with_reducible refine (due_calls g F s' _ HM6.out).mono ?_); rintro e w' ⟨rfl, rfl⟩))
            | (go_at_call 16; ((with_reducible refine (running_calls g F s' _ HM6.out).mono ?_); rintro e w' ⟨rfl, rfl⟩))
            | (go_at_call 14; ((with_reducible refine (state_calls g F s' _ HM5.out).mono ?_); rintro e w' ⟨rfl, rfl⟩))
            | (go_at_call 15; ((with_reducible refine (due_calls g F s' _ HM5.out).mono ?_); rintro e w' ⟨rfl, rfl⟩))
            | (go_at_call 16; ((with_reducible refine (running_calls g F s' _ HM5.out).mono ?_); rintro e w' ⟨rfl, rfl⟩))
            | (go_at_call 17; ((with_reducible refine (copy_calls g F s' _ HM6.out).mono ?_); rintro e w7 ⟨g', rfl, hg', hm7, b7⟩); have HM7 := Lib.hid hm7; have HB7 := Lib.hid b7; have HG7 := Lib.hid hg'; clear hm7 b7 hg')
            | (go_at_call 13; ((with_reducible refine (tick_no g F s' _ _ HM5.out (r64 (by omega) (by omega)) HF.out.dn HI5.out (.inr (by omega))).mono ?_); rintro e w6 ⟨rfl, hm6, hs6⟩); have HM6 := Lib.hid hm6; have HS6 := Lib.hid hs6; clear hm6 hs6))
          go_roundw
          case rel => exact ⟨k + 1, t + lt, s', by omega, htl0, HTL.out, by go_num, by go_num, ((HM6.out.below HB7.out).stp HS8.out (Nat.ne_of_lt (Nat.lt_of_lt_of_le HM6.out.lt HG7.out))).alloc _, HI5.out, HD5.out, HB.out.trans (((HS5.out.trans HS6.out).below HG.out hge).trans ((HB7.out.mono (Nat.le_trans hge (HS5.out.trans HS6.out).size)).trans ((HS8.out.below (Nat.le_trans (Nat.le_trans hge (HS5.out.trans HS6.out).size) HG7.out) (Nat.le_trans (Nat.le_trans hge (HS5.out.trans HS6.out).size) HB7.out.size)).alloc (Nat.le_trans (Nat.le_trans (Nat.le_trans hge (HS5.out.trans HS6.out).size) HB7.out.size) HS8.out.size) _)))⟩
          case measure => simp [intOf]; omega
        · obtain ⟨he, hst⟩ := hA
          rw [he] at hcT
          obtain ⟨st2, rn2, du2, la2⟩ := s2
          simp only at hdu hst
          have bst : (st2 == s'.st) = true := by simpa using hst
          have bdu : decide (du2 < s'.due) = false := decide_eq_false (by omega)
          have nst : (s'.st != s'.st) = false := by simp
          have nrn : (s'.runs != s'.runs) = false := by simp
          have ndu : (s'.due != s'.due) = false := by simp
          have hq1 := HD5.out.1
          have hq2 := HD5.out.2
          have HCT := Lib.hid hcT
          have HDU := Lib.hid hdu
          clear ci hi5 hd5 hst he hcT hdu
          go_wp2_with (first
            | (go_at_call 13; ((with_reducible refine (HC.out).mono ?_); rintro e w5 ⟨rfl, hm5, hs5⟩); have HM5 := Lib.hid hm5; have HS5 := Lib.hid hs5; clear hm5 hs5)
            | (go_at_call 13; ((with_reducible refine (HCT.out g' _ HM7.out).mono ?_); rintro e w8 ⟨rfl, hm8, hs8⟩); have HM8 := Lib.hid hm8; have HS8 := Lib.hid hs8; clear hm8 hs8)
            | (go_at_call 14; ((with_reducible refine (state_calls g' F _ _ (HM8.out.alloc _)).mono ?_); rintro e w' ⟨rfl, rfl⟩))
            | (go_at_call 15; ((with_reducible refine (due_calls g' F _ _ (HM8.out.alloc _)).mono ?_); rintro e w' ⟨rfl, rfl⟩))
            | (go_at_call 14; ((with_reducible refine (state_calls g F s' _ HM6.out).mono ?_); rintro e w' ⟨rfl, rfl⟩))
            | (go_at_call 15; ((with_reducible refine (due_calls g F s' _ HM6.out).mono ?_); rintro e w' ⟨rfl, rfl⟩))
            | (go_at_call 16; ((with_reducible refine (running_calls g F s' _ HM6.out).mono ?_); rintro e w' ⟨rfl, rfl⟩))
            | (go_at_call 14; ((with_reducible refine (state_calls g F s' _ HM5.out).mono ?_); rintro e w' ⟨rfl, rfl⟩))
            | (go_at_call 15; ((with_reducible refine (due_calls g F s' _ HM5.out).mono ?_); rintro e w' ⟨rfl, rfl⟩))
            | (go_at_call 16; ((with_reducible refine (running_calls g F s' _ HM5.out).mono ?_); rintro e w' ⟨rfl, rfl⟩))
            | (go_at_call 17; ((with_reducible refine (copy_calls g F s' _ HM6.out).mono ?_); rintro e w7 ⟨g', rfl, hg', hm7, b7⟩); have HM7 := Lib.hid hm7; have HB7 := Lib.hid b7; have HG7 := Lib.hid hg'; clear hm7 b7 hg')
            | (go_at_call 13; ((with_reducible refine (tick_no g F s' _ _ HM5.out (r64 (by omega) (by omega)) HF.out.dn HI5.out (.inr (by omega))).mono ?_); rintro e w6 ⟨rfl, hm6, hs6⟩); have HM6 := Lib.hid hm6; have HS6 := Lib.hid hs6; clear hm6 hs6))
          go_roundw
          case rel => exact ⟨k + 1, t + lt, s', by omega, htl0, HTL.out, by go_num, by go_num, ((HM6.out.below HB7.out).stp HS8.out (Nat.ne_of_lt (Nat.lt_of_lt_of_le HM6.out.lt HG7.out))).alloc _, HI5.out, HD5.out, HB.out.trans (((HS5.out.trans HS6.out).below HG.out hge).trans ((HB7.out.mono (Nat.le_trans hge (HS5.out.trans HS6.out).size)).trans ((HS8.out.below (Nat.le_trans (Nat.le_trans hge (HS5.out.trans HS6.out).size) HG7.out) (Nat.le_trans (Nat.le_trans hge (HS5.out.trans HS6.out).size) HB7.out.size)).alloc (Nat.le_trans (Nat.le_trans (Nat.le_trans hge (HS5.out.trans HS6.out).size) HB7.out.size) HS8.out.size) _)))⟩
          case measure => simp [intOf]; omega
      · have kb0 : (kd % 5 == 0) = false := by simp; omega
        have kb1 : (kd % 5 == 1) = false := by simp; omega
        have kb2 : (kd % 5 == 2) = false := by simp; omega
        have kb3 : (kd % 5 == 3) = false := by simp; omega
        clear h5
        have hi5 := HI.out
        have hd5 := HD.out
        obtain ⟨s', hs'⟩ : ∃ s', s' = s := ⟨_, rfl⟩
        rw [← hs'] at HM hi5 hd5
        clear hs'
        have HM5 := HM
        have HS5 := Lib.hid (Stp.refl g wr)
        have HI5 := Lib.hid hi5
        have HD5 := Lib.hid hd5
        by_cases ci : s'.due = 9223372036854775807
        · have bi : (s'.due == 9223372036854775807) = true := by simpa using ci
          have HZ := Lib.hid ci
          have nst : (s'.st != s'.st) = false := by simp
          have nrn : (s'.runs != s'.runs) = false := by simp
          clear ci hi5 hd5
          go_wp2_with (first
            | (go_at_call 14; ((with_reducible refine (state_calls g F s' _ HM5.out).mono ?_); rintro e w' ⟨rfl, rfl⟩))
            | (go_at_call 15; ((with_reducible refine (due_calls g F s' _ HM5.out).mono ?_); rintro e w' ⟨rfl, rfl⟩))
            | (go_at_call 16; ((with_reducible refine (running_calls g F s' _ HM5.out).mono ?_); rintro e w' ⟨rfl, rfl⟩))
            | (go_at_call 13; ((with_reducible refine (tick_no g F s' _ _ HM5.out (r64 (by omega) (by omega)) HF.out.dn HI5.out (.inl HZ.out)).mono ?_); rintro e w6 ⟨rfl, hm6, hs6⟩); have HM6 := Lib.hid hm6; have HS6 := Lib.hid hs6; clear hm6 hs6)
            | (go_at_call 14; ((with_reducible refine (state_calls g F s' _ HM6.out).mono ?_); rintro e w' ⟨rfl, rfl⟩))
            | (go_at_call 15; ((with_reducible refine (due_calls g F s' _ HM6.out).mono ?_); rintro e w' ⟨rfl, rfl⟩))
            | (go_at_call 16; ((with_reducible refine (running_calls g F s' _ HM6.out).mono ?_); rintro e w' ⟨rfl, rfl⟩)))
          go_roundw
          case rel => exact ⟨k + 1, t + lt, s', by omega, htl0, HTL.out, by go_num, by go_num, HM6.out, HI5.out, HD5.out, HB.out.trans ((HS5.out.trans HS6.out).below HG.out hge)⟩
          case measure => simp [intOf]; omega
        have bi : (s'.due == 9223372036854775807) = false := by simpa using ci
        have hta := tick_at F s' hi5 hd5 ci
        have hcT := fun g' ww hm' => tick_calls g' F s' s'.due ww hm' ⟨by have := hd5.1; omega, hd5.2⟩ HF.out.dn (inv_due s' hi5)
        obtain ⟨o2, ho2⟩ : ∃ o2, o2 = (tickV F s' s'.due).1 := ⟨_, rfl⟩
        obtain ⟨s2, hs2⟩ : ∃ s2, s2 = (tickV F s' s'.due).2 := ⟨_, rfl⟩
        rw [← ho2, ← hs2] at hta
        rw [← ho2, ← hs2] at hcT
        clear ho2 hs2
        obtain ⟨hA, hdu⟩ := hta
        rcases hA with hA | hA | hA
        · obtain ⟨he, hst⟩ := hA
          rw [he] at hcT
          obtain ⟨st2, rn2, du2, la2⟩ := s2
          simp only at hdu hst
          have bst : (st2 == s'.st) = false := by simpa using hst
          have bdu : decide (du2 < s'.due) = false := decide_eq_false (by omega)
          have nst : (s'.st != s'.st) = false := by simp
          have nrn : (s'.runs != s'.runs) = false := by simp
          have ndu : (s'.due != s'.due) = false := by simp
          have hq1 := HD5.out.1
          have hq2 := HD5.out.2
          have HCT := Lib.hid hcT
          have HDU := Lib.hid hdu
          clear ci hi5 hd5 hst he hcT hdu
          go_wp2_with (first
            | (go_at_call 13; ((with_reducible refine (HCT.out g' _ HM7.out).mono ?_); rintro e w8 ⟨rfl, hm8, hs8⟩); have HM8 := Lib.hid hm8; have HS8 := Lib.hid hs8; clear hm8 hs8)
            | (go_at_call 14; ((with_reducible refine (state_calls g' F _ _ (HM8.out.alloc _)).mono ?_); rintro e w' ⟨rfl, rfl⟩))
            | (go_at_call 15; ((with_reducible refine (due_calls g' F _ _ (HM8.out.alloc _)).mono ?_); rintro e w' ⟨rfl, rfl⟩))
            | (go_at_call 14; ((with_reducible refine (state_calls g F s' _ HM6.out).mono ?_); rintro e w' ⟨rfl, rfl⟩))
            | (go_at_call 15; ((with_reducible refine (due_calls g F s' _ HM6.out).mono ?_); rintro e w' ⟨rfl, rfl⟩))
            | (go_at_call 16; ((with_reducible refine (running_calls g F s' _ HM6.out).mono ?_); rintro e w' ⟨rfl, rfl⟩))
            | (go_at_call 14; ((with_reducible refine (state_calls g F s' _ HM5.out).mono ?_); rintro e w' ⟨rfl, rfl⟩))
            | (go_at_call 15; ((with_reducible refine (due_calls g F s' _ HM5.out).mono ?_); rintro e w' ⟨rfl, rfl⟩))
            | (go_at_call 16; ((with_reducible refine (running_calls g F s' _ HM5.out).mono ?_); rintro e w' ⟨rfl, rfl⟩))
            | (go_at_call 17; ((with_reducible refine (copy_calls g F s' _ HM6.out).mono ?_); rintro e w7 ⟨g', rfl, hg', hm7, b7⟩); have HM7 := Lib.hid hm7; have HB7 := Lib.hid b7; have HG7 := Lib.hid hg'; clear hm7 b7 hg')
            | (go_at_call 13; ((with_reducible refine (tick_no g F s' _ _ HM5.out (r64 (by omega) (by omega)) HF.out.dn HI5.out (.inr (by omega))).mono ?_); rintro e w6 ⟨rfl, hm6, hs6⟩); have HM6 := Lib.hid hm6; have HS6 := Lib.hid hs6; clear hm6 hs6))
          go_roundw
          case rel => exact ⟨k + 1, t + lt, s', by omega, htl0, HTL.out, by go_num, by go_num, ((HM6.out.below HB7.out).stp HS8.out (Nat.ne_of_lt (Nat.lt_of_lt_of_le HM6.out.lt HG7.out))).alloc _, HI5.out, HD5.out, HB.out.trans (((HS5.out.trans HS6.out).below HG.out hge).trans ((HB7.out.mono (Nat.le_trans hge (HS5.out.trans HS6.out).size)).trans ((HS8.out.below (Nat.le_trans (Nat.le_trans hge (HS5.out.trans HS6.out).size) HG7.out) (Nat.le_trans (Nat.le_trans hge (HS5.out.trans HS6.out).size) HB7.out.size)).alloc (Nat.le_trans (Nat.le_trans (Nat.le_trans hge (HS5.out.trans HS6.out).size) HB7.out.size) HS8.out.size) _)))⟩
          case measure => simp [intOf]; omega
        · obtain ⟨re, he, hst⟩ := hA
          rw [he] at hcT
          obtain ⟨st2, rn2, du2, la2⟩ := s2
          simp only at hdu hst
          have bst : (st2 == s'.st) = false := by simpa using hst
          have bdu : decide (du2 < s'.due) = false := decide_eq_false (by omega)
          have nst : (s'.st != s'.st) = false := by simp
          have nrn : (s'.runs != s'.runs) = false := by simp
          have ndu : (s'.due != s'.due) = false := by simp
          have hq1 := HD5.out.1
          have hq2 := HD5.out.2
          have HCT := Lib.hid hcT
          have HDU := Lib.hid hdu
          clear ci hi5 hd5 hst he hcT hdu
          go_wp2_with (first
            | (go_at_call 13; ((with_reducible refine (HCT.out g' _ HM7.out).mono ?_); rintro e w8 ⟨rfl, hm8, hs8⟩); have HM8 := Lib.hid hm8; have HS8 := Lib.hid hs8; clear hm8 hs8)
            | (go_at_call 14; ((with_reducible refine (state_calls g' F _ _ (HM8.out.alloc _)).mono ?_); rintro e w' ⟨rfl, rfl⟩))
            | (go_at_call 15; ((with_reducible refine (due_calls g' F _ _ (HM8.out.alloc _)).mono ?_); rintro e w' ⟨rfl, rfl⟩))
            | (go_at_call 14; ((with_reducible refine (state_calls g F s' _ HM6.out).mono ?_); rintro e w' ⟨rfl, rfl⟩))
            | (go_at_call 15; ((with_reducible refine (due_calls g F s' _ HM6.out).mono ?_); rintro e w' ⟨rfl, rfl⟩))
            | (go_at_call 16; ((with_reducible refine (running_calls g F s' _ HM6.out).mono ?_); rintro e w' ⟨rfl, rfl⟩))
            | (go_at_call 14; ((with_reducible refine (state_calls g F s' _ HM5.out).mono ?_); rintro e w' ⟨rfl, rfl⟩))
            | (go_at_call 15; ((with_reducible refine (due_calls g F s' _ HM5.out).mono ?_); rintro e w' ⟨rfl, rfl⟩))
            | (go_at_call 16; ((with_reducible refine (running_calls g F s' _ HM5.out).mono ?_); rintro e w' ⟨rfl, rfl⟩))
            | (go_at_call 17; ((with_reducible refine (copy_calls g F s' _ HM6.out).mono ?_); rintro e w7 ⟨g', rfl, hg', hm7, b7⟩); have HM7 := Lib.hid hm7; have HB7 := Lib.hid b7; have HG7 := Lib.hid hg'; clear hm7 b7 hg')
            | (go_at_call 13; ((with_reducible refine (tick_no g F s' _ _ HM5.out (r64 (by omega) (by omega)) HF.out.dn HI5.out (.inr (by omega))).mono ?_); rintro e w6 ⟨rfl, hm6, hs6⟩); have HM6 := Lib.hid hm6; have HS6 := Lib.hid hs6; clear hm6 hs6))
          go_roundw
          case rel => exact ⟨k + 1, t + lt, s', by omega, htl0, HTL.out, by go_num, by go_num, ((HM6.out.below HB7.out).stp HS8.out (Nat.ne_of_lt (Nat.lt_of_lt_of_le HM6.out.lt HG7.out))).alloc _, HI5.out, HD5.out, HB.out.trans (((HS5.out.trans HS6.out).below HG.out hge).trans ((HB7.out.mono (Nat.le_trans hge (HS5.out.trans HS6.out).size)).trans ((HS8.out.below (Nat.le_trans (Nat.le_trans hge (HS5.out.trans HS6.out).size) HG7.out) (Nat.le_trans (Nat.le_trans hge (HS5.out.trans HS6.out).size) HB7.out.size)).alloc (Nat.le_trans (Nat.le_trans (Nat.le_trans hge (HS5.out.trans HS6.out).size) HB7.out.size) HS8.out.size) _)))⟩
          case measure => simp [intOf]; omega
        · obtain ⟨he, hst⟩ := hA
          rw [he] at hcT
          obtain ⟨st2, rn2, du2, la2⟩ := s2
          simp only at hdu hst
          have bst : (st2 == s'.st) = true := by simpa using hst
          have bdu : decide (du2 < s'.due) = false := decide_eq_false (by omega)
          have nst : (s'.st != s'.st) = false := by simp
          have nrn : (s'.runs != s'.runs) = false := by simp
          have ndu : (s'.due != s'.due) = false := by simp
          have hq1 := HD5.out.1
          have hq2 := HD5.out.2
          have HCT := Lib.hid hcT
          have HDU := Lib.hid hdu
          clear ci hi5 hd5 hst he hcT hdu
          go_wp2_with (first
            | (go_at_call 13; ((with_reducible refine (HCT.out g' _ HM7.out).mono ?_); rintro e w8 ⟨rfl, hm8, hs8⟩); have HM8 := Lib.hid hm8; have HS8 := Lib.hid hs8; clear hm8 hs8)
            | (go_at_call 14; ((with_reducible refine (state_calls g' F _ _ (HM8.out.alloc _)).mono ?_); rintro e w' ⟨rfl, rfl⟩))
            | (go_at_call 15; ((with_reducible refine (due_calls g' F _ _ (HM8.out.alloc _)).mono ?_); rintro e w' ⟨rfl, rfl⟩))
            | (go_at_call 14; ((with_reducible refine (state_calls g F s' _ HM6.out).mono ?_); rintro e w' ⟨rfl, rfl⟩))
            | (go_at_call 15; ((with_reducible refine (due_calls g F s' _ HM6.out).mono ?_); rintro e w' ⟨rfl, rfl⟩))
            | (go_at_call 16; ((with_reducible refine (running_calls g F s' _ HM6.out).mono ?_); rintro e w' ⟨rfl, rfl⟩))
            | (go_at_call 14; ((with_reducible refine (state_calls g F s' _ HM5.out).mono ?_); rintro e w' ⟨rfl, rfl⟩))
            | (go_at_call 15; ((with_reducible refine (due_calls g F s' _ HM5.out).mono ?_); rintro e w' ⟨rfl, rfl⟩))
            | (go_at_call 16; ((with_reducible refine (running_calls g F s' _ HM5.out).mono ?_); rintro e w' ⟨rfl, rfl⟩))
            | (go_at_call 17; ((with_reducible refine (copy_calls g F s' _ HM6.out).mono ?_); rintro e w7 ⟨g', rfl, hg', hm7, b7⟩); have HM7 := Lib.hid hm7; have HB7 := Lib.hid b7; have HG7 := Lib.hid hg'; clear hm7 b7 hg')
            | (go_at_call 13; ((with_reducible refine (tick_no g F s' _ _ HM5.out (r64 (by omega) (by omega)) HF.out.dn HI5.out (.inr (by omega))).mono ?_); rintro e w6 ⟨rfl, hm6, hs6⟩); have HM6 := Lib.hid hm6; have HS6 := Lib.hid hs6; clear hm6 hs6))
          go_roundw
          case rel => exact ⟨k + 1, t + lt, s', by omega, htl0, HTL.out, by go_num, by go_num, ((HM6.out.below HB7.out).stp HS8.out (Nat.ne_of_lt (Nat.lt_of_lt_of_le HM6.out.lt HG7.out))).alloc _, HI5.out, HD5.out, HB.out.trans (((HS5.out.trans HS6.out).below HG.out hge).trans ((HB7.out.mono (Nat.le_trans hge (HS5.out.trans HS6.out).size)).trans ((HS8.out.below (Nat.le_trans (Nat.le_trans hge (HS5.out.trans HS6.out).size) HG7.out) (Nat.le_trans (Nat.le_trans hge (HS5.out.trans HS6.out).size) HB7.out.size)).alloc (Nat.le_trans (Nat.le_trans (Nat.le_trans hge (HS5.out.trans HS6.out).size) HB7.out.size) HS8.out.size) _)))⟩
          case measure => simp [intOf]; omega

    · have hlb : decide ((k : Int) < (l.length : Int)) = false := decide_eq_false (by omega)
      go_wp2_with (first
        | (go_at_call 18; ((with_reducible refine (works_calls _).mono ?_); rintro e wz ⟨rfl, bz⟩); have BZ := Lib.hid bz; clear bz))
      go_ret
      exact ⟨rfl, HB.out.trans (BZ.out.mono HB.out.size)⟩
end Go.Proofs.Ytngoenbdimlppaa.Svc
