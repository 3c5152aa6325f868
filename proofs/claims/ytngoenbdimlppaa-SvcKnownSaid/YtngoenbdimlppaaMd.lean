/- The walk of the law SvcProcess. -/
import Derived.Test.YtngoenbdimlppaaMc
import Derived.Test.YtngoenbdimlppaaA0
namespace Go.Proofs.Ytngoenbdimlppaa.Svc
open Go.RowKit Go.Proofs.YtngoenbdimlppaaW.PrintWords Go.Proofs.YtngoenbdimlppaaW.PrintLast Go.Proofs.YtngoenbdimlppaaW.PrintMore
open Go.Proofs.Ytngoenbdimlppaa.All (S25 k25 rd_T25 at_T25)
set_option linter.unusedVariables false
set_option linter.unusedSimpArgs false
set_option maxRecDepth 100000

/-- A file's numbers are of their kinds. -/
structure FileOK (F : FV) : Prop where
  agn : R64 F.agn
  up : R64 F.up
  dn : R64 F.dn
/-- A call's numbers are of their kinds. -/
def Fit25 (x : S25) : Prop := 0 ≤ x.f0 ∧ x.f0 ≤ 255 ∧ 0 ≤ x.f2 ∧ x.f2 ≤ 4294967295
theorem rd_fit {l : List S25} (h : ∀ x ∈ l, Fit25 x) (k : Nat) (hk : k < l.length) : Fit25 (rd_T25 l (k : Int)) := by
  unfold rd_T25
  simp only [Int.toNat_natCast, List.getD_eq_getElem?_getD, List.getElem?_eq_getElem hk, Option.getD_some]
  exact h _ (List.getElem_mem hk)
/-- The call at k, its cells as they stand in a world that keeps what came in. -/
theorem call_cells {w wr : World} {A : Option Addr} {l : List S25} (h : Kd.C k25 w A l.length l) (hb : Below w.heap.size w wr) (k : Nat) (hk : k < l.length) :
    ∃ ad, A = some ad ∧ wr.cell? (ad.add (k * 3)) = some (.int .u8 (rd_T25 l k).f0) ∧ wr.cell? ⟨(ad.add (k * 3)).block, (ad.add (k * 3)).off + 1, none⟩ = some (.int .i64 (rd_T25 l k).f1) ∧
      wr.cell? ⟨(ad.add (k * 3)).block, (ad.add (k * 3)).off + 2, none⟩ = some (.int .u32 (rd_T25 l k).f2) ∧ (ad.add (k * 3)).block < w.heap.size := by
  obtain ⟨ad, e, h0, h1, h2⟩ := at_T25 h (k : Int) (by omega) (by omega)
  simp only [Int.toNat_natCast] at h0 h1 h2
  have b0 := World.block_lt_of_cell? w _ h0
  have b1 := World.block_lt_of_cell? w _ h1
  have b2 := World.block_lt_of_cell? w _ h2
  exact ⟨ad, e, (hb.cell b0).trans h0, (hb.cell b1).trans h1, (hb.cell b2).trans h2, b0⟩

set_option maxHeartbeats 4000000 in
theorem process_calls (F : FV) (A : Option Addr) (c0 : Nat) (l : List S25) (w : World) (hF : FileOK F) (hl : Kd.C k25 w A l.length l) (hc : l.length ≤ c0) (hfit : ∀ x ∈ l, Fit25 x) (hlen : l.length ≤ 9223372036854775807) :
    Calls Try.prog 7 #[.agg (fc F), .slice A l.length c0] w fun e w' => e = .returned (.bool true) ∧ Below w.heap.size w w' := by
  have hu36 := Try.underlying36
  have hu43 := Try.underlying43
  have HF := Lib.hid hF
  have HL := Lib.hid hl
  have HT := Lib.hid hfit
  clear hF hl hfit
  by_cases c1 : 100 < l.length
  · have b1 : decide ((100 : Int) < (l.length : Int)) = true := decide_eq_true (by omega)
    clear c1
    go_enter Try.func7, Try.ntmps7
    go_wp2_with (first
      | ((with_reducible refine gate_dst (N := 2) rfl ?_); refine box_event ?hg (N := 2) ?hd (cs := fc F) (t := 36) ?hr ?_; (case hd => rfl); (case hg => rfl); (case hr => first | (go_simp; done) | (go_simp; rfl)); intro g1 e1 w1 h1 b1; have H1 := Lib.hid h1; have B1 := Lib.hid b1; clear e1 h1 b1)
      | (go_at_call 18; ((with_reducible refine (works_calls _).mono ?_); rintro e ww ⟨rfl, bw⟩); have BW := Lib.hid bw; clear bw))
    go_ret
    exact ⟨rfl, B1.out.trans (BW.out.mono B1.out.size)⟩
  have b1 : decide ((100 : Int) < (l.length : Int)) = false := decide_eq_false (by omega)
  by_cases cr : Ready F
  case neg =>
    have HR := Lib.hid (decide_eq_false cr)
    clear c1 cr
    go_enter Try.func7, Try.ntmps7
    go_wp2_with (first
      | ((with_reducible refine gate_dst (N := 2) rfl ?_); refine box_event ?hg (N := 2) ?hd (cs := fc F) (t := 36) ?hr ?_; (case hd => rfl); (case hg => rfl); (case hr => first | (go_simp; done) | (go_simp; rfl)); intro g1 e1 w1 h1 b1; have H1 := Lib.hid h1; have B1 := Lib.hid b1; clear e1 h1 b1)
      | ((with_reducible refine gate_dst (N := 15) rfl ?_); refine wpList_load_if rfl 36 _ rfl g1 0 rfl (fc F).toList _ (range_blk H1.out) hu36 rfl (by kernel_rfl) ?_)
      | (go_at_call 19; ((with_reducible refine (ready_calls F _).mono ?_); rw [HR.out]; rintro e w2 ⟨rfl, b2⟩); have B2 := Lib.hid b2; clear b2)
      | (go_at_call 18; ((with_reducible refine (works_calls _).mono ?_); rintro e ww ⟨rfl, bw⟩); have BW := Lib.hid bw; clear bw))
    go_ret
    exact ⟨rfl, (B1.out.trans (B2.out.mono B1.out.size)).trans (BW.out.mono (Nat.le_trans B1.out.size B2.out.size))⟩
  have HR := Lib.hid (decide_eq_true cr)
  clear cr
  have hl100 : l.length ≤ 100 := by omega
  clear c1
  go_enter Try.func7, Try.ntmps7
  go_wp2_with (first
    | ((with_reducible refine gate_dst (N := 2) rfl ?_); refine box_event ?hg (N := 2) ?hd (cs := fc F) (t := 36) ?hr ?_; (case hd => rfl); (case hg => rfl); (case hr => first | (go_simp; done) | (go_simp; rfl)); intro g1 e1 w1 h1 b1; have H1 := Lib.hid h1; have B1 := Lib.hid b1; clear e1 h1 b1)
    | ((with_reducible refine gate_dst (N := 15) rfl ?_); refine wpList_load_if rfl 36 _ rfl g1 0 rfl (fc F).toList _ (range_blk H1.out) hu36 rfl (by kernel_rfl) ?_)
    | (go_at_call 19; ((with_reducible refine (ready_calls F _).mono ?_); rw [HR.out]; rintro e w2 ⟨rfl, b2⟩); have H2 := Lib.hid (blk_below H1.out b2); have B2 := Lib.hid (B1.out.trans (b2.mono B1.out.size)); clear b2)
    | ((with_reducible refine gate_dst (N := 20) rfl ?_); refine wpList_load_mid rfl 36 _ rfl g1 0 rfl (fc F).toList _ (range_blk H2.out) hu36 rfl (by kernel_rfl) ?_)
    | (go_at_call 20; ((with_reducible refine (new_calls F _).mono ?_); rintro e w3 ⟨g, rfl, hg, hm3, b3⟩); have H3 := Lib.hid (blk_below H2.out b3); have HNE := Lib.hid (Nat.ne_of_lt (Nat.lt_of_lt_of_le (blk_lt H2.out) hg)); have HG := Lib.hid (Nat.le_trans B2.out.size hg); have HM3 := Lib.hid hm3; have B3 := Lib.hid (B2.out.trans (b3.mono B2.out.size)); clear hg hm3 b3))
  go_loopw [6, 7, 8] (fun nw rn i wr => ∃ (k : Nat) (t : Int) (s : MS) (r : Bool), k ≤ l.length ∧ 0 ≤ t ∧ t ≤ k * 4294967295 ∧ nw = .int .i64 t ∧ rn = .bool r ∧ i = .int .i64 k ∧ r = s.runs ∧ MB wr g F s ∧ Inv s ∧ Below w.heap.size w wr ∧ wr.heap[g1]? = some (.cells (fc F) 36 (0, 0)))
    (fun _ _ i _ => l.length - (intOf i).toNat)
  case atStart => exact ⟨0, 0, newS, false, Nat.zero_le _, by omega, by omega, rfl, rfl, rfl, rfl, HM3.out, inv_new, B3.out, H3.out⟩
  case round =>
    obtain ⟨k, t, s, r, hk, ht0, htk, rfl, rfl, rfl, hr, hm, hi, hB, hX⟩ := hrel
    have hlt0 := hm.lt
    have HRr := Lib.hid hr
    have HM := Lib.hid hm
    have HI := Lib.hid hi
    have HB := Lib.hid hB
    have HX := Lib.hid hX
    clear hr hm hi hB hX
    by_cases hlt : k < l.length
    · have hlb : decide ((k : Int) < (l.length : Int)) = true := decide_eq_true (by omega)
      obtain ⟨ad, rfl, x0, x1, x2, xb⟩ := call_cells HL.out HB.out k hlt
      have hf := rd_fit HT.out k hlt
      obtain ⟨kd, hkd⟩ : ∃ kd, kd = (rd_T25 l k).f0 := ⟨_, rfl⟩
      obtain ⟨cd, hcd⟩ : ∃ cd, cd = (rd_T25 l k).f1 := ⟨_, rfl⟩
      obtain ⟨lt, hlt'⟩ : ∃ lt, lt = (rd_T25 l k).f2 := ⟨_, rfl⟩
      rw [← hkd] at x0; rw [← hcd] at x1; rw [← hlt'] at x2
      unfold Fit25 at hf
      rw [← hkd, ← hlt'] at hf
      obtain ⟨f1, f2, f3, f4⟩ := hf
      have ht1 : t ≤ 429496729500 := by omega
      have htl : t + lt ≤ (k + 1 : Nat) * 4294967295 := by omega
      have htl0 : 0 ≤ t + lt := by omega
      have hge : w.heap.size ≤ wr.heap.size := HB.out.size
      have HTL := Lib.hid htl
      have hgw : g1 < wr.heap.size := blk_lt HX.out
      have hR64 : R64 (t + lt) := ⟨by omega, by omega⟩
      have HR64 := Lib.hid hR64
      clear hkd hcd hlt' htk htl hR64
      have hsz : wr.heap.size < (wr.alloc (.cells #[.bool false, .bool false, .bool false, .int .u8 0] 43)).heap.size := by rw [World.size_alloc]; omega
      have HSZ := Lib.hid hsz
      have ba := (Below.refl wr.heap.size wr).alloc (Nat.le_refl _) (.cells #[.bool false, .bool false, .bool false, .int .u8 0] 43)
      have x0a := (ba.cell (p := ad.add (k * 3)) (by omega)).trans x0
      have x1a := (ba.cell (p := ⟨(ad.add (k * 3)).block, (ad.add (k * 3)).off + 1, none⟩) (by simp only []; omega)).trans x1
      have y0a : (wr.alloc (.cells #[.bool false, .bool false, .bool false, .int .u8 0] 43)).cell? ⟨g1, 0, none⟩ = some (.int .u8 F.kind) := (blk_cell (blk_alloc HX.out _) 0).trans rfl
      clear hsz ba
      have kdc : kd % 5 = 0 ∨ kd % 5 = 1 ∨ kd % 5 = 2 ∨ kd % 5 = 3 ∨ kd % 5 = 4 := by omega
      rcases kdc with h5 | h5 | h5 | h5 | h5
      · have kb0 : (kd % 5 == 0) = true := by simpa using h5
        have kb1 : (kd % 5 == 1) = false := by simp; omega
        have kb2 : (kd % 5 == 2) = false := by simp; omega
        have kb3 : (kd % 5 == 3) = false := by simp; omega
        clear h5
        have hcc := fun (ob : Obj) => start_calls g F s (t + lt) _ (HM.out.alloc ob) HR64.out HF.out.up
        have hin := inv_start F s (t + lt) HI.out
        obtain ⟨er, her⟩ : ∃ er, er = (startV F s (t + lt)).1.2 := ⟨_, rfl⟩
        rw [← her] at hcc
        clear her
        obtain ⟨o, ho⟩ : ∃ o, o = (startV F s (t + lt)).1.1 := ⟨_, rfl⟩
        obtain ⟨s', hs'⟩ : ∃ s', s' = (startV F s (t + lt)).2 := ⟨_, rfl⟩
        rw [← ho, ← hs'] at hcc hin
        clear ho hs'
        obtain ⟨hi5, hp⟩ := hin
        obtain ⟨sp, ki, ag, re⟩ := o
        obtain ⟨st', rn', du', la'⟩ := s'
        rw [← HRr.out] at hp
        have HC := Lib.hid (hcc (.cells #[.bool false, .bool false, .bool false, .int .u8 0] 43))
        clear hcc
        have HI5 := Lib.hid hi5
        clear hi5
        rcases hp with ⟨e1, e2, e3, e4, e5⟩ | ⟨e1, e2, e3, e6, e4, e5⟩ | ⟨e1, e2, e3, e4, e5⟩ | ⟨e1, e2, e3, e4, e5⟩
        · simp only at e1 e2 e3 e4 e5
          subst e1 e2 e3
          cases hrn : rn'
          · subst hrn
            have h4 : st' ≠ 4 := e5 (by first | rfl | trivial)
            clear e4 e5
            have sb4 : (st' == 4) = false := by simp; omega
            clear h4
            go_wp2_with (first
              | (go_at_call 10; ((with_reducible refine (HC.out).mono ?_); rintro e w5 ⟨rfl, hm5, hs5⟩); have hx5 := hs5.blk (blk_new wr _) (by omega); have hlt5 := hm5.lt; have hlx5 := blk_lt hx5; obtain ⟨k0, k1, k2, k3, q0, q1, q2, q3⟩ := box4 hx5; have hy5 := hs5.blk (blk_alloc HX.out _) HNE.out; have y0 : w5.cell? ⟨g1, 0, none⟩ = some (.int .u8 F.kind) := (blk_cell hy5 0).trans rfl; have HX5 := Lib.hid hy5; have HM5 := Lib.hid hm5; have HS5 := Lib.hid hs5; clear hm5 hs5 hx5 hy5)
              | (go_at_call 14; ((with_reducible refine (state_calls g F _ _ (HM5.out.far4 (by omega) _ _ _ _)).mono ?_); rintro e w' ⟨rfl, rfl⟩))
              | (go_at_call 16; ((with_reducible refine (running_calls g F _ _ (HM5.out.far4 (by omega) _ _ _ _)).mono ?_); rintro e w' ⟨rfl, rfl⟩)))
            go_roundw
            case rel => exact ⟨k + 1, t + lt, _, _, by omega, htl0, HTL.out, by go_num, rfl, by go_num, rfl, HM5.out.far4 (by omega) _ _ _ _, HI5.out, (((HB.out.alloc HB.out.size _).trans (HS5.out.below HG.out (by rw [World.size_alloc]; omega))).setCell (by simp only []; omega) _ |>.setCell (by simp only []; omega) _ |>.setCell (by simp only []; omega) _ |>.setCell (by simp only []; omega) _), blk_far (blk_far (blk_far (blk_far HX5.out (by simp only []; omega) _) (by simp only []; omega) _) (by simp only []; omega) _) (by simp only []; omega) _⟩
            case measure => simp [intOf]; omega
          · subst hrn
            obtain ⟨h1, h2⟩ := e4 (by first | rfl | trivial)
            clear e4 e5
            by_cases h4 : st' = 4
            · have sb4 : (st' == 4) = true := by simp; omega
              have sb1 : (st' == 1) = false := by simp; omega
              have sb5 : (st' == 5) = false := by simp; omega
              clear h1 h2 h4
              go_wp2_with (first
                | (go_at_call 10; ((with_reducible refine (HC.out).mono ?_); rintro e w5 ⟨rfl, hm5, hs5⟩); have hx5 := hs5.blk (blk_new wr _) (by omega); have hlt5 := hm5.lt; have hlx5 := blk_lt hx5; obtain ⟨k0, k1, k2, k3, q0, q1, q2, q3⟩ := box4 hx5; have hy5 := hs5.blk (blk_alloc HX.out _) HNE.out; have y0 : w5.cell? ⟨g1, 0, none⟩ = some (.int .u8 F.kind) := (blk_cell hy5 0).trans rfl; have HX5 := Lib.hid hy5; have HM5 := Lib.hid hm5; have HS5 := Lib.hid hs5; clear hm5 hs5 hx5 hy5)
                | (go_at_call 14; ((with_reducible refine (state_calls g F _ _ (HM5.out.far4 (by omega) _ _ _ _)).mono ?_); rintro e w' ⟨rfl, rfl⟩))
                | (go_at_call 16; ((with_reducible refine (running_calls g F _ _ (HM5.out.far4 (by omega) _ _ _ _)).mono ?_); rintro e w' ⟨rfl, rfl⟩)))
              go_roundw
              case rel => exact ⟨k + 1, t + lt, _, _, by omega, htl0, HTL.out, by go_num, rfl, by go_num, rfl, HM5.out.far4 (by omega) _ _ _ _, HI5.out, (((HB.out.alloc HB.out.size _).trans (HS5.out.below HG.out (by rw [World.size_alloc]; omega))).setCell (by simp only []; omega) _ |>.setCell (by simp only []; omega) _ |>.setCell (by simp only []; omega) _ |>.setCell (by simp only []; omega) _), blk_far (blk_far (blk_far (blk_far HX5.out (by simp only []; omega) _) (by simp only []; omega) _) (by simp only []; omega) _) (by simp only []; omega) _⟩
              case measure => simp [intOf]; omega
            · have sb4 : (st' == 4) = false := by simp; omega
              have sb1 : (st' == 1) = false := by simp; omega
              have sb5 : (st' == 5) = false := by simp; omega
              clear h1 h2 h4
              go_wp2_with (first
                | (go_at_call 10; ((with_reducible refine (HC.out).mono ?_); rintro e w5 ⟨rfl, hm5, hs5⟩); have hx5 := hs5.blk (blk_new wr _) (by omega); have hlt5 := hm5.lt; have hlx5 := blk_lt hx5; obtain ⟨k0, k1, k2, k3, q0, q1, q2, q3⟩ := box4 hx5; have hy5 := hs5.blk (blk_alloc HX.out _) HNE.out; have y0 : w5.cell? ⟨g1, 0, none⟩ = some (.int .u8 F.kind) := (blk_cell hy5 0).trans rfl; have HX5 := Lib.hid hy5; have HM5 := Lib.hid hm5; have HS5 := Lib.hid hs5; clear hm5 hs5 hx5 hy5)
                | (go_at_call 14; ((with_reducible refine (state_calls g F _ _ (HM5.out.far4 (by omega) _ _ _ _)).mono ?_); rintro e w' ⟨rfl, rfl⟩))
                | (go_at_call 16; ((with_reducible refine (running_calls g F _ _ (HM5.out.far4 (by omega) _ _ _ _)).mono ?_); rintro e w' ⟨rfl, rfl⟩)))
              go_roundw
              case rel => exact ⟨k + 1, t + lt, _, _, by omega, htl0, HTL.out, by go_num, rfl, by go_num, rfl, HM5.out.far4 (by omega) _ _ _ _, HI5.out, (((HB.out.alloc HB.out.size _).trans (HS5.out.below HG.out (by rw [World.size_alloc]; omega))).setCell (by simp only []; omega) _ |>.setCell (by simp only []; omega) _ |>.setCell (by simp only []; omega) _ |>.setCell (by simp only []; omega) _), blk_far (blk_far (blk_far (blk_far HX5.out (by simp only []; omega) _) (by simp only []; omega) _) (by simp only []; omega) _) (by simp only []; omega) _⟩
              case measure => simp [intOf]; omega
        · simp only at e1 e2 e3 e4 e5
          subst e1 e2 e4
          subst e3
          have bk : (F.kind != 1) = false := by simpa using e6
          have sb1 : (st' == 1) = false := by simp; omega
          have sb5 : (st' == 5) = false := by simp; omega
          have sb4 : (st' == 4) = false := by simp; omega
          clear e5 e6
          go_wp2_with (first
            | (go_at_call 10; ((with_reducible refine (HC.out).mono ?_); rintro e w5 ⟨rfl, hm5, hs5⟩); have hx5 := hs5.blk (blk_new wr _) (by omega); have hlt5 := hm5.lt; have hlx5 := blk_lt hx5; obtain ⟨k0, k1, k2, k3, q0, q1, q2, q3⟩ := box4 hx5; have hy5 := hs5.blk (blk_alloc HX.out _) HNE.out; have y0 : w5.cell? ⟨g1, 0, none⟩ = some (.int .u8 F.kind) := (blk_cell hy5 0).trans rfl; have HX5 := Lib.hid hy5; have HM5 := Lib.hid hm5; have HS5 := Lib.hid hs5; clear hm5 hs5 hx5 hy5)
            | (go_at_call 14; ((with_reducible refine (state_calls g F _ _ (HM5.out.far4 (by omega) _ _ _ _)).mono ?_); rintro e w' ⟨rfl, rfl⟩))
            | (go_at_call 16; ((with_reducible refine (running_calls g F _ _ (HM5.out.far4 (by omega) _ _ _ _)).mono ?_); rintro e w' ⟨rfl, rfl⟩)))
          go_roundw
          case rel => exact ⟨k + 1, t + lt, _, _, by omega, htl0, HTL.out, by go_num, rfl, by go_num, rfl, HM5.out.far4 (by omega) _ _ _ _, HI5.out, (((HB.out.alloc HB.out.size _).trans (HS5.out.below HG.out (by rw [World.size_alloc]; omega))).setCell (by simp only []; omega) _ |>.setCell (by simp only []; omega) _ |>.setCell (by simp only []; omega) _ |>.setCell (by simp only []; omega) _), blk_far (blk_far (blk_far (blk_far HX5.out (by simp only []; omega) _) (by simp only []; omega) _) (by simp only []; omega) _) (by simp only []; omega) _⟩
          case measure => simp [intOf]; omega
        · simp only at e1 e2 e3 e4 e5
          subst e1 e2 e3 e4
          have sb1 : (st' == 1) = false := by simp; omega
          have sb5 : (st' == 5) = false := by simp; omega
          have sb4 : (st' == 4) = true := by simp; omega
          clear e5
          go_wp2_with (first
            | (go_at_call 10; ((with_reducible refine (HC.out).mono ?_); rintro e w5 ⟨rfl, hm5, hs5⟩); have hx5 := hs5.blk (blk_new wr _) (by omega); have hlt5 := hm5.lt; have hlx5 := blk_lt hx5; obtain ⟨k0, k1, k2, k3, q0, q1, q2, q3⟩ := box4 hx5; have hy5 := hs5.blk (blk_alloc HX.out _) HNE.out; have y0 : w5.cell? ⟨g1, 0, none⟩ = some (.int .u8 F.kind) := (blk_cell hy5 0).trans rfl; have HX5 := Lib.hid hy5; have HM5 := Lib.hid hm5; have HS5 := Lib.hid hs5; clear hm5 hs5 hx5 hy5)
            | (go_at_call 14; ((with_reducible refine (state_calls g F _ _ (HM5.out.far4 (by omega) _ _ _ _)).mono ?_); rintro e w' ⟨rfl, rfl⟩))
            | (go_at_call 16; ((with_reducible refine (running_calls g F _ _ (HM5.out.far4 (by omega) _ _ _ _)).mono ?_); rintro e w' ⟨rfl, rfl⟩)))
          go_roundw
          case rel => exact ⟨k + 1, t + lt, _, _, by omega, htl0, HTL.out, by go_num, rfl, by go_num, rfl, HM5.out.far4 (by omega) _ _ _ _, HI5.out, (((HB.out.alloc HB.out.size _).trans (HS5.out.below HG.out (by rw [World.size_alloc]; omega))).setCell (by simp only []; omega) _ |>.setCell (by simp only []; omega) _ |>.setCell (by simp only []; omega) _ |>.setCell (by simp only []; omega) _), blk_far (blk_far (blk_far (blk_far HX5.out (by simp only []; omega) _) (by simp only []; omega) _) (by simp only []; omega) _) (by simp only []; omega) _⟩
          case measure => simp [intOf]; omega
        · simp only at e1 e2 e3 e4 e5
          subst e1 e2 e3 e4
          have sb5 : (st' == 5) = true := by simp; omega
          have sb4 : (st' == 4) = false := by simp; omega
          clear e5
          go_wp2_with (first
            | (go_at_call 10; ((with_reducible refine (HC.out).mono ?_); rintro e w5 ⟨rfl, hm5, hs5⟩); have hx5 := hs5.blk (blk_new wr _) (by omega); have hlt5 := hm5.lt; have hlx5 := blk_lt hx5; obtain ⟨k0, k1, k2, k3, q0, q1, q2, q3⟩ := box4 hx5; have hy5 := hs5.blk (blk_alloc HX.out _) HNE.out; have y0 : w5.cell? ⟨g1, 0, none⟩ = some (.int .u8 F.kind) := (blk_cell hy5 0).trans rfl; have HX5 := Lib.hid hy5; have HM5 := Lib.hid hm5; have HS5 := Lib.hid hs5; clear hm5 hs5 hx5 hy5)
            | (go_at_call 14; ((with_reducible refine (state_calls g F _ _ (HM5.out.far4 (by omega) _ _ _ _)).mono ?_); rintro e w' ⟨rfl, rfl⟩))
            | (go_at_call 16; ((with_reducible refine (running_calls g F _ _ (HM5.out.far4 (by omega) _ _ _ _)).mono ?_); rintro e w' ⟨rfl, rfl⟩)))
          go_roundw
          case rel => exact ⟨k + 1, t + lt, _, _, by omega, htl0, HTL.out, by go_num, rfl, by go_num, rfl, HM5.out.far4 (by omega) _ _ _ _, HI5.out, (((HB.out.alloc HB.out.size _).trans (HS5.out.below HG.out (by rw [World.size_alloc]; omega))).setCell (by simp only []; omega) _ |>.setCell (by simp only []; omega) _ |>.setCell (by simp only []; omega) _ |>.setCell (by simp only []; omega) _), blk_far (blk_far (blk_far (blk_far HX5.out (by simp only []; omega) _) (by simp only []; omega) _) (by simp only []; omega) _) (by simp only []; omega) _⟩
          case measure => simp [intOf]; omega
      · have kb0 : (kd % 5 == 0) = false := by simp; omega
        have kb1 : (kd % 5 == 1) = true := by simpa using h5
        have kb2 : (kd % 5 == 2) = false := by simp; omega
        have kb3 : (kd % 5 == 3) = false := by simp; omega
        clear h5
        have hcc := fun (ob : Obj) => stop_calls g F s (t + lt) _ (HM.out.alloc ob) HR64.out HF.out.dn
        have hin := inv_stop F s (t + lt) HI.out
        obtain ⟨o, ho⟩ : ∃ o, o = (stopV F s (t + lt)).1 := ⟨_, rfl⟩
        obtain ⟨s', hs'⟩ : ∃ s', s' = (stopV F s (t + lt)).2 := ⟨_, rfl⟩
        rw [← ho, ← hs'] at hcc hin
        clear ho hs'
        obtain ⟨hi5, hp⟩ := hin
        obtain ⟨sp, ki, ag, re⟩ := o
        obtain ⟨st', rn', du', la'⟩ := s'
        rw [← HRr.out] at hp
        have HC := Lib.hid (hcc (.cells #[.bool false, .bool false, .bool false, .int .u8 0] 43))
        clear hcc
        have HI5 := Lib.hid hi5
        clear hi5
        rcases hp with ⟨e1, e2, e3, e4, e5⟩ | ⟨e1, e2, e3, e6, e4, e5⟩ | ⟨e1, e2, e3, e4, e5⟩ | ⟨e1, e2, e3, e4, e5⟩
        · simp only at e1 e2 e3 e4 e5
          subst e1 e2 e3
          cases hrn : rn'
          · subst hrn
            have h4 : st' ≠ 4 := e5 (by first | rfl | trivial)
            clear e4 e5
            have sb4 : (st' == 4) = false := by simp; omega
            clear h4
            go_wp2_with (first
              | (go_at_call 11; ((with_reducible refine (HC.out).mono ?_); rintro e w5 ⟨rfl, hm5, hs5⟩); have hx5 := hs5.blk (blk_new wr _) (by omega); have hlt5 := hm5.lt; have hlx5 := blk_lt hx5; obtain ⟨k0, k1, k2, k3, q0, q1, q2, q3⟩ := box4 hx5; have hy5 := hs5.blk (blk_alloc HX.out _) HNE.out; have y0 : w5.cell? ⟨g1, 0, none⟩ = some (.int .u8 F.kind) := (blk_cell hy5 0).trans rfl; have HX5 := Lib.hid hy5; have HM5 := Lib.hid hm5; have HS5 := Lib.hid hs5; clear hm5 hs5 hx5 hy5)
              | (go_at_call 14; ((with_reducible refine (state_calls g F _ _ (HM5.out.far4 (by omega) _ _ _ _)).mono ?_); rintro e w' ⟨rfl, rfl⟩))
              | (go_at_call 16; ((with_reducible refine (running_calls g F _ _ (HM5.out.far4 (by omega) _ _ _ _)).mono ?_); rintro e w' ⟨rfl, rfl⟩)))
            go_roundw
            case rel => exact ⟨k + 1, t + lt, _, _, by omega, htl0, HTL.out, by go_num, rfl, by go_num, rfl, HM5.out.far4 (by omega) _ _ _ _, HI5.out, (((HB.out.alloc HB.out.size _).trans (HS5.out.below HG.out (by rw [World.size_alloc]; omega))).setCell (by simp only []; omega) _ |>.setCell (by simp only []; omega) _ |>.setCell (by simp only []; omega) _ |>.setCell (by simp only []; omega) _), blk_far (blk_far (blk_far (blk_far HX5.out (by simp only []; omega) _) (by simp only []; omega) _) (by simp only []; omega) _) (by simp only []; omega) _⟩
            case measure => simp [intOf]; omega
          · subst hrn
            obtain ⟨h1, h2⟩ := e4 (by first | rfl | trivial)
            clear e4 e5
            by_cases h4 : st' = 4
            · have sb4 : (st' == 4) = true := by simp; omega
              have sb1 : (st' == 1) = false := by simp; omega
              have sb5 : (st' == 5) = false := by simp; omega
              clear h1 h2 h4
              go_wp2_with (first
                | (go_at_call 11; ((with_reducible refine (HC.out).mono ?_); rintro e w5 ⟨rfl, hm5, hs5⟩); have hx5 := hs5.blk (blk_new wr _) (by omega); have hlt5 := hm5.lt; have hlx5 := blk_lt hx5; obtain ⟨k0, k1, k2, k3, q0, q1, q2, q3⟩ := box4 hx5; have hy5 := hs5.blk (blk_alloc HX.out _) HNE.out; have y0 : w5.cell? ⟨g1, 0, none⟩ = some (.int .u8 F.kind) := (blk_cell hy5 0).trans rfl; have HX5 := Lib.hid hy5; have HM5 := Lib.hid hm5; have HS5 := Lib.hid hs5; clear hm5 hs5 hx5 hy5)
                | (go_at_call 14; ((with_reducible refine (state_calls g F _ _ (HM5.out.far4 (by omega) _ _ _ _)).mono ?_); rintro e w' ⟨rfl, rfl⟩))
                | (go_at_call 16; ((with_reducible refine (running_calls g F _ _ (HM5.out.far4 (by omega) _ _ _ _)).mono ?_); rintro e w' ⟨rfl, rfl⟩)))
              go_roundw
              case rel => exact ⟨k + 1, t + lt, _, _, by omega, htl0, HTL.out, by go_num, rfl, by go_num, rfl, HM5.out.far4 (by omega) _ _ _ _, HI5.out, (((HB.out.alloc HB.out.size _).trans (HS5.out.below HG.out (by rw [World.size_alloc]; omega))).setCell (by simp only []; omega) _ |>.setCell (by simp only []; omega) _ |>.setCell (by simp only []; omega) _ |>.setCell (by simp only []; omega) _), blk_far (blk_far (blk_far (blk_far HX5.out (by simp only []; omega) _) (by simp only []; omega) _) (by simp only []; omega) _) (by simp only []; omega) _⟩
              case measure => simp [intOf]; omega
            · have sb4 : (st' == 4) = false := by simp; omega
              have sb1 : (st' == 1) = false := by simp; omega
              have sb5 : (st' == 5) = false := by simp; omega
              clear h1 h2 h4
              go_wp2_with (first
                | (go_at_call 11; ((with_reducible refine (HC.out).mono ?_); rintro e w5 ⟨rfl, hm5, hs5⟩); have hx5 := hs5.blk (blk_new wr _) (by omega); have hlt5 := hm5.lt; have hlx5 := blk_lt hx5; obtain ⟨k0, k1, k2, k3, q0, q1, q2, q3⟩ := box4 hx5; have hy5 := hs5.blk (blk_alloc HX.out _) HNE.out; have y0 : w5.cell? ⟨g1, 0, none⟩ = some (.int .u8 F.kind) := (blk_cell hy5 0).trans rfl; have HX5 := Lib.hid hy5; have HM5 := Lib.hid hm5; have HS5 := Lib.hid hs5; clear hm5 hs5 hx5 hy5)
                | (go_at_call 14; ((with_reducible refine (state_calls g F _ _ (HM5.out.far4 (by omega) _ _ _ _)).mono ?_); rintro e w' ⟨rfl, rfl⟩))
                | (go_at_call 16; ((with_reducible refine (running_calls g F _ _ (HM5.out.far4 (by omega) _ _ _ _)).mono ?_); rintro e w' ⟨rfl, rfl⟩)))
              go_roundw
              case rel => exact ⟨k + 1, t + lt, _, _, by omega, htl0, HTL.out, by go_num, rfl, by go_num, rfl, HM5.out.far4 (by omega) _ _ _ _, HI5.out, (((HB.out.alloc HB.out.size _).trans (HS5.out.below HG.out (by rw [World.size_alloc]; omega))).setCell (by simp only []; omega) _ |>.setCell (by simp only []; omega) _ |>.setCell (by simp only []; omega) _ |>.setCell (by simp only []; omega) _), blk_far (blk_far (blk_far (blk_far HX5.out (by simp only []; omega) _) (by simp only []; omega) _) (by simp only []; omega) _) (by simp only []; omega) _⟩
              case measure => simp [intOf]; omega
        · simp only at e1 e2 e3 e4 e5
          subst e1 e2 e4
          subst e3
          have bk : (F.kind != 1) = false := by simpa using e6
          have sb1 : (st' == 1) = false := by simp; omega
          have sb5 : (st' == 5) = false := by simp; omega
          have sb4 : (st' == 4) = false := by simp; omega
          clear e5 e6
          go_wp2_with (first
            | (go_at_call 11; ((with_reducible refine (HC.out).mono ?_); rintro e w5 ⟨rfl, hm5, hs5⟩); have hx5 := hs5.blk (blk_new wr _) (by omega); have hlt5 := hm5.lt; have hlx5 := blk_lt hx5; obtain ⟨k0, k1, k2, k3, q0, q1, q2, q3⟩ := box4 hx5; have hy5 := hs5.blk (blk_alloc HX.out _) HNE.out; have y0 : w5.cell? ⟨g1, 0, none⟩ = some (.int .u8 F.kind) := (blk_cell hy5 0).trans rfl; have HX5 := Lib.hid hy5; have HM5 := Lib.hid hm5; have HS5 := Lib.hid hs5; clear hm5 hs5 hx5 hy5)
            | (go_at_call 14; ((with_reducible refine (state_calls g F _ _ (HM5.out.far4 (by omega) _ _ _ _)).mono ?_); rintro e w' ⟨rfl, rfl⟩))
            | (go_at_call 16; ((with_reducible refine (running_calls g F _ _ (HM5.out.far4 (by omega) _ _ _ _)).mono ?_); rintro e w' ⟨rfl, rfl⟩)))
          go_roundw
          case rel => exact ⟨k + 1, t + lt, _, _, by omega, htl0, HTL.out, by go_num, rfl, by go_num, rfl, HM5.out.far4 (by omega) _ _ _ _, HI5.out, (((HB.out.alloc HB.out.size _).trans (HS5.out.below HG.out (by rw [World.size_alloc]; omega))).setCell (by simp only []; omega) _ |>.setCell (by simp only []; omega) _ |>.setCell (by simp only []; omega) _ |>.setCell (by simp only []; omega) _), blk_far (blk_far (blk_far (blk_far HX5.out (by simp only []; omega) _) (by simp only []; omega) _) (by simp only []; omega) _) (by simp only []; omega) _⟩
          case measure => simp [intOf]; omega
        · simp only at e1 e2 e3 e4 e5
          subst e1 e2 e3 e4
          have sb1 : (st' == 1) = false := by simp; omega
          have sb5 : (st' == 5) = false := by simp; omega
          have sb4 : (st' == 4) = true := by simp; omega
          clear e5
          go_wp2_with (first
            | (go_at_call 11; ((with_reducible refine (HC.out).mono ?_); rintro e w5 ⟨rfl, hm5, hs5⟩); have hx5 := hs5.blk (blk_new wr _) (by omega); have hlt5 := hm5.lt; have hlx5 := blk_lt hx5; obtain ⟨k0, k1, k2, k3, q0, q1, q2, q3⟩ := box4 hx5; have hy5 := hs5.blk (blk_alloc HX.out _) HNE.out; have y0 : w5.cell? ⟨g1, 0, none⟩ = some (.int .u8 F.kind) := (blk_cell hy5 0).trans rfl; have HX5 := Lib.hid hy5; have HM5 := Lib.hid hm5; have HS5 := Lib.hid hs5; clear hm5 hs5 hx5 hy5)
            | (go_at_call 14; ((with_reducible refine (state_calls g F _ _ (HM5.out.far4 (by omega) _ _ _ _)).mono ?_); rintro e w' ⟨rfl, rfl⟩))
            | (go_at_call 16; ((with_reducible refine (running_calls g F _ _ (HM5.out.far4 (by omega) _ _ _ _)).mono ?_); rintro e w' ⟨rfl, rfl⟩)))
          go_roundw
          case rel => exact ⟨k + 1, t + lt, _, _, by omega, htl0, HTL.out, by go_num, rfl, by go_num, rfl, HM5.out.far4 (by omega) _ _ _ _, HI5.out, (((HB.out.alloc HB.out.size _).trans (HS5.out.below HG.out (by rw [World.size_alloc]; omega))).setCell (by simp only []; omega) _ |>.setCell (by simp only []; omega) _ |>.setCell (by simp only []; omega) _ |>.setCell (by simp only []; omega) _), blk_far (blk_far (blk_far (blk_far HX5.out (by simp only []; omega) _) (by simp only []; omega) _) (by simp only []; omega) _) (by simp only []; omega) _⟩
          case measure => simp [intOf]; omega
        · simp only at e1 e2 e3 e4 e5
          subst e1 e2 e3 e4
          have sb5 : (st' == 5) = true := by simp; omega
          have sb4 : (st' == 4) = false := by simp; omega
          clear e5
          go_wp2_with (first
            | (go_at_call 11; ((with_reducible refine (HC.out).mono ?_); rintro e w5 ⟨rfl, hm5, hs5⟩); have hx5 := hs5.blk (blk_new wr _) (by omega); have hlt5 := hm5.lt; have hlx5 := blk_lt hx5; obtain ⟨k0, k1, k2, k3, q0, q1, q2, q3⟩ := box4 hx5; have hy5 := hs5.blk (blk_alloc HX.out _) HNE.out; have y0 : w5.cell? ⟨g1, 0, none⟩ = some (.int .u8 F.kind) := (blk_cell hy5 0).trans rfl; have HX5 := Lib.hid hy5; have HM5 := Lib.hid hm5; have HS5 := Lib.hid hs5; clear hm5 hs5 hx5 hy5)
            | (go_at_call 14; ((with_reducible refine (state_calls g F _ _ (HM5.out.far4 (by omega) _ _ _ _)).mono ?_); rintro e w' ⟨rfl, rfl⟩))
            | (go_at_call 16; ((with_reducible refine (running_calls g F _ _ (HM5.out.far4 (by omega) _ _ _ _)).mono ?_); rintro e w' ⟨rfl, rfl⟩)))
          go_roundw
          case rel => exact ⟨k + 1, t + lt, _, _, by omega, htl0, HTL.out, by go_num, rfl, by go_num, rfl, HM5.out.far4 (by omega) _ _ _ _, HI5.out, (((HB.out.alloc HB.out.size _).trans (HS5.out.below HG.out (by rw [World.size_alloc]; omega))).setCell (by simp only []; omega) _ |>.setCell (by simp only []; omega) _ |>.setCell (by simp only []; omega) _ |>.setCell (by simp only []; omega) _), blk_far (blk_far (blk_far (blk_far HX5.out (by simp only []; omega) _) (by simp only []; omega) _) (by simp only []; omega) _) (by simp only []; omega) _⟩
          case measure => simp [intOf]; omega
      · have kb0 : (kd % 5 == 0) = false := by simp; omega
        have kb1 : (kd % 5 == 1) = false := by simp; omega
        have kb2 : (kd % 5 == 2) = true := by simpa using h5
        have kb3 : (kd % 5 == 3) = false := by simp; omega
        clear h5
        have hcc := fun (ob : Obj) => exit_calls g F s cd (t + lt) _ (HM.out.alloc ob) HR64.out HF.out.agn (inv_run s HI.out)
        have hin := inv_exit F s cd (t + lt) HI.out
        obtain ⟨o, ho⟩ : ∃ o, o = (exitV F s cd (t + lt)).1 := ⟨_, rfl⟩
        obtain ⟨s', hs'⟩ : ∃ s', s' = (exitV F s cd (t + lt)).2 := ⟨_, rfl⟩
        rw [← ho, ← hs'] at hcc hin
        clear ho hs'
        obtain ⟨hi5, hp⟩ := hin
        obtain ⟨sp, ki, ag, re⟩ := o
        obtain ⟨st', rn', du', la'⟩ := s'
        have HC := Lib.hid (hcc (.cells #[.bool false, .bool false, .bool false, .int .u8 0] 43))
        clear hcc
        have HI5 := Lib.hid hi5
        clear hi5
        rcases hp with ⟨e1, e2, e3, e4, e5⟩ | ⟨e1, e2, e3, e6, e4, e5⟩ | ⟨e1, e2, e3, e4, e5⟩ | ⟨e1, e2, e3, e4, e5⟩
        · simp only at e1 e2 e3 e4 e5
          subst e1 e2 e3
          have h4 : st' ≠ 4 := e5 (by first | rfl | trivial)
          clear e4 e5
          · have sb4 : (st' == 4) = false := by simp; omega
            clear h4
            go_wp2_with (first
              | (go_at_call 12; ((with_reducible refine (HC.out).mono ?_); rintro e w5 ⟨rfl, hm5, hs5⟩); have hx5 := hs5.blk (blk_new wr _) (by omega); have hlt5 := hm5.lt; have hlx5 := blk_lt hx5; obtain ⟨k0, k1, k2, k3, q0, q1, q2, q3⟩ := box4 hx5; have hy5 := hs5.blk (blk_alloc HX.out _) HNE.out; have y0 : w5.cell? ⟨g1, 0, none⟩ = some (.int .u8 F.kind) := (blk_cell hy5 0).trans rfl; have HX5 := Lib.hid hy5; have HM5 := Lib.hid hm5; have HS5 := Lib.hid hs5; clear hm5 hs5 hx5 hy5)
              | (go_at_call 14; ((with_reducible refine (state_calls g F _ _ (HM5.out.far4 (by omega) _ _ _ _)).mono ?_); rintro e w' ⟨rfl, rfl⟩))
              | (go_at_call 16; ((with_reducible refine (running_calls g F _ _ (HM5.out.far4 (by omega) _ _ _ _)).mono ?_); rintro e w' ⟨rfl, rfl⟩)))
            go_roundw
            case rel => exact ⟨k + 1, t + lt, _, _, by omega, htl0, HTL.out, by go_num, rfl, by go_num, rfl, HM5.out.far4 (by omega) _ _ _ _, HI5.out, (((HB.out.alloc HB.out.size _).trans (HS5.out.below HG.out (by rw [World.size_alloc]; omega))).setCell (by simp only []; omega) _ |>.setCell (by simp only []; omega) _ |>.setCell (by simp only []; omega) _ |>.setCell (by simp only []; omega) _), blk_far (blk_far (blk_far (blk_far HX5.out (by simp only []; omega) _) (by simp only []; omega) _) (by simp only []; omega) _) (by simp only []; omega) _⟩
            case measure => simp [intOf]; omega
        · simp only at e1 e2 e3 e4 e5
          subst e1 e2 e4
          have bk : (F.kind != 1) = false := by simpa using e6
          have sb1 : (st' == 1) = false := by simp; omega
          have sb5 : (st' == 5) = false := by simp; omega
          have sb4 : (st' == 4) = false := by simp; omega
          clear e5 e6 e3
          go_wp2_with (first
            | (go_at_call 12; ((with_reducible refine (HC.out).mono ?_); rintro e w5 ⟨rfl, hm5, hs5⟩); have hx5 := hs5.blk (blk_new wr _) (by omega); have hlt5 := hm5.lt; have hlx5 := blk_lt hx5; obtain ⟨k0, k1, k2, k3, q0, q1, q2, q3⟩ := box4 hx5; have hy5 := hs5.blk (blk_alloc HX.out _) HNE.out; have y0 : w5.cell? ⟨g1, 0, none⟩ = some (.int .u8 F.kind) := (blk_cell hy5 0).trans rfl; have HX5 := Lib.hid hy5; have HM5 := Lib.hid hm5; have HS5 := Lib.hid hs5; clear hm5 hs5 hx5 hy5)
            | (go_at_call 14; ((with_reducible refine (state_calls g F _ _ (HM5.out.far4 (by omega) _ _ _ _)).mono ?_); rintro e w' ⟨rfl, rfl⟩))
            | (go_at_call 16; ((with_reducible refine (running_calls g F _ _ (HM5.out.far4 (by omega) _ _ _ _)).mono ?_); rintro e w' ⟨rfl, rfl⟩)))
          go_roundw
          case rel => exact ⟨k + 1, t + lt, _, _, by omega, htl0, HTL.out, by go_num, rfl, by go_num, rfl, HM5.out.far4 (by omega) _ _ _ _, HI5.out, (((HB.out.alloc HB.out.size _).trans (HS5.out.below HG.out (by rw [World.size_alloc]; omega))).setCell (by simp only []; omega) _ |>.setCell (by simp only []; omega) _ |>.setCell (by simp only []; omega) _ |>.setCell (by simp only []; omega) _), blk_far (blk_far (blk_far (blk_far HX5.out (by simp only []; omega) _) (by simp only []; omega) _) (by simp only []; omega) _) (by simp only []; omega) _⟩
          case measure => simp [intOf]; omega
        · cases e3
        · cases e3
      · have kb0 : (kd % 5 == 0) = false := by simp; omega
        have kb1 : (kd % 5 == 1) = false := by simp; omega
        have kb2 : (kd % 5 == 2) = false := by simp; omega
        have kb3 : (kd % 5 == 3) = true := by simpa using h5
        clear h5
        have hcc := fun (ob : Obj) => tick_calls g F s (t + lt) _ (HM.out.alloc ob) HR64.out HF.out.dn (inv_due s HI.out)
        have hin := inv_tick F s (t + lt) HI.out
        obtain ⟨o, ho⟩ : ∃ o, o = (tickV F s (t + lt)).1 := ⟨_, rfl⟩
        obtain ⟨s', hs'⟩ : ∃ s', s' = (tickV F s (t + lt)).2 := ⟨_, rfl⟩
        rw [← ho, ← hs'] at hcc hin
        clear ho hs'
        obtain ⟨hi5, hp⟩ := hin
        obtain ⟨sp, ki, ag, re⟩ := o
        obtain ⟨st', rn', du', la'⟩ := s'
        rw [← HRr.out] at hp
        have HC := Lib.hid (hcc (.cells #[.bool false, .bool false, .bool false, .int .u8 0] 43))
        clear hcc
        have HI5 := Lib.hid hi5
        clear hi5
        rcases hp with ⟨e1, e2, e3, e4, e5⟩ | ⟨e1, e2, e3, e6, e4, e5⟩ | ⟨e1, e2, e3, e4, e5⟩ | ⟨e1, e2, e3, e4, e5⟩
        · simp only at e1 e2 e3 e4 e5
          subst e1 e2 e3
          cases hrn : rn'
          · subst hrn
            have h4 : st' ≠ 4 := e5 (by first | rfl | trivial)
            clear e4 e5
            have sb4 : (st' == 4) = false := by simp; omega
            clear h4
            go_wp2_with (first
              | (go_at_call 13; ((with_reducible refine (HC.out).mono ?_); rintro e w5 ⟨rfl, hm5, hs5⟩); have hx5 := hs5.blk (blk_new wr _) (by omega); have hlt5 := hm5.lt; have hlx5 := blk_lt hx5; obtain ⟨k0, k1, k2, k3, q0, q1, q2, q3⟩ := box4 hx5; have hy5 := hs5.blk (blk_alloc HX.out _) HNE.out; have y0 : w5.cell? ⟨g1, 0, none⟩ = some (.int .u8 F.kind) := (blk_cell hy5 0).trans rfl; have HX5 := Lib.hid hy5; have HM5 := Lib.hid hm5; have HS5 := Lib.hid hs5; clear hm5 hs5 hx5 hy5)
              | (go_at_call 14; ((with_reducible refine (state_calls g F _ _ (HM5.out.far4 (by omega) _ _ _ _)).mono ?_); rintro e w' ⟨rfl, rfl⟩))
              | (go_at_call 16; ((with_reducible refine (running_calls g F _ _ (HM5.out.far4 (by omega) _ _ _ _)).mono ?_); rintro e w' ⟨rfl, rfl⟩)))
            go_roundw
            case rel => exact ⟨k + 1, t + lt, _, _, by omega, htl0, HTL.out, by go_num, rfl, by go_num, rfl, HM5.out.far4 (by omega) _ _ _ _, HI5.out, (((HB.out.alloc HB.out.size _).trans (HS5.out.below HG.out (by rw [World.size_alloc]; omega))).setCell (by simp only []; omega) _ |>.setCell (by simp only []; omega) _ |>.setCell (by simp only []; omega) _ |>.setCell (by simp only []; omega) _), blk_far (blk_far (blk_far (blk_far HX5.out (by simp only []; omega) _) (by simp only []; omega) _) (by simp only []; omega) _) (by simp only []; omega) _⟩
            case measure => simp [intOf]; omega
          · subst hrn
            obtain ⟨h1, h2⟩ := e4 (by first | rfl | trivial)
            clear e4 e5
            by_cases h4 : st' = 4
            · have sb4 : (st' == 4) = true := by simp; omega
              have sb1 : (st' == 1) = false := by simp; omega
              have sb5 : (st' == 5) = false := by simp; omega
              clear h1 h2 h4
              go_wp2_with (first
                | (go_at_call 13; ((with_reducible refine (HC.out).mono ?_); rintro e w5 ⟨rfl, hm5, hs5⟩); have hx5 := hs5.blk (blk_new wr _) (by omega); have hlt5 := hm5.lt; have hlx5 := blk_lt hx5; obtain ⟨k0, k1, k2, k3, q0, q1, q2, q3⟩ := box4 hx5; have hy5 := hs5.blk (blk_alloc HX.out _) HNE.out; have y0 : w5.cell? ⟨g1, 0, none⟩ = some (.int .u8 F.kind) := (blk_cell hy5 0).trans rfl; have HX5 := Lib.hid hy5; have HM5 := Lib.hid hm5; have HS5 := Lib.hid hs5; clear hm5 hs5 hx5 hy5)
                | (go_at_call 14; ((with_reducible refine (state_calls g F _ _ (HM5.out.far4 (by omega) _ _ _ _)).mono ?_); rintro e w' ⟨rfl, rfl⟩))
                | (go_at_call 16; ((with_reducible refine (running_calls g F _ _ (HM5.out.far4 (by omega) _ _ _ _)).mono ?_); rintro e w' ⟨rfl, rfl⟩)))
              go_roundw
              case rel => exact ⟨k + 1, t + lt, _, _, by omega, htl0, HTL.out, by go_num, rfl, by go_num, rfl, HM5.out.far4 (by omega) _ _ _ _, HI5.out, (((HB.out.alloc HB.out.size _).trans (HS5.out.below HG.out (by rw [World.size_alloc]; omega))).setCell (by simp only []; omega) _ |>.setCell (by simp only []; omega) _ |>.setCell (by simp only []; omega) _ |>.setCell (by simp only []; omega) _), blk_far (blk_far (blk_far (blk_far HX5.out (by simp only []; omega) _) (by simp only []; omega) _) (by simp only []; omega) _) (by simp only []; omega) _⟩
              case measure => simp [intOf]; omega
            · have sb4 : (st' == 4) = false := by simp; omega
              have sb1 : (st' == 1) = false := by simp; omega
              have sb5 : (st' == 5) = false := by simp; omega
              clear h1 h2 h4
              go_wp2_with (first
                | (go_at_call 13; ((with_reducible refine (HC.out).mono ?_); rintro e w5 ⟨rfl, hm5, hs5⟩); have hx5 := hs5.blk (blk_new wr _) (by omega); have hlt5 := hm5.lt; have hlx5 := blk_lt hx5; obtain ⟨k0, k1, k2, k3, q0, q1, q2, q3⟩ := box4 hx5; have hy5 := hs5.blk (blk_alloc HX.out _) HNE.out; have y0 : w5.cell? ⟨g1, 0, none⟩ = some (.int .u8 F.kind) := (blk_cell hy5 0).trans rfl; have HX5 := Lib.hid hy5; have HM5 := Lib.hid hm5; have HS5 := Lib.hid hs5; clear hm5 hs5 hx5 hy5)
                | (go_at_call 14; ((with_reducible refine (state_calls g F _ _ (HM5.out.far4 (by omega) _ _ _ _)).mono ?_); rintro e w' ⟨rfl, rfl⟩))
                | (go_at_call 16; ((with_reducible refine (running_calls g F _ _ (HM5.out.far4 (by omega) _ _ _ _)).mono ?_); rintro e w' ⟨rfl, rfl⟩)))
              go_roundw
              case rel => exact ⟨k + 1, t + lt, _, _, by omega, htl0, HTL.out, by go_num, rfl, by go_num, rfl, HM5.out.far4 (by omega) _ _ _ _, HI5.out, (((HB.out.alloc HB.out.size _).trans (HS5.out.below HG.out (by rw [World.size_alloc]; omega))).setCell (by simp only []; omega) _ |>.setCell (by simp only []; omega) _ |>.setCell (by simp only []; omega) _ |>.setCell (by simp only []; omega) _), blk_far (blk_far (blk_far (blk_far HX5.out (by simp only []; omega) _) (by simp only []; omega) _) (by simp only []; omega) _) (by simp only []; omega) _⟩
              case measure => simp [intOf]; omega
        · simp only at e1 e2 e3 e4 e5
          subst e1 e2 e4
          subst e3
          have bk : (F.kind != 1) = false := by simpa using e6
          have sb1 : (st' == 1) = false := by simp; omega
          have sb5 : (st' == 5) = false := by simp; omega
          have sb4 : (st' == 4) = false := by simp; omega
          clear e5 e6
          go_wp2_with (first
            | (go_at_call 13; ((with_reducible refine (HC.out).mono ?_); rintro e w5 ⟨rfl, hm5, hs5⟩); have hx5 := hs5.blk (blk_new wr _) (by omega); have hlt5 := hm5.lt; have hlx5 := blk_lt hx5; obtain ⟨k0, k1, k2, k3, q0, q1, q2, q3⟩ := box4 hx5; have hy5 := hs5.blk (blk_alloc HX.out _) HNE.out; have y0 : w5.cell? ⟨g1, 0, none⟩ = some (.int .u8 F.kind) := (blk_cell hy5 0).trans rfl; have HX5 := Lib.hid hy5; have HM5 := Lib.hid hm5; have HS5 := Lib.hid hs5; clear hm5 hs5 hx5 hy5)
            | (go_at_call 14; ((with_reducible refine (state_calls g F _ _ (HM5.out.far4 (by omega) _ _ _ _)).mono ?_); rintro e w' ⟨rfl, rfl⟩))
            | (go_at_call 16; ((with_reducible refine (running_calls g F _ _ (HM5.out.far4 (by omega) _ _ _ _)).mono ?_); rintro e w' ⟨rfl, rfl⟩)))
          go_roundw
          case rel => exact ⟨k + 1, t + lt, _, _, by omega, htl0, HTL.out, by go_num, rfl, by go_num, rfl, HM5.out.far4 (by omega) _ _ _ _, HI5.out, (((HB.out.alloc HB.out.size _).trans (HS5.out.below HG.out (by rw [World.size_alloc]; omega))).setCell (by simp only []; omega) _ |>.setCell (by simp only []; omega) _ |>.setCell (by simp only []; omega) _ |>.setCell (by simp only []; omega) _), blk_far (blk_far (blk_far (blk_far HX5.out (by simp only []; omega) _) (by simp only []; omega) _) (by simp only []; omega) _) (by simp only []; omega) _⟩
          case measure => simp [intOf]; omega
        · simp only at e1 e2 e3 e4 e5
          subst e1 e2 e3 e4
          have sb1 : (st' == 1) = false := by simp; omega
          have sb5 : (st' == 5) = false := by simp; omega
          have sb4 : (st' == 4) = true := by simp; omega
          clear e5
          go_wp2_with (first
            | (go_at_call 13; ((with_reducible refine (HC.out).mono ?_); rintro e w5 ⟨rfl, hm5, hs5⟩); have hx5 := hs5.blk (blk_new wr _) (by omega); have hlt5 := hm5.lt; have hlx5 := blk_lt hx5; obtain ⟨k0, k1, k2, k3, q0, q1, q2, q3⟩ := box4 hx5; have hy5 := hs5.blk (blk_alloc HX.out _) HNE.out; have y0 : w5.cell? ⟨g1, 0, none⟩ = some (.int .u8 F.kind) := (blk_cell hy5 0).trans rfl; have HX5 := Lib.hid hy5; have HM5 := Lib.hid hm5; have HS5 := Lib.hid hs5; clear hm5 hs5 hx5 hy5)
            | (go_at_call 14; ((with_reducible refine (state_calls g F _ _ (HM5.out.far4 (by omega) _ _ _ _)).mono ?_); rintro e w' ⟨rfl, rfl⟩))
            | (go_at_call 16; ((with_reducible refine (running_calls g F _ _ (HM5.out.far4 (by omega) _ _ _ _)).mono ?_); rintro e w' ⟨rfl, rfl⟩)))
          go_roundw
          case rel => exact ⟨k + 1, t + lt, _, _, by omega, htl0, HTL.out, by go_num, rfl, by go_num, rfl, HM5.out.far4 (by omega) _ _ _ _, HI5.out, (((HB.out.alloc HB.out.size _).trans (HS5.out.below HG.out (by rw [World.size_alloc]; omega))).setCell (by simp only []; omega) _ |>.setCell (by simp only []; omega) _ |>.setCell (by simp only []; omega) _ |>.setCell (by simp only []; omega) _), blk_far (blk_far (blk_far (blk_far HX5.out (by simp only []; omega) _) (by simp only []; omega) _) (by simp only []; omega) _) (by simp only []; omega) _⟩
          case measure => simp [intOf]; omega
        · simp only at e1 e2 e3 e4 e5
          subst e1 e2 e3 e4
          have sb5 : (st' == 5) = true := by simp; omega
          have sb4 : (st' == 4) = false := by simp; omega
          clear e5
          go_wp2_with (first
            | (go_at_call 13; ((with_reducible refine (HC.out).mono ?_); rintro e w5 ⟨rfl, hm5, hs5⟩); have hx5 := hs5.blk (blk_new wr _) (by omega); have hlt5 := hm5.lt; have hlx5 := blk_lt hx5; obtain ⟨k0, k1, k2, k3, q0, q1, q2, q3⟩ := box4 hx5; have hy5 := hs5.blk (blk_alloc HX.out _) HNE.out; have y0 : w5.cell? ⟨g1, 0, none⟩ = some (.int .u8 F.kind) := (blk_cell hy5 0).trans rfl; have HX5 := Lib.hid hy5; have HM5 := Lib.hid hm5; have HS5 := Lib.hid hs5; clear hm5 hs5 hx5 hy5)
            | (go_at_call 14; ((with_reducible refine (state_calls g F _ _ (HM5.out.far4 (by omega) _ _ _ _)).mono ?_); rintro e w' ⟨rfl, rfl⟩))
            | (go_at_call 16; ((with_reducible refine (running_calls g F _ _ (HM5.out.far4 (by omega) _ _ _ _)).mono ?_); rintro e w' ⟨rfl, rfl⟩)))
          go_roundw
          case rel => exact ⟨k + 1, t + lt, _, _, by omega, htl0, HTL.out, by go_num, rfl, by go_num, rfl, HM5.out.far4 (by omega) _ _ _ _, HI5.out, (((HB.out.alloc HB.out.size _).trans (HS5.out.below HG.out (by rw [World.size_alloc]; omega))).setCell (by simp only []; omega) _ |>.setCell (by simp only []; omega) _ |>.setCell (by simp only []; omega) _ |>.setCell (by simp only []; omega) _), blk_far (blk_far (blk_far (blk_far HX5.out (by simp only []; omega) _) (by simp only []; omega) _) (by simp only []; omega) _) (by simp only []; omega) _⟩
          case measure => simp [intOf]; omega
      · have kb0 : (kd % 5 == 0) = false := by simp; omega
        have kb1 : (kd % 5 == 1) = false := by simp; omega
        have kb2 : (kd % 5 == 2) = false := by simp; omega
        have kb3 : (kd % 5 == 3) = false := by simp; omega
        clear h5
        have hi5 := HI.out
        have hp := stay F s hi5 false 0
        obtain ⟨st', rn', du', la'⟩ := s
        rw [← HRr.out] at hp
        have HI5 := Lib.hid hi5
        clear hi5
        rcases hp with ⟨e1, e2, e3, e4, e5⟩ | ⟨e1, e2, e3, e6, e4, e5⟩ | ⟨e1, e2, e3, e4, e5⟩ | ⟨e1, e2, e3, e4, e5⟩
        · simp only at e1 e2 e3 e4 e5
          clear e1 e2
          subst e3
          cases hrn : rn'
          · subst hrn
            have h4 : st' ≠ 4 := e5 (by first | rfl | trivial)
            clear e4 e5
            have sb4 : (st' == 4) = false := by simp; omega
            clear h4
            go_wp2_with (first
              | (go_at_call 14; ((with_reducible refine (state_calls g F _ _ (HM.out.alloc _)).mono ?_); rintro e w' ⟨rfl, rfl⟩))
              | (go_at_call 16; ((with_reducible refine (running_calls g F _ _ (HM.out.alloc _)).mono ?_); rintro e w' ⟨rfl, rfl⟩)))
            go_roundw
            case rel => exact ⟨k + 1, t + lt, _, _, by omega, htl0, HTL.out, by go_num, rfl, by go_num, rfl, HM.out.alloc _, HI5.out, HB.out.alloc HB.out.size _, blk_alloc HX.out _⟩
            case measure => simp [intOf]; omega
          · subst hrn
            obtain ⟨h1, h2⟩ := e4 (by first | rfl | trivial)
            clear e4 e5
            by_cases h4 : st' = 4
            · have sb4 : (st' == 4) = true := by simp; omega
              have sb1 : (st' == 1) = false := by simp; omega
              have sb5 : (st' == 5) = false := by simp; omega
              clear h1 h2 h4
              go_wp2_with (first
                | (go_at_call 14; ((with_reducible refine (state_calls g F _ _ (HM.out.alloc _)).mono ?_); rintro e w' ⟨rfl, rfl⟩))
                | (go_at_call 16; ((with_reducible refine (running_calls g F _ _ (HM.out.alloc _)).mono ?_); rintro e w' ⟨rfl, rfl⟩)))
              go_roundw
              case rel => exact ⟨k + 1, t + lt, _, _, by omega, htl0, HTL.out, by go_num, rfl, by go_num, rfl, HM.out.alloc _, HI5.out, HB.out.alloc HB.out.size _, blk_alloc HX.out _⟩
              case measure => simp [intOf]; omega
            · have sb4 : (st' == 4) = false := by simp; omega
              have sb1 : (st' == 1) = false := by simp; omega
              have sb5 : (st' == 5) = false := by simp; omega
              clear h1 h2 h4
              go_wp2_with (first
                | (go_at_call 14; ((with_reducible refine (state_calls g F _ _ (HM.out.alloc _)).mono ?_); rintro e w' ⟨rfl, rfl⟩))
                | (go_at_call 16; ((with_reducible refine (running_calls g F _ _ (HM.out.alloc _)).mono ?_); rintro e w' ⟨rfl, rfl⟩)))
              go_roundw
              case rel => exact ⟨k + 1, t + lt, _, _, by omega, htl0, HTL.out, by go_num, rfl, by go_num, rfl, HM.out.alloc _, HI5.out, HB.out.alloc HB.out.size _, blk_alloc HX.out _⟩
              case measure => simp [intOf]; omega
        · cases e1
        · cases e2
        · cases e2

    · have hlb : decide ((k : Int) < (l.length : Int)) = false := decide_eq_false (by omega)
      go_wp2_with (first
        | (go_at_call 18; ((with_reducible refine (works_calls _).mono ?_); rintro e wz ⟨rfl, bz⟩); have BZ := Lib.hid bz; clear bz))
      go_ret
      exact ⟨rfl, HB.out.trans (BZ.out.mono HB.out.size)⟩
end Go.Proofs.Ytngoenbdimlppaa.Svc
