/- SvcPlays, as a contract. -/
import Derived.Test.YtngoenbdimlppaaN6
import Derived.IntWalk
namespace Go.Proofs.Ytngoenbdimlppaa.Svc
open Go.RowKit Go.Proofs.YtngoenbdimlppaaW.PrintWords Go.Proofs.YtngoenbdimlppaaW.PrintLast Go.Proofs.YtngoenbdimlppaaW.PrintMore
open Go.Proofs.Ytngoenbdimlppaa.All (S25 k25 rd_T25 at_T25 S76 k76)
set_option linter.unusedVariables false
set_option linter.unusedSimpArgs false
set_option maxRecDepth 100000

/-- What S must say may be less from here on. -/
theorem wpAnyH_weak {P : Program} {md : Region.Mode} {ops : Array Oper} {Q : Exit → Act → World → Prop} {S S' : World → Prop} (hs : ∀ w, S w → S' w) : ∀ {fuel : Nat} {listed : Array Bool} {a : Act} {w : World}, wpAnyH P md ops Q S fuel listed a w → wpAnyH P md ops Q S' fuel listed a w
  | 0, _, _, _, h => h
  | fuel + 1, _, _, _, h => ⟨h.1, fun i hi => wpOp_mono (fun a' w' h' => ⟨hs _ h'.1, wpAnyH_weak hs h'.2⟩) (h.2 i hi)⟩
section
variable {P : Program} {ops : Array Oper} {Q : Exit → Act → World → Prop} {md : Region.Mode} {S : World → Prop}
theorem takeL {i : Nat} {oi : Oper} {v : Value} {fuel : Nat} {listed : Array Bool} {a : Act} {w : World} (hi : ops.toList[i]? = some oi)
    (hs : Region.noSelect ops = true) (hf : Region.free md ops listed i = true) (hr : (Region.ready md ops listed).contains i = true)
    (hQ : ∀ c a w, Q (.panic c) (a.put oi.dst v) w → Q (.panic c) a w) (hy : YieldsIf P ops S oi v a) (hS : S w)
    (h : wpAnyH P md ops Q S fuel (listed.setIfInBounds i true) (a.put oi.dst v) w) : wpAnyH P md ops Q S (fuel + 1) listed a w :=
  wpAnyH_take (by simpa using hi) hs hf hr hQ hy hS h
theorem consL {fuel : Nat} {listed : Array Bool} {a : Act} {w : World} {i : Nat} {o : Oper} {rs : List Nat} (ho : ops.toList[i]? = some o)
    (h : ∀ K' : Act → World → Prop, Shut (∀ a w, S w → (S w → wpAnyH P md ops Q S fuel (listed.setIfInBounds i true) a w) → K' a w) → if Region.wanted o (yielded ops a.tmps) = true then Oper.wp P o a w K' Q else K' (a.put o.dst undef) w)
    (hs : AllReadyH P md ops Q S fuel listed a w rs) : AllReadyH P md ops Q S fuel listed a w (i :: rs) := AllReadyH.cons (by simpa using ho) h hs
end
theorem mb_stp' {w w' : World} {g b : Nat} {F : FV} {s : MS} (h : MB w g F s) (k : Stp b w w') (hn : g ≠ b) : MB w' g F s := k.blk h hn
theorem inv_st (s : MS) (h : Inv s) : 0 ≤ s.st ∧ s.st ≤ 255 := by rcases h.st with h1 | h1 | h1 | h1 | h1 <;> omega

theorem below_drew {n : Nat} {w w' : World} (h : Below n w.drew w') : Below n w w' := (Below.refl n w).drew.trans h
theorem drew_blk {w : World} {g : Nat} {o : Obj} (h : w.heap[g]? = some o) : w.drew.heap[g]? = some o := h
theorem cell_keep {w wr w' : World} {a : Addr} {v : Value} (h' : Below w.heap.size w w') (h : Below w.heap.size w wr) (hb : a.block < w.heap.size) (hv : wr.cell? a = some v) : w'.cell? a = some v := by
  rw [h'.cell hb, ← h.cell hb]; exact hv

set_option maxHeartbeats 8000000 in
theorem plays_calls (F : FV) (A : Option Addr) (c0 : Nat) (l : List S25) (w : World) (hF : FileIn w F) (hl : Kd.C k25 w A l.length l) (hc : l.length ≤ c0) (hfit : ∀ x ∈ l, Fit25 x) (hlen : l.length ≤ 100) (hex : F.ex.n ≤ 64) :
    Calls Try.prog 9 #[.agg (fc F), .slice A l.length c0] w fun e w' => e = .returned (.bool true) ∧ Below w.heap.size w w' := by
  have hu36 := Try.underlying36
  have hu43 := Try.underlying43
  have HFI := Lib.hid hF
  have HF := Lib.hid hF.ok
  have HL := Lib.hid hl
  have HT := Lib.hid hfit
  clear hF hl hfit
  have b1 : decide ((100 : Int) < (l.length : Int)) = false := decide_eq_false (by omega)
  have b2 : decide ((64 : Int) < (F.ex.n : Int)) = false := decide_eq_false (by omega)
  go_enter Try.func9, Try.ntmps9
  go_wp2_with (first
    | ((with_reducible refine gate_dst (N := 2) rfl ?_); refine box_event ?hg (N := 2) ?hd (cs := fc F) (t := 36) ?hr ?_; (case hd => rfl); (case hg => rfl); (case hr => first | (go_simp; done) | (go_simp; rfl)); intro g1 e1 w1 h1 b1; have k17 : w1.cell? ⟨g1, 17, none⟩ = some (.slice F.ex.a F.ex.n F.ex.c) := (blk_cell h1 17).trans rfl; have H1 := Lib.hid h1; have B1 := Lib.hid b1; clear e1 h1 b1))
  refine wp_region_held_drew (S := fun w' => w'.heap[g1]? = some (.cells (fc F) 36 (0, 0))) (by kernel_rfl) H1.out (fun hHeld => ?_)
  refine' takeL (i := 0) (v := _) rfl (by kernel_rfl) (by kernel_rfl) (by kernel_rfl) (fun _ _ _ h => h) (yieldsIf_load_mid (by rfl) 36 _ rfl g1 0 rfl (fc F).toList _ (fun w9 hSw => range_blk hSw) hu36 rfl (by kernel_rfl)) hHeld ?_
  try simp only [Act.put, List.setIfInBounds_toArray, List.set_cons_zero, List.set_cons_succ]
  refine' takeL (i := 2) (v := _) rfl (by kernel_rfl) (by kernel_rfl) (by kernel_rfl) (fun _ _ _ h => h) (yieldsIf_load_mid (by rfl) 36 _ rfl g1 0 rfl (fc F).toList _ (fun w9 hSw => range_blk hSw) hu36 rfl (by kernel_rfl)) hHeld ?_
  try simp only [Act.put, List.setIfInBounds_toArray, List.set_cons_zero, List.set_cons_succ]
  refine wpAnyH_ready (rs := [1]) (by kernel_rfl) (by simp) (consL rfl (fun K hK => ?_) AllReadyH.nil)
  go_simp
  refine (new_calls F _).mono ?_; rintro e w3 ⟨g, rfl, hg, hm3, b3⟩; have H3 := Lib.hid (blk_below hHeld b3); have HG := Lib.hid (Nat.le_trans B1.out.size hg); have HM3 := Lib.hid hm3; have B3 := Lib.hid (B1.out.trans ((below_drew b3).mono B1.out.size)); clear hg hm3 b3
  refine hK.out _ _ H3.out (fun hHeld => ?_)
  clear hK K
  try simp only [Act.put, List.setIfInBounds_toArray, List.set_cons_zero, List.set_cons_succ]
  refine wpAnyH_ready (rs := [3]) (by kernel_rfl) (by simp) (consL rfl (fun K hK => ?_) AllReadyH.nil)
  go_simp
  refine (HFI.out.plain B3.out).mono ?_; rintro e w4 ⟨z, rfl, b4⟩; have H4 := Lib.hid (blk_below H3.out b4); have HM4 := Lib.hid (HM3.out.below b4); have B4 := Lib.hid (B3.out.trans (b4.mono B3.out.size)); clear b4
  refine hK.out _ _ H4.out (fun hHeld => ?_)
  clear hK K
  try simp only [Act.put, List.setIfInBounds_toArray, List.set_cons_zero, List.set_cons_succ]
  refine wpAnyH_ready (rs := [4]) (by kernel_rfl) (by simp) (consL rfl (fun K hK => ?_) AllReadyH.nil)
  go_simp
  refine (rnew_calls (ff F z) _).mono ?_; rintro e w5 ⟨g2, rfl, hg2, hr5, b5⟩; have H5 := Lib.hid (blk_below H4.out b5); have HM5 := Lib.hid (HM4.out.below b5); have HR5 := Lib.hid hr5; have HG2 := Lib.hid (Nat.le_trans B4.out.size hg2); have HNE := Lib.hid (Nat.ne_of_lt (Nat.lt_of_lt_of_le HM4.out.lt hg2)); have B5 := Lib.hid (B4.out.trans (b5.mono B4.out.size)); clear hr5 b5 hg2
  refine hK.out _ _ H5.out (fun hHeld => ?_)
  clear hK K
  try simp only [Act.put, List.setIfInBounds_toArray, List.set_cons_zero, List.set_cons_succ]
  refine takeL (i := 5) (v := ?vv1) rfl (by kernel_rfl) (by kernel_rfl) (by kernel_rfl) (fun _ _ _ h => h) (Or.inl ⟨by rfl, ?hy1⟩) hHeld ?rest1
  case hy1 => (intro w9 hSw; (try dsimp only at hSw); go_simp; (try with_reducible rfl))
  try simp only [Act.put, List.setIfInBounds_toArray, List.set_cons_zero, List.set_cons_succ]
  refine takeL (i := 6) (v := ?vv2) rfl (by kernel_rfl) (by kernel_rfl) (by kernel_rfl) (fun _ _ _ h => h) (Or.inl ⟨by rfl, ?hy2⟩) hHeld ?rest2
  case hy2 => (intro w9 hSw; (try dsimp only at hSw); go_simp; (try with_reducible rfl))
  try simp only [Act.put, List.setIfInBounds_toArray, List.set_cons_zero, List.set_cons_succ]
  refine wpAnyH_done (by kernel_rfl) ?_ _
  go_wp2
  go_loopw [5, 7, 8, 9] (fun m nw i old wr => ∃ (k : Nat) (t : Int) (s : MS) (g : Nat), k ≤ l.length ∧ 0 ≤ t ∧ t ≤ k * 4294967295 ∧ m = .pointer (some ⟨g, 0, none⟩) ∧ nw = .int .i64 t ∧ i = .int .i64 k ∧ MB wr g F s ∧ RB wr g2 (ff F z) s ∧ g ≠ g2 ∧ w.heap.size ≤ g ∧ Inv s ∧ Below w.heap.size w wr)
    (fun _ _ i _ _ => l.length - (intOf i).toNat)
  case atStart => exact ⟨0, 0, newS, g, Nat.zero_le _, by omega, by omega, rfl, rfl, rfl, HM5.out, HR5.out, HNE.out, HG.out, inv_new, B5.out⟩
  case round =>
    obtain ⟨k, t, s, g, hk, ht0, htk, rfl, rfl, rfl, hm, hr, hne, hg, hi, hB⟩ := hrel
    have hlt0 := hm.lt
    have HM := Lib.hid hm
    have HRR := Lib.hid hr
    have HI := Lib.hid hi
    have HB := Lib.hid hB
    have HNE := Lib.hid hne
    have HG := Lib.hid hg
    have hge : w.heap.size ≤ wr.heap.size := hB.size
    clear hm hr hi hB hne hg
    by_cases hlt : k < l.length
    · have hlb : decide ((k : Int) < (l.length : Int)) = true := decide_eq_true (by omega)
      obtain ⟨ad, rfl, x0, x1, x2, xb⟩ := call_cells HL.out HB.out k hlt
      have hf := rd_fit HT.out k hlt
      obtain ⟨kd, hkd⟩ : ∃ kd, kd = (rd_T25 l k).f0 := ⟨_, rfl⟩
      obtain ⟨cd, hcd⟩ : ∃ cd, cd = (rd_T25 l k).f1 := ⟨_, rfl⟩
      obtain ⟨lt, hlt'⟩ : ∃ lt, lt = (rd_T25 l k).f2 := ⟨_, rfl⟩
      rw [← hkd] at x0; rw [← hcd] at x1; rw [← hlt'] at x2
      unfold Fit25 at hf
      rw [← hkd, ← hlt'] at hf
      obtain ⟨f1, f2, f3, f4⟩ := hf
      have ht1 : t ≤ 429496729500 := by omega
      have htl : t + lt ≤ (k + 1 : Nat) * 4294967295 := by omega
      have htl0 : 0 ≤ t + lt := by omega
      have HTL := Lib.hid htl
      have HR64 := Lib.hid (show R64 (t + lt) from ⟨by omega, by omega⟩)
      have HLT := Lib.hid hlt
      have XC := Lib.hid (⟨x0, x1, x2⟩ : wr.cell? (ad.add (k * 3)) = some (.int .u8 kd) ∧ wr.cell? ⟨(ad.add (k * 3)).block, (ad.add (k * 3)).off + 1, none⟩ = some (.int .i64 cd) ∧ wr.cell? ⟨(ad.add (k * 3)).block, (ad.add (k * 3)).off + 2, none⟩ = some (.int .u32 lt))
      have XB := Lib.hid xb
      obtain ⟨sN, hsN⟩ : ∃ s', s' = callS F s kd cd (t + lt) := ⟨_, rfl⟩
      have hIN := inv_call F s kd cd (t + lt) HI.out
      rw [← hsN] at hIN
      have hst := inv_st sN hIN
      obtain ⟨hst0, hst1⟩ := hst
      have hwr : IntKind.i64.wrap sN.st = sN.st := Go.IntWalk.i64_in _ (by omega)
      have HIN := Lib.hid hIN
      have hcall := fun (g : Nat) (W : World) (hm : MB W g F s) (hr : RB W g2 (ff F z) s) (hne : g ≠ g2) (hg : w.heap.size ≤ g) => call_calls w.heap.size g g2 F z s kd cd lt (t + lt) W hm hr hne HI.out HF.out HR64.out f1 f2 hg HG2.out
      rw [← hsN] at hcall
      have HCALL := Lib.hid hcall
      clear hkd hcd hlt' htk htl hsN hIN hcall
      have hkm : kd % 5 = 4 ∨ ¬ kd % 5 = 4 := by omega
      rcases hkm with h5 | h5
      · have kb : (kd % 5 == 4) = true := by simpa using h5
        have hi1 := (inv_start F s (t + lt) HI.out).1
        have hcs := fun (W : World) (hw : MB W g F s) => start_calls g F s (t + lt) W hw HR64.out HF.out.up
        obtain ⟨o1, ho1⟩ : ∃ o, o = (startV F s (t + lt)).1 := ⟨_, rfl⟩
        obtain ⟨s1, hs1⟩ : ∃ s', s' = (startV F s (t + lt)).2 := ⟨_, rfl⟩
        rw [← hs1] at hi1
        rw [← ho1, ← hs1] at hcs
        have hi2 := (inv_exit F s1 cd (t + lt) hi1).1
        have hce := fun (W : World) (hw : MB W g F s1) => exit_calls g F s1 cd (t + lt) W hw HR64.out HF.out.agn (inv_run s1 hi1)
        obtain ⟨o2, ho2⟩ : ∃ o, o = (exitV F s1 cd (t + lt)).1 := ⟨_, rfl⟩
        obtain ⟨s2, hs2⟩ : ∃ s', s' = (exitV F s1 cd (t + lt)).2 := ⟨_, rfl⟩
        rw [← hs2] at hi2
        rw [← ho2, ← hs2] at hce
        have hct := fun (W : World) (hw : MB W g F s2) => stop_calls g F s2 (t + lt) W hw HR64.out HF.out.dn
        obtain ⟨o3, ho3⟩ : ∃ o, o = (stopV F s2 (t + lt)).1 := ⟨_, rfl⟩
        obtain ⟨s3, hs3⟩ : ∃ s', s' = (stopV F s2 (t + lt)).2 := ⟨_, rfl⟩
        rw [← ho3, ← hs3] at hct
        have HCS := Lib.hid hcs
        have HCE := Lib.hid hce
        have HCT := Lib.hid hct
        clear hcs hce hct hi1 hi2 ho1 hs1 ho2 hs2 ho3 hs3
        go_wp2_with (first
          | (go_at_call 17; ((with_reducible refine (copy_calls g F s _ HM.out).mono ?_); rintro e w6 ⟨g', rfl, hg', hm6, b6⟩); have x1' := (World.cell?_of_block (a := ⟨(ad.add (k * 3)).block, (ad.add (k * 3)).off + 1, none⟩) (b6.block _ (Nat.lt_of_lt_of_le XB.out hge))).trans XC.out.2.1; have HG' := Lib.hid (Nat.le_trans hge hg'); have HNg := Lib.hid (Nat.ne_of_lt (Nat.lt_of_lt_of_le HM.out.lt hg')).symm; have HN2' := Lib.hid (Nat.ne_of_lt (Nat.lt_of_lt_of_le HRR.out.lt hg')).symm; have HMo6 := Lib.hid (HM.out.below b6); have HM6 := Lib.hid hm6; have HR6 := Lib.hid (HRR.out.below b6); have HB6 := Lib.hid (HB.out.trans (b6.mono hge)); clear hg' hm6 b6)
          | (go_at_call 10; ((with_reducible refine (HCS.out _ HMo6.out).mono ?_); rintro e w6a ⟨rfl, hmo, hst⟩); have x16a := (World.cell?_of_block (a := ⟨(ad.add (k * 3)).block, (ad.add (k * 3)).off + 1, none⟩) (hst.block _ (Nat.lt_of_lt_of_le XB.out HB6.out.size) (Nat.ne_of_lt (Nat.lt_of_lt_of_le XB.out HG.out)))).trans (by assumption); have HMo6a := Lib.hid hmo; have HM6a := Lib.hid (mb_stp' HM6.out hst HNg.out); have HR6a := Lib.hid (HR6.out.stp hst HNE.out.symm); have HB6a := Lib.hid (HB6.out.trans (hst.below HG.out HB6.out.size)); clear hmo hst)
          | (go_at_call 12; ((with_reducible refine (HCE.out _ HMo6a.out).mono ?_); rintro e w6b ⟨rfl, hmo, hst⟩); have x16b := (World.cell?_of_block (a := ⟨(ad.add (k * 3)).block, (ad.add (k * 3)).off + 1, none⟩) (hst.block _ (Nat.lt_of_lt_of_le XB.out HB6a.out.size) (Nat.ne_of_lt (Nat.lt_of_lt_of_le XB.out HG.out)))).trans (by assumption); have HMo6b := Lib.hid hmo; have HM6b := Lib.hid (mb_stp' HM6a.out hst HNg.out); have HR6b := Lib.hid (HR6a.out.stp hst HNE.out.symm); have HB6b := Lib.hid (HB6a.out.trans (hst.below HG.out HB6a.out.size)); clear hmo hst)
          | (go_at_call 11; ((with_reducible refine (HCT.out _ HMo6b.out).mono ?_); rintro e w6c ⟨rfl, hmo, hst⟩); have x16c := (World.cell?_of_block (a := ⟨(ad.add (k * 3)).block, (ad.add (k * 3)).off + 1, none⟩) (hst.block _ (Nat.lt_of_lt_of_le XB.out HB6b.out.size) (Nat.ne_of_lt (Nat.lt_of_lt_of_le XB.out HG.out)))).trans (by assumption); have HMo6c := Lib.hid hmo; have HM6c := Lib.hid (mb_stp' HM6b.out hst HNg.out); have HR6c := Lib.hid (HR6b.out.stp hst HNE.out.symm); have HB6c := Lib.hid (HB6b.out.trans (hst.below HG.out HB6b.out.size)); clear hmo hst))
        have xq0 := cell_keep HB6c.out HB.out XB.out XC.out.1
        have xq1 := cell_keep (a := ⟨(ad.add (k * 3)).block, (ad.add (k * 3)).off + 1, none⟩) HB6c.out HB.out XB.out XC.out.2.1
        have xq2 := cell_keep (a := ⟨(ad.add (k * 3)).block, (ad.add (k * 3)).off + 2, none⟩) HB6c.out HB.out XB.out XC.out.2.2
        refine wp_region_held_drew (S := fun _ => True) (by kernel_rfl) trivial (fun hHeld => ?_)
        refine takeL (i := 0) (v := ?vv3) rfl (by kernel_rfl) (by kernel_rfl) (by kernel_rfl) (fun _ _ _ h => h) (Or.inl ⟨by rfl, ?hy3⟩) hHeld ?rest3
        case hy3 => (intro w9 hSw; (try dsimp only at hSw); go_simp; (try with_reducible rfl))
        try simp only [Act.put, List.setIfInBounds_toArray, List.set_cons_zero, List.set_cons_succ]
        refine takeL (i := 1) (v := ?vv4) rfl (by kernel_rfl) (by kernel_rfl) (by kernel_rfl) (fun _ _ _ h => h) (Or.inl ⟨by rfl, ?hy4⟩) hHeld ?rest4
        case hy4 => (intro w9 hSw; (try dsimp only at hSw); go_simp; (try with_reducible rfl))
        try simp only [Act.put, List.setIfInBounds_toArray, List.set_cons_zero, List.set_cons_succ]
        refine takeL (i := 2) (v := ?vv5) rfl (by kernel_rfl) (by kernel_rfl) (by kernel_rfl) (fun _ _ _ h => h) (Or.inl ⟨by rfl, ?hy5⟩) hHeld ?rest5
        case hy5 => (intro w9 hSw; (try dsimp only at hSw); go_simp; (try with_reducible rfl))
        try simp only [Act.put, List.setIfInBounds_toArray, List.set_cons_zero, List.set_cons_succ]
        refine takeL (i := 3) (v := ?vv6) rfl (by kernel_rfl) (by kernel_rfl) (by kernel_rfl) (fun _ _ _ h => h) (Or.inl ⟨by rfl, ?hy6⟩) hHeld ?rest6
        case hy6 => (intro w9 hSw; (try dsimp only at hSw); go_simp; (try with_reducible rfl))
        try simp only [Act.put, List.setIfInBounds_toArray, List.set_cons_zero, List.set_cons_succ]
        refine takeL (i := 6) (v := ?vv7) rfl (by kernel_rfl) (by kernel_rfl) (by kernel_rfl) (fun _ _ _ h => h) (Or.inl ⟨by rfl, ?hy7⟩) hHeld ?rest7
        case hy7 => (intro w9 hSw; (try dsimp only at hSw); go_simp; (try with_reducible rfl))
        try simp only [Act.put, List.setIfInBounds_toArray, List.set_cons_zero, List.set_cons_succ]
        refine wpAnyH_ready (rs := [4]) (by kernel_rfl) (by simp) (consL rfl (fun K hK => ?_) AllReadyH.nil)
        go_simp
        refine hK.out _ _ trivial (fun hHeld => ?_)
        clear hK K
        try simp only [Act.put, List.setIfInBounds_toArray, List.set_cons_zero, List.set_cons_succ]
        refine wpAnyH_ready (rs := [5]) (by kernel_rfl) (by simp) (consL rfl (fun K hK => ?_) AllReadyH.nil)
        go_simp
        refine hK.out _ _ trivial (fun hHeld => ?_)
        clear hK K
        try simp only [Act.put, List.setIfInBounds_toArray, List.set_cons_zero, List.set_cons_succ]
        refine wpAnyH_ready (rs := [7]) (by kernel_rfl) (by simp) (consL rfl (fun K hK => ?_) AllReadyH.nil)
        go_simp
        refine (HCALL.out g' _ (drew_blk HM6c.out) (drew_blk HR6c.out) HN2'.out HG'.out).mono ?_; rintro e w7 ⟨rfl, hm7, hr7, b7⟩; have HM7 := Lib.hid hm7; have HR7 := Lib.hid hr7; have HB7 := Lib.hid (HB6c.out.trans (below_drew b7)); clear hm7 hr7 b7
        refine hK.out _ _ trivial (fun hHeld => ?_)
        clear hK K
        try simp only [Act.put, List.setIfInBounds_toArray, List.set_cons_zero, List.set_cons_succ]
        refine takeL (i := 8) (v := ?vv8) rfl (by kernel_rfl) (by kernel_rfl) (by kernel_rfl) (fun _ _ _ h => h) (Or.inl ⟨by rfl, ?hy8⟩) hHeld ?rest8
        case hy8 => (intro w9 hSw; (try dsimp only at hSw); go_simp; (try with_reducible rfl))
        try simp only [Act.put, List.setIfInBounds_toArray, List.set_cons_zero, List.set_cons_succ]
        refine takeL (i := 9) (v := ?vv9) rfl (by kernel_rfl) (by kernel_rfl) (by kernel_rfl) (fun _ _ _ h => h) (Or.inl ⟨by rfl, ?hy9⟩) hHeld ?rest9
        case hy9 => (intro w9 hSw; (try dsimp only at hSw); go_simp; (try with_reducible rfl))
        try simp only [Act.put, List.setIfInBounds_toArray, List.set_cons_zero, List.set_cons_succ]
        refine wpAnyH_weak (S := fun w' => RB w' g2 (ff F z) sN) (fun _ _ => trivial) ?_
        clear hHeld
        have hHeld := HR7.out
        refine takeL (i := 10) (v := ?vv10) rfl (by kernel_rfl) (by kernel_rfl) (by kernel_rfl) (fun _ _ _ h => h) (Or.inl ⟨by rfl, ?hy10⟩) hHeld ?rest10
        case hy10 => (intro w9 hSw; (try dsimp only at hSw); go_simp; (try with_reducible rfl))
        try simp only [Act.put, List.setIfInBounds_toArray, List.set_cons_zero, List.set_cons_succ]
        refine takeL (i := 13) (v := ?vv11) rfl (by kernel_rfl) (by kernel_rfl) (by kernel_rfl) (fun _ _ _ h => h) (Or.inl ⟨by rfl, ?hy11⟩) hHeld ?rest11
        case hy11 => (intro w9 hSw; (try dsimp only at hSw); go_simp; (try with_reducible rfl))
        try simp only [Act.put, List.setIfInBounds_toArray, List.set_cons_zero, List.set_cons_succ]
        refine takeL (i := 14) (v := ?vv12) rfl (by kernel_rfl) (by kernel_rfl) (by kernel_rfl) (fun _ _ _ h => h) (Or.inl ⟨by rfl, ?hy12⟩) hHeld ?rest12
        case hy12 => (intro w9 hSw; (try dsimp only at hSw); go_simp; (try with_reducible rfl))
        try simp only [Act.put, List.setIfInBounds_toArray, List.set_cons_zero, List.set_cons_succ]
        refine takeL (i := 15) (v := ?vv13) rfl (by kernel_rfl) (by kernel_rfl) (by kernel_rfl) (fun _ _ _ h => h) (Or.inl ⟨by rfl, ?hy13⟩) hHeld ?rest13
        case hy13 => (intro w9 hSw; (try dsimp only at hSw); go_simp; (try with_reducible rfl))
        try simp only [Act.put, List.setIfInBounds_toArray, List.set_cons_zero, List.set_cons_succ]
        refine takeL (i := 16) (v := ?vv14) rfl (by kernel_rfl) (by kernel_rfl) (by kernel_rfl) (fun _ _ _ h => h) (Or.inl ⟨by rfl, ?hy14⟩) hHeld ?rest14
        case hy14 => (intro w9 hSw; (try dsimp only at hSw); have c25 := RB.c25 hSw; go_simp; (try with_reducible rfl))
        try simp only [Act.put, List.setIfInBounds_toArray, List.set_cons_zero, List.set_cons_succ]
        refine wpAnyH_ready (rs := [11]) (by kernel_rfl) (by simp) (consL rfl (fun K hK => ?_) AllReadyH.nil)
        go_simp
        refine (state_calls g' F sN _ HM7.out).mono ?_; rintro e w' ⟨rfl, rfl⟩
        refine hK.out _ _ HR7.out (fun hHeld => ?_)
        clear hK K
        try simp only [Act.put, List.setIfInBounds_toArray, List.set_cons_zero, List.set_cons_succ]
        refine takeL (i := 12) (v := ?vv15) rfl (by kernel_rfl) (by kernel_rfl) (by kernel_rfl) (fun _ _ _ h => h) (Or.inl ⟨by rfl, ?hy15⟩) hHeld ?rest15
        case hy15 => (intro w9 hSw; (try dsimp only at hSw); go_simp; (try with_reducible rfl))
        try simp only [Act.put, List.setIfInBounds_toArray, List.set_cons_zero, List.set_cons_succ]
        refine takeL (i := 17) (v := ?vv16) rfl (by kernel_rfl) (by kernel_rfl) (by kernel_rfl) (fun _ _ _ h => h) (Or.inl ⟨by rfl, ?hy16⟩) hHeld ?rest16
        case hy16 => (intro w9 hSw; (try dsimp only at hSw); go_simp; (try with_reducible rfl))
        try simp only [Act.put, List.setIfInBounds_toArray, List.set_cons_zero, List.set_cons_succ]
        refine takeL (i := 18) (v := ?vv17) rfl (by kernel_rfl) (by kernel_rfl) (by kernel_rfl) (fun _ _ _ h => h) (Or.inl ⟨by rfl, ?hy17⟩) hHeld ?rest17
        case hy17 => (intro w9 hSw; (try dsimp only at hSw); go_simp; (try with_reducible rfl))
        try simp only [Act.put, List.setIfInBounds_toArray, List.set_cons_zero, List.set_cons_succ]
        refine takeL (i := 19) (v := ?vv18) rfl (by kernel_rfl) (by kernel_rfl) (by kernel_rfl) (fun _ _ _ h => h) (Or.inl ⟨by rfl, ?hy18⟩) hHeld ?rest18
        case hy18 => (intro w9 hSw; (try dsimp only at hSw); go_simp; (try with_reducible rfl))
        try simp only [Act.put, List.setIfInBounds_toArray, List.set_cons_zero, List.set_cons_succ]
        refine takeL (i := 20) (v := ?vv19) rfl (by kernel_rfl) (by kernel_rfl) (by kernel_rfl) (fun _ _ _ h => h) (Or.inl ⟨by rfl, ?hy19⟩) hHeld ?rest19
        case hy19 => (intro w9 hSw; (try dsimp only at hSw); go_simp; (try with_reducible rfl))
        try simp only [Act.put, List.setIfInBounds_toArray, List.set_cons_zero, List.set_cons_succ]
        refine takeL (i := 22) (v := ?vv20) rfl (by kernel_rfl) (by kernel_rfl) (by kernel_rfl) (fun _ _ _ h => h) (Or.inl ⟨by rfl, ?hy20⟩) hHeld ?rest20
        case hy20 => (intro w9 hSw; (try dsimp only at hSw); go_simp; (try with_reducible rfl))
        try simp only [Act.put, List.setIfInBounds_toArray, List.set_cons_zero, List.set_cons_succ]
        refine takeL (i := 23) (v := ?vv21) rfl (by kernel_rfl) (by kernel_rfl) (by kernel_rfl) (fun _ _ _ h => h) (Or.inl ⟨by rfl, ?hy21⟩) hHeld ?rest21
        case hy21 => (intro w9 hSw; (try dsimp only at hSw); go_simp; (try with_reducible rfl))
        try simp only [Act.put, List.setIfInBounds_toArray, List.set_cons_zero, List.set_cons_succ]
        refine takeL (i := 24) (v := ?vv22) rfl (by kernel_rfl) (by kernel_rfl) (by kernel_rfl) (fun _ _ _ h => h) (Or.inl ⟨by rfl, ?hy22⟩) hHeld ?rest22
        case hy22 => (intro w9 hSw; (try dsimp only at hSw); go_simp; (try with_reducible rfl))
        try simp only [Act.put, List.setIfInBounds_toArray, List.set_cons_zero, List.set_cons_succ]
        refine takeL (i := 25) (v := ?vv23) rfl (by kernel_rfl) (by kernel_rfl) (by kernel_rfl) (fun _ _ _ h => h) (Or.inl ⟨by rfl, ?hy23⟩) hHeld ?rest23
        case hy23 => (intro w9 hSw; (try dsimp only at hSw); have c27 := RB.c27 hSw; go_simp; (try with_reducible rfl))
        try simp only [Act.put, List.setIfInBounds_toArray, List.set_cons_zero, List.set_cons_succ]
        refine wpAnyH_ready (rs := [21]) (by kernel_rfl) (by simp) (consL rfl (fun K hK => ?_) AllReadyH.nil)
        go_simp
        refine (due_calls g' F sN _ HM7.out).mono ?_; rintro e w' ⟨rfl, rfl⟩
        refine hK.out _ _ HR7.out (fun hHeld => ?_)
        clear hK K
        try simp only [Act.put, List.setIfInBounds_toArray, List.set_cons_zero, List.set_cons_succ]
        refine takeL (i := 26) (v := ?vv24) rfl (by kernel_rfl) (by kernel_rfl) (by kernel_rfl) (fun _ _ _ h => h) (Or.inl ⟨by rfl, ?hy24⟩) hHeld ?rest24
        case hy24 => (intro w9 hSw; (try dsimp only at hSw); go_simp; (try with_reducible rfl))
        try simp only [Act.put, List.setIfInBounds_toArray, List.set_cons_zero, List.set_cons_succ]
        refine takeL (i := 27) (v := ?vv25) rfl (by kernel_rfl) (by kernel_rfl) (by kernel_rfl) (fun _ _ _ h => h) (Or.inl ⟨by rfl, ?hy25⟩) hHeld ?rest25
        case hy25 => (intro w9 hSw; (try dsimp only at hSw); go_simp; (try with_reducible rfl))
        try simp only [Act.put, List.setIfInBounds_toArray, List.set_cons_zero, List.set_cons_succ]
        refine takeL (i := 28) (v := ?vv26) rfl (by kernel_rfl) (by kernel_rfl) (by kernel_rfl) (fun _ _ _ h => h) (Or.inl ⟨by rfl, ?hy26⟩) hHeld ?rest26
        case hy26 => (intro w9 hSw; (try dsimp only at hSw); go_simp; (try with_reducible rfl))
        try simp only [Act.put, List.setIfInBounds_toArray, List.set_cons_zero, List.set_cons_succ]
        refine takeL (i := 29) (v := ?vv27) rfl (by kernel_rfl) (by kernel_rfl) (by kernel_rfl) (fun _ _ _ h => h) (Or.inl ⟨by rfl, ?hy27⟩) hHeld ?rest27
        case hy27 => (intro w9 hSw; (try dsimp only at hSw); go_simp; (try with_reducible rfl))
        try simp only [Act.put, List.setIfInBounds_toArray, List.set_cons_zero, List.set_cons_succ]
        refine takeL (i := 31) (v := ?vv28) rfl (by kernel_rfl) (by kernel_rfl) (by kernel_rfl) (fun _ _ _ h => h) (Or.inl ⟨by rfl, ?hy28⟩) hHeld ?rest28
        case hy28 => (intro w9 hSw; (try dsimp only at hSw); go_simp; (try with_reducible rfl))
        try simp only [Act.put, List.setIfInBounds_toArray, List.set_cons_zero, List.set_cons_succ]
        refine takeL (i := 32) (v := ?vv29) rfl (by kernel_rfl) (by kernel_rfl) (by kernel_rfl) (fun _ _ _ h => h) (Or.inl ⟨by rfl, ?hy29⟩) hHeld ?rest29
        case hy29 => (intro w9 hSw; (try dsimp only at hSw); go_simp; (try with_reducible rfl))
        try simp only [Act.put, List.setIfInBounds_toArray, List.set_cons_zero, List.set_cons_succ]
        refine takeL (i := 33) (v := ?vv30) rfl (by kernel_rfl) (by kernel_rfl) (by kernel_rfl) (fun _ _ _ h => h) (Or.inl ⟨by rfl, ?hy30⟩) hHeld ?rest30
        case hy30 => (intro w9 hSw; (try dsimp only at hSw); go_simp; (try with_reducible rfl))
        try simp only [Act.put, List.setIfInBounds_toArray, List.set_cons_zero, List.set_cons_succ]
        refine takeL (i := 34) (v := ?vv31) rfl (by kernel_rfl) (by kernel_rfl) (by kernel_rfl) (fun _ _ _ h => h) (Or.inl ⟨by rfl, ?hy31⟩) hHeld ?rest31
        case hy31 => (intro w9 hSw; (try dsimp only at hSw); have c26 := RB.c26 hSw; go_simp; (try with_reducible rfl))
        try simp only [Act.put, List.setIfInBounds_toArray, List.set_cons_zero, List.set_cons_succ]
        refine wpAnyH_ready (rs := [30]) (by kernel_rfl) (by simp) (consL rfl (fun K hK => ?_) AllReadyH.nil)
        go_simp
        refine (running_calls g' F sN _ HM7.out).mono ?_; rintro e w' ⟨rfl, rfl⟩
        refine hK.out _ _ HR7.out (fun hHeld => ?_)
        clear hK K
        try simp only [Act.put, List.setIfInBounds_toArray, List.set_cons_zero, List.set_cons_succ]
        refine takeL (i := 35) (v := ?vv32) rfl (by kernel_rfl) (by kernel_rfl) (by kernel_rfl) (fun _ _ _ h => h) (Or.inl ⟨by rfl, ?hy32⟩) hHeld ?rest32
        case hy32 => (intro w9 hSw; (try dsimp only at hSw); go_simp; (try with_reducible rfl))
        try simp only [Act.put, List.setIfInBounds_toArray, List.set_cons_zero, List.set_cons_succ]
        refine takeL (i := 36) (v := ?vv33) rfl (by kernel_rfl) (by kernel_rfl) (by kernel_rfl) (fun _ _ _ h => h) (Or.inl ⟨by rfl, ?hy33⟩) hHeld ?rest33
        case hy33 => (intro w9 hSw; (try dsimp only at hSw); go_simp; (try with_reducible rfl))
        try simp only [Act.put, List.setIfInBounds_toArray, List.set_cons_zero, List.set_cons_succ]
        refine wpAnyH_done (by kernel_rfl) ?_ _
        go_wp2
        go_roundw
        case rel => exact ⟨k + 1, t + lt, sN, g', HLT.out, htl0, HTL.out, rfl, by go_num, by go_num, HM7.out, HR7.out, HN2'.out, HG'.out, HIN.out, HB7.out⟩
        case measure => have := HLT.out; simp [intOf]; omega
      · have kb : (kd % 5 == 4) = false := by simpa using h5
        go_wp2
        refine wp_region_held_drew (S := fun _ => True) (by kernel_rfl) trivial (fun hHeld => ?_)
        refine takeL (i := 0) (v := ?vv34) rfl (by kernel_rfl) (by kernel_rfl) (by kernel_rfl) (fun _ _ _ h => h) (Or.inl ⟨by rfl, ?hy34⟩) hHeld ?rest34
        case hy34 => (intro w9 hSw; (try dsimp only at hSw); go_simp; (try with_reducible rfl))
        try simp only [Act.put, List.setIfInBounds_toArray, List.set_cons_zero, List.set_cons_succ]
        refine takeL (i := 1) (v := ?vv35) rfl (by kernel_rfl) (by kernel_rfl) (by kernel_rfl) (fun _ _ _ h => h) (Or.inl ⟨by rfl, ?hy35⟩) hHeld ?rest35
        case hy35 => (intro w9 hSw; (try dsimp only at hSw); go_simp; (try with_reducible rfl))
        try simp only [Act.put, List.setIfInBounds_toArray, List.set_cons_zero, List.set_cons_succ]
        refine takeL (i := 2) (v := ?vv36) rfl (by kernel_rfl) (by kernel_rfl) (by kernel_rfl) (fun _ _ _ h => h) (Or.inl ⟨by rfl, ?hy36⟩) hHeld ?rest36
        case hy36 => (intro w9 hSw; (try dsimp only at hSw); go_simp; (try with_reducible rfl))
        try simp only [Act.put, List.setIfInBounds_toArray, List.set_cons_zero, List.set_cons_succ]
        refine takeL (i := 3) (v := ?vv37) rfl (by kernel_rfl) (by kernel_rfl) (by kernel_rfl) (fun _ _ _ h => h) (Or.inl ⟨by rfl, ?hy37⟩) hHeld ?rest37
        case hy37 => (intro w9 hSw; (try dsimp only at hSw); go_simp; (try with_reducible rfl))
        try simp only [Act.put, List.setIfInBounds_toArray, List.set_cons_zero, List.set_cons_succ]
        refine takeL (i := 6) (v := ?vv38) rfl (by kernel_rfl) (by kernel_rfl) (by kernel_rfl) (fun _ _ _ h => h) (Or.inl ⟨by rfl, ?hy38⟩) hHeld ?rest38
        case hy38 => (intro w9 hSw; (try dsimp only at hSw); go_simp; (try with_reducible rfl))
        try simp only [Act.put, List.setIfInBounds_toArray, List.set_cons_zero, List.set_cons_succ]
        refine wpAnyH_ready (rs := [4]) (by kernel_rfl) (by simp) (consL rfl (fun K hK => ?_) AllReadyH.nil)
        go_simp
        refine hK.out _ _ trivial (fun hHeld => ?_)
        clear hK K
        try simp only [Act.put, List.setIfInBounds_toArray, List.set_cons_zero, List.set_cons_succ]
        refine wpAnyH_ready (rs := [5]) (by kernel_rfl) (by simp) (consL rfl (fun K hK => ?_) AllReadyH.nil)
        go_simp
        refine hK.out _ _ trivial (fun hHeld => ?_)
        clear hK K
        try simp only [Act.put, List.setIfInBounds_toArray, List.set_cons_zero, List.set_cons_succ]
        refine wpAnyH_ready (rs := [7]) (by kernel_rfl) (by simp) (consL rfl (fun K hK => ?_) AllReadyH.nil)
        go_simp
        refine (HCALL.out g _ (drew_blk HM.out) (drew_blk HRR.out) HNE.out HG.out).mono ?_; rintro e w7 ⟨rfl, hm7, hr7, b7⟩; have HM7 := Lib.hid hm7; have HR7 := Lib.hid hr7; have HB7 := Lib.hid (HB.out.trans (below_drew b7)); clear hm7 hr7 b7
        refine hK.out _ _ trivial (fun hHeld => ?_)
        clear hK K
        try simp only [Act.put, List.setIfInBounds_toArray, List.set_cons_zero, List.set_cons_succ]
        refine takeL (i := 8) (v := ?vv39) rfl (by kernel_rfl) (by kernel_rfl) (by kernel_rfl) (fun _ _ _ h => h) (Or.inl ⟨by rfl, ?hy39⟩) hHeld ?rest39
        case hy39 => (intro w9 hSw; (try dsimp only at hSw); go_simp; (try with_reducible rfl))
        try simp only [Act.put, List.setIfInBounds_toArray, List.set_cons_zero, List.set_cons_succ]
        refine takeL (i := 9) (v := ?vv40) rfl (by kernel_rfl) (by kernel_rfl) (by kernel_rfl) (fun _ _ _ h => h) (Or.inl ⟨by rfl, ?hy40⟩) hHeld ?rest40
        case hy40 => (intro w9 hSw; (try dsimp only at hSw); go_simp; (try with_reducible rfl))
        try simp only [Act.put, List.setIfInBounds_toArray, List.set_cons_zero, List.set_cons_succ]
        refine wpAnyH_weak (S := fun w' => RB w' g2 (ff F z) sN) (fun _ _ => trivial) ?_
        clear hHeld
        have hHeld := HR7.out
        refine takeL (i := 10) (v := ?vv41) rfl (by kernel_rfl) (by kernel_rfl) (by kernel_rfl) (fun _ _ _ h => h) (Or.inl ⟨by rfl, ?hy41⟩) hHeld ?rest41
        case hy41 => (intro w9 hSw; (try dsimp only at hSw); go_simp; (try with_reducible rfl))
        try simp only [Act.put, List.setIfInBounds_toArray, List.set_cons_zero, List.set_cons_succ]
        refine takeL (i := 13) (v := ?vv42) rfl (by kernel_rfl) (by kernel_rfl) (by kernel_rfl) (fun _ _ _ h => h) (Or.inl ⟨by rfl, ?hy42⟩) hHeld ?rest42
        case hy42 => (intro w9 hSw; (try dsimp only at hSw); go_simp; (try with_reducible rfl))
        try simp only [Act.put, List.setIfInBounds_toArray, List.set_cons_zero, List.set_cons_succ]
        refine takeL (i := 14) (v := ?vv43) rfl (by kernel_rfl) (by kernel_rfl) (by kernel_rfl) (fun _ _ _ h => h) (Or.inl ⟨by rfl, ?hy43⟩) hHeld ?rest43
        case hy43 => (intro w9 hSw; (try dsimp only at hSw); go_simp; (try with_reducible rfl))
        try simp only [Act.put, List.setIfInBounds_toArray, List.set_cons_zero, List.set_cons_succ]
        refine takeL (i := 15) (v := ?vv44) rfl (by kernel_rfl) (by kernel_rfl) (by kernel_rfl) (fun _ _ _ h => h) (Or.inl ⟨by rfl, ?hy44⟩) hHeld ?rest44
        case hy44 => (intro w9 hSw; (try dsimp only at hSw); go_simp; (try with_reducible rfl))
        try simp only [Act.put, List.setIfInBounds_toArray, List.set_cons_zero, List.set_cons_succ]
        refine takeL (i := 16) (v := ?vv45) rfl (by kernel_rfl) (by kernel_rfl) (by kernel_rfl) (fun _ _ _ h => h) (Or.inl ⟨by rfl, ?hy45⟩) hHeld ?rest45
        case hy45 => (intro w9 hSw; (try dsimp only at hSw); have c25 := RB.c25 hSw; go_simp; (try with_reducible rfl))
        try simp only [Act.put, List.setIfInBounds_toArray, List.set_cons_zero, List.set_cons_succ]
        refine wpAnyH_ready (rs := [11]) (by kernel_rfl) (by simp) (consL rfl (fun K hK => ?_) AllReadyH.nil)
        go_simp
        refine (state_calls g F sN _ HM7.out).mono ?_; rintro e w' ⟨rfl, rfl⟩
        refine hK.out _ _ HR7.out (fun hHeld => ?_)
        clear hK K
        try simp only [Act.put, List.setIfInBounds_toArray, List.set_cons_zero, List.set_cons_succ]
        refine takeL (i := 12) (v := ?vv46) rfl (by kernel_rfl) (by kernel_rfl) (by kernel_rfl) (fun _ _ _ h => h) (Or.inl ⟨by rfl, ?hy46⟩) hHeld ?rest46
        case hy46 => (intro w9 hSw; (try dsimp only at hSw); go_simp; (try with_reducible rfl))
        try simp only [Act.put, List.setIfInBounds_toArray, List.set_cons_zero, List.set_cons_succ]
        refine takeL (i := 17) (v := ?vv47) rfl (by kernel_rfl) (by kernel_rfl) (by kernel_rfl) (fun _ _ _ h => h) (Or.inl ⟨by rfl, ?hy47⟩) hHeld ?rest47
        case hy47 => (intro w9 hSw; (try dsimp only at hSw); go_simp; (try with_reducible rfl))
        try simp only [Act.put, List.setIfInBounds_toArray, List.set_cons_zero, List.set_cons_succ]
        refine takeL (i := 18) (v := ?vv48) rfl (by kernel_rfl) (by kernel_rfl) (by kernel_rfl) (fun _ _ _ h => h) (Or.inl ⟨by rfl, ?hy48⟩) hHeld ?rest48
        case hy48 => (intro w9 hSw; (try dsimp only at hSw); go_simp; (try with_reducible rfl))
        try simp only [Act.put, List.setIfInBounds_toArray, List.set_cons_zero, List.set_cons_succ]
        refine takeL (i := 19) (v := ?vv49) rfl (by kernel_rfl) (by kernel_rfl) (by kernel_rfl) (fun _ _ _ h => h) (Or.inl ⟨by rfl, ?hy49⟩) hHeld ?rest49
        case hy49 => (intro w9 hSw; (try dsimp only at hSw); go_simp; (try with_reducible rfl))
        try simp only [Act.put, List.setIfInBounds_toArray, List.set_cons_zero, List.set_cons_succ]
        refine takeL (i := 20) (v := ?vv50) rfl (by kernel_rfl) (by kernel_rfl) (by kernel_rfl) (fun _ _ _ h => h) (Or.inl ⟨by rfl, ?hy50⟩) hHeld ?rest50
        case hy50 => (intro w9 hSw; (try dsimp only at hSw); go_simp; (try with_reducible rfl))
        try simp only [Act.put, List.setIfInBounds_toArray, List.set_cons_zero, List.set_cons_succ]
        refine takeL (i := 22) (v := ?vv51) rfl (by kernel_rfl) (by kernel_rfl) (by kernel_rfl) (fun _ _ _ h => h) (Or.inl ⟨by rfl, ?hy51⟩) hHeld ?rest51
        case hy51 => (intro w9 hSw; (try dsimp only at hSw); go_simp; (try with_reducible rfl))
        try simp only [Act.put, List.setIfInBounds_toArray, List.set_cons_zero, List.set_cons_succ]
        refine takeL (i := 23) (v := ?vv52) rfl (by kernel_rfl) (by kernel_rfl) (by kernel_rfl) (fun _ _ _ h => h) (Or.inl ⟨by rfl, ?hy52⟩) hHeld ?rest52
        case hy52 => (intro w9 hSw; (try dsimp only at hSw); go_simp; (try with_reducible rfl))
        try simp only [Act.put, List.setIfInBounds_toArray, List.set_cons_zero, List.set_cons_succ]
        refine takeL (i := 24) (v := ?vv53) rfl (by kernel_rfl) (by kernel_rfl) (by kernel_rfl) (fun _ _ _ h => h) (Or.inl ⟨by rfl, ?hy53⟩) hHeld ?rest53
        case hy53 => (intro w9 hSw; (try dsimp only at hSw); go_simp; (try with_reducible rfl))
        try simp only [Act.put, List.setIfInBounds_toArray, List.set_cons_zero, List.set_cons_succ]
        refine takeL (i := 25) (v := ?vv54) rfl (by kernel_rfl) (by kernel_rfl) (by kernel_rfl) (fun _ _ _ h => h) (Or.inl ⟨by rfl, ?hy54⟩) hHeld ?rest54
        case hy54 => (intro w9 hSw; (try dsimp only at hSw); have c27 := RB.c27 hSw; go_simp; (try with_reducible rfl))
        try simp only [Act.put, List.setIfInBounds_toArray, List.set_cons_zero, List.set_cons_succ]
        refine wpAnyH_ready (rs := [21]) (by kernel_rfl) (by simp) (consL rfl (fun K hK => ?_) AllReadyH.nil)
        go_simp
        refine (due_calls g F sN _ HM7.out).mono ?_; rintro e w' ⟨rfl, rfl⟩
        refine hK.out _ _ HR7.out (fun hHeld => ?_)
        clear hK K
        try simp only [Act.put, List.setIfInBounds_toArray, List.set_cons_zero, List.set_cons_succ]
        refine takeL (i := 26) (v := ?vv55) rfl (by kernel_rfl) (by kernel_rfl) (by kernel_rfl) (fun _ _ _ h => h) (Or.inl ⟨by rfl, ?hy55⟩) hHeld ?rest55
        case hy55 => (intro w9 hSw; (try dsimp only at hSw); go_simp; (try with_reducible rfl))
        try simp only [Act.put, List.setIfInBounds_toArray, List.set_cons_zero, List.set_cons_succ]
        refine takeL (i := 27) (v := ?vv56) rfl (by kernel_rfl) (by kernel_rfl) (by kernel_rfl) (fun _ _ _ h => h) (Or.inl ⟨by rfl, ?hy56⟩) hHeld ?rest56
        case hy56 => (intro w9 hSw; (try dsimp only at hSw); go_simp; (try with_reducible rfl))
        try simp only [Act.put, List.setIfInBounds_toArray, List.set_cons_zero, List.set_cons_succ]
        refine takeL (i := 28) (v := ?vv57) rfl (by kernel_rfl) (by kernel_rfl) (by kernel_rfl) (fun _ _ _ h => h) (Or.inl ⟨by rfl, ?hy57⟩) hHeld ?rest57
        case hy57 => (intro w9 hSw; (try dsimp only at hSw); go_simp; (try with_reducible rfl))
        try simp only [Act.put, List.setIfInBounds_toArray, List.set_cons_zero, List.set_cons_succ]
        refine takeL (i := 29) (v := ?vv58) rfl (by kernel_rfl) (by kernel_rfl) (by kernel_rfl) (fun _ _ _ h => h) (Or.inl ⟨by rfl, ?hy58⟩) hHeld ?rest58
        case hy58 => (intro w9 hSw; (try dsimp only at hSw); go_simp; (try with_reducible rfl))
        try simp only [Act.put, List.setIfInBounds_toArray, List.set_cons_zero, List.set_cons_succ]
        refine takeL (i := 31) (v := ?vv59) rfl (by kernel_rfl) (by kernel_rfl) (by kernel_rfl) (fun _ _ _ h => h) (Or.inl ⟨by rfl, ?hy59⟩) hHeld ?rest59
        case hy59 => (intro w9 hSw; (try dsimp only at hSw); go_simp; (try with_reducible rfl))
        try simp only [Act.put, List.setIfInBounds_toArray, List.set_cons_zero, List.set_cons_succ]
        refine takeL (i := 32) (v := ?vv60) rfl (by kernel_rfl) (by kernel_rfl) (by kernel_rfl) (fun _ _ _ h => h) (Or.inl ⟨by rfl, ?hy60⟩) hHeld ?rest60
        case hy60 => (intro w9 hSw; (try dsimp only at hSw); go_simp; (try with_reducible rfl))
        try simp only [Act.put, List.setIfInBounds_toArray, List.set_cons_zero, List.set_cons_succ]
        refine takeL (i := 33) (v := ?vv61) rfl (by kernel_rfl) (by kernel_rfl) (by kernel_rfl) (fun _ _ _ h => h) (Or.inl ⟨by rfl, ?hy61⟩) hHeld ?rest61
        case hy61 => (intro w9 hSw; (try dsimp only at hSw); go_simp; (try with_reducible rfl))
        try simp only [Act.put, List.setIfInBounds_toArray, List.set_cons_zero, List.set_cons_succ]
        refine takeL (i := 34) (v := ?vv62) rfl (by kernel_rfl) (by kernel_rfl) (by kernel_rfl) (fun _ _ _ h => h) (Or.inl ⟨by rfl, ?hy62⟩) hHeld ?rest62
        case hy62 => (intro w9 hSw; (try dsimp only at hSw); have c26 := RB.c26 hSw; go_simp; (try with_reducible rfl))
        try simp only [Act.put, List.setIfInBounds_toArray, List.set_cons_zero, List.set_cons_succ]
        refine wpAnyH_ready (rs := [30]) (by kernel_rfl) (by simp) (consL rfl (fun K hK => ?_) AllReadyH.nil)
        go_simp
        refine (running_calls g F sN _ HM7.out).mono ?_; rintro e w' ⟨rfl, rfl⟩
        refine hK.out _ _ HR7.out (fun hHeld => ?_)
        clear hK K
        try simp only [Act.put, List.setIfInBounds_toArray, List.set_cons_zero, List.set_cons_succ]
        refine takeL (i := 35) (v := ?vv63) rfl (by kernel_rfl) (by kernel_rfl) (by kernel_rfl) (fun _ _ _ h => h) (Or.inl ⟨by rfl, ?hy63⟩) hHeld ?rest63
        case hy63 => (intro w9 hSw; (try dsimp only at hSw); go_simp; (try with_reducible rfl))
        try simp only [Act.put, List.setIfInBounds_toArray, List.set_cons_zero, List.set_cons_succ]
        refine takeL (i := 36) (v := ?vv64) rfl (by kernel_rfl) (by kernel_rfl) (by kernel_rfl) (fun _ _ _ h => h) (Or.inl ⟨by rfl, ?hy64⟩) hHeld ?rest64
        case hy64 => (intro w9 hSw; (try dsimp only at hSw); go_simp; (try with_reducible rfl))
        try simp only [Act.put, List.setIfInBounds_toArray, List.set_cons_zero, List.set_cons_succ]
        refine wpAnyH_done (by kernel_rfl) ?_ _
        go_wp2
        go_roundw
        case rel => exact ⟨k + 1, t + lt, sN, g, HLT.out, htl0, HTL.out, rfl, by go_num, by go_num, HM7.out, HR7.out, HNE.out, HG.out, HIN.out, HB7.out⟩
        case measure => have := HLT.out; simp [intOf]; omega
    · have hlb : decide ((k : Int) < (l.length : Int)) = false := decide_eq_false (by omega)
      clear HRR
      go_wp2_with (first
        | (go_at_call 18; ((with_reducible refine (works_calls _).mono ?_); rintro e ww ⟨rfl, bw⟩); have BW := Lib.hid bw; clear bw))
      go_ret
      exact ⟨rfl, HB.out.trans (BW.out.mono hge)⟩
end Go.Proofs.Ytngoenbdimlppaa.Svc
