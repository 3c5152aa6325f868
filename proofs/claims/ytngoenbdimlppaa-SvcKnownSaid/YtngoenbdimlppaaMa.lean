/- The chapter's examples hold: works tells true. -/
import Derived.Test.YtngoenbdimlppaaM9
namespace Go.Proofs.Ytngoenbdimlppaa.Svc
open Go.RowKit Go.Proofs.YtngoenbdimlppaaW.PrintWords Go.Proofs.YtngoenbdimlppaaW.PrintLast Go.Proofs.YtngoenbdimlppaaW.PrintMore
attribute [local go_sem high] eqA43
set_option linter.unusedVariables false
set_option linter.unusedSimpArgs false
set_option maxRecDepth 100000

set_option maxHeartbeats 2000000 in
theorem works_calls (w : World) : Calls Try.prog 18 #[] w fun e w' => e = .returned (.bool true) ∧ Below w.heap.size w w' := by
  have hu43 := Try.underlying43
  have hu36 := Try.underlying36
  have hu31 := Try.underlying31
  go_enter Try.func18, Try.ntmps18
  go_wp2_with (first
    | (go_at_call 8; ((with_reducible refine (oneshot_calls false 1 _).mono ?_); rintro e w1 ⟨F1, rfl, hF1, b1⟩); have HF1 := Lib.hid hF1; have B1 := Lib.hid b1; clear hF1 b1)
    | (go_at_call 20; ((with_reducible refine (new_calls F1 _).mono ?_); rintro e w2 ⟨g1, rfl, hg1, hm2, b2⟩); have hl1 := hm2.lt; have HG1 := Lib.hid hg1; have HM2 := Lib.hid hm2; have B2 := Lib.hid b2; clear hg1 hm2 b2)
    | (go_at_call 10; ((with_reducible refine (one_start_c g1 F1 HF1.out _ HM2.out).mono ?_); rintro e w3 ⟨rfl, hm3, s3⟩); have hl3 := hm3.lt; have HM3 := Lib.hid hm3; have S3 := Lib.hid s3; clear hm3 s3)
    | (go_at_call 14; ((with_reducible refine (state_calls g1 F1 ⟨2, true, 1005, false⟩ _ (HM3.out.alloc _)).mono ?_); rintro e w' ⟨rfl, rfl⟩))
    | (go_at_call 15; ((with_reducible refine (due_calls g1 F1 ⟨2, true, 1005, false⟩ _ (HM3.out.alloc _)).mono ?_); rintro e w' ⟨rfl, rfl⟩))
    | (go_at_call 12; ((with_reducible refine (one_exit_c g1 F1 HF1.out _ (HM3.out.alloc _)).mono ?_); rintro e w4 ⟨rfl, hm4, s4⟩); have hxA := s4.blk (blk_new w3 _) (by omega); have hl4 := hm4.lt; have hsA := blk_lt hxA; have HM4 := Lib.hid hm4; have S4 := Lib.hid s4; have HXA4 := Lib.hid hxA; clear hm4 s4 hxA)
    | (go_at_call 8; ((with_reducible refine (oneshot_calls false 2 _).mono ?_); rintro e w5 ⟨F2, rfl, hF2, b5⟩); have HF2 := Lib.hid hF2; have B5 := Lib.hid b5; clear hF2 b5)
    | ((with_reducible refine gate_dst (N := 7) rfl ?_); refine box_event ?hg (N := 7) ?hd (cs := zf) (t := 36) ?hr ?_; (case hd => rfl); (case hg => rfl); (case hr => first | (go_simp; done) | (go_simp; rfl)); intro g7 e7 w6 h6 b6; have E7 := Lib.hid e7; have H6 := Lib.hid h6; have BX6 := Lib.hid (B5.out.trans (b6.mono B5.out.size)); clear e7 h6 b6)
    | ((with_reducible refine gate_store (t := 36) (p := 7) rfl ?_); refine wpList_store_all rfl 36 _ _ rfl g7 zf (fc F2) 36 rfl rfl H6.out rfl (by kernel_rfl) (fc_one _) ?_; intro w7 h7 s7; have k7 : w7.cell? ⟨g7, 11, none⟩ = some (.int .u8 F2.typ) := (blk_cell h7 11).trans rfl; have q7 := blk_frozen h7 11; have H7 := Lib.hid (blk_put (cs' := fc (simpF F2)) h7 11 (.int .u8 1) rfl); have BX7 := Lib.hid (BX6.out.trans ((s7.set (g := g7) (j := 11) (.int .u8 1)).below (by rw [E7.out]; exact B5.out.size) BX6.out.size)); clear h7 s7)
    | ((with_reducible refine gate_dst (N := 28) rfl ?_); refine wpList_load_mid rfl 36 _ rfl g7 0 rfl (fc (simpF F2)).toList _ (range_blk H7.out) hu36 rfl (by kernel_rfl) ?_)
    | (go_at_call 20; ((with_reducible refine (new_calls (simpF F2) _).mono ?_); rintro e w8 ⟨g8, rfl, hg8, hm8, b8⟩); have hl8 := hm8.lt; have HG8 := Lib.hid (Nat.le_trans BX7.out.size hg8); have HM8 := Lib.hid hm8; have BX8 := Lib.hid (BX7.out.trans (b8.mono BX7.out.size)); clear hg8 hm8 b8)
    | (go_at_call 10; ((with_reducible refine (two_start_c g8 F2 HF2.out _ HM8.out).mono ?_); rintro e w9 ⟨rfl, hm9, s9⟩); have hl9 := hm9.lt; have HM9 := Lib.hid hm9; have BX9 := Lib.hid (BX8.out.trans (s9.below HG8.out BX8.out.size)); clear hm9 s9)
    | (go_at_call 12; ((with_reducible refine (two_exit_c g8 F2 HF2.out _ (HM9.out.alloc _)).mono ?_); rintro e wa ⟨rfl, hma, sa⟩); have bxa := ((BX9.out.alloc BX9.out.size _).trans (sa.below HG8.out (Nat.le_trans BX9.out.size (by rw [World.size_alloc]; exact Nat.le_succ _)))); have xA := blk_below (blk_alloc HXA4.out _) bxa; have xB := blk_below (blk_new w4 _) bxa; have xC := sa.blk (blk_new w9 _) (by omega); have hm1 := (HM4.out.alloc _).below bxa; have tA := blk_lt xA; have tB := blk_lt xB; have tC := blk_lt xC; obtain ⟨a0, a1, a2, a3, -, -, -, -⟩ := box4 xA; obtain ⟨b0, b1, b2, b3, -, -, -, -⟩ := box4 xB; obtain ⟨c0, c1, c2, c3, -, -, -, -⟩ := box4 xC; have HMa := Lib.hid hma; have HM1a := Lib.hid hm1; have BXa := Lib.hid bxa; clear hma sa bxa xA xB xC hm1)
    | (go_at_call 14; ((with_reducible refine (state_calls g1 F1 ⟨1, false, 9223372036854775807, false⟩ _ (HM1a.out.alloc _)).mono ?_); rintro e w' ⟨rfl, rfl⟩))
    | (go_at_call 14; ((with_reducible refine (state_calls g8 (simpF F2) ⟨5, false, 107, false⟩ _ (HMa.out.alloc _)).mono ?_); rintro e w' ⟨rfl, rfl⟩))
    | (go_at_call 15; ((with_reducible refine (due_calls g8 (simpF F2) ⟨5, false, 107, false⟩ _ (HMa.out.alloc _)).mono ?_); rintro e w' ⟨rfl, rfl⟩)))
  go_ret
  have h2 := B1.out.trans (B2.out.mono B1.out.size)
  have hg : w.heap.size ≤ g1 := Nat.le_trans B1.out.size HG1.out
  have h3 := h2.trans (S3.out.below hg h2.size)
  have h4 := h3.alloc h3.size (.cells #[.bool true, .bool false, .bool false, .int .u8 0] 43)
  have h5 := h4.trans (S4.out.below hg h4.size)
  have h6 := h5.alloc h5.size (.cells #[.bool false, .bool false, .bool false, .int .u8 1] 43)
  have h7 := h6.trans (BXa.out.mono h6.size)
  exact ⟨rfl, h7.alloc h7.size _⟩
end Go.Proofs.Ytngoenbdimlppaa.Svc
