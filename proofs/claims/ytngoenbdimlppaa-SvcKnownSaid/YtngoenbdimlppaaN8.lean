/- The machine's functions where there is no machine; what oneshot answers, written out. -/
import Derived.Test.YtngoenbdimlppaaN7
namespace Go.Proofs.Ytngoenbdimlppaa.Svc
open Go.RowKit Go.Proofs.YtngoenbdimlppaaW.PrintWords Go.Proofs.YtngoenbdimlppaaW.PrintLast Go.Proofs.YtngoenbdimlppaaW.PrintMore
open Go.Proofs.Ytngoenbdimlppaa.All (S25 k25 rd_T25 at_T25 S76 k76)
set_option linter.unusedVariables false
set_option linter.unusedSimpArgs false
set_option maxRecDepth 100000

theorem nil_start (t : Int) (w : World) : Calls Try.prog 10 #[.pointer none, .int .i64 t] w fun e w' => e = .returned (.tuple #[.agg #[.bool false, .bool false, .bool false, .int .u8 0], .int .i64 1]) ∧ Below w.heap.size w w' := by
  have hu43 := Try.underlying43
  go_enter Try.func10, Try.ntmps10
  go_wp2
  refine bodyPost_ret (results_ct rfl _ _ w.heap.size 43 _ (0, 0) _ rfl (blk_new _ _) Try.underlying43 rfl (by kernel_rfl)) rfl ?_
  exact ⟨rfl, below_alloc (Below.refl w.heap.size w) _⟩
theorem nil_stop (t : Int) (w : World) : Calls Try.prog 11 #[.pointer none, .int .i64 t] w fun e w' => e = .returned (.tuple #[.agg #[.bool false, .bool false, .bool false, .int .u8 0], .int .i64 1]) ∧ Below w.heap.size w w' := by
  have hu43 := Try.underlying43
  go_enter Try.func11, Try.ntmps11
  go_wp2
  refine bodyPost_ret (results_ct rfl _ _ w.heap.size 43 _ (0, 0) _ rfl (blk_new _ _) Try.underlying43 rfl (by kernel_rfl)) rfl ?_
  exact ⟨rfl, below_alloc (Below.refl w.heap.size w) _⟩
theorem nil_state (w : World) : Calls Try.prog 14 #[.pointer none] w fun e w' => e = .returned (.int .u8 0) ∧ w = w' := by
  go_enter Try.func14, Try.ntmps14
  go_wp2
  go_ret
  exact ⟨rfl, rfl⟩
theorem nil_due (w : World) : Calls Try.prog 15 #[.pointer none] w fun e w' => e = .returned (.int .i64 9223372036854775807) ∧ w = w' := by
  go_enter Try.func15, Try.ntmps15
  go_wp2
  go_ret
  exact ⟨rfl, rfl⟩
theorem nil_running (w : World) : Calls Try.prog 16 #[.pointer none] w fun e w' => e = .returned (.bool false) ∧ w = w' := by
  go_enter Try.func16, Try.ntmps16
  go_wp2
  go_ret
  exact ⟨rfl, rfl⟩
theorem nil_copy (w : World) : Calls Try.prog 17 #[.pointer none] w fun e w' => e = .returned (.pointer none) ∧ w = w' := by
  go_enter Try.func17, Try.ntmps17
  go_wp2
  go_ret
  exact ⟨rfl, rfl⟩
theorem nil_exit (c t : Int) (w : World) : Calls Try.prog 12 #[.pointer none, .int .i64 c, .int .i64 t] w fun e w' => e = .returned (.agg #[.bool false, .bool false, .bool false, .int .u8 0]) ∧ Below w.heap.size w w' := by
  have hu43 := Try.underlying43
  go_enter Try.func12, Try.ntmps12
  go_wp2_with (first
    | (go_at_call 16; ((with_reducible refine (nil_running _).mono ?_); rintro e w' ⟨rfl, rfl⟩)))
  refine bodyPost_ret (results_cell_row rfl _ _ w.heap.size 43 _ (0, 0) _ rfl (blk_new _ _) Try.underlying43 rfl (by kernel_rfl)) rfl ?_
  exact ⟨rfl, below_alloc (Below.refl w.heap.size w) _⟩
theorem nil_tick (t : Int) (w : World) : Calls Try.prog 13 #[.pointer none, .int .i64 t] w fun e w' => e = .returned (.agg #[.bool false, .bool false, .bool false, .int .u8 0]) ∧ Below w.heap.size w w' := by
  have hu43 := Try.underlying43
  go_enter Try.func13, Try.ntmps13
  go_wp2
  refine bodyPost_ret (results_cell_row rfl _ _ w.heap.size 43 _ (0, 0) _ rfl (blk_new _ _) Try.underlying43 rfl (by kernel_rfl)) rfl ?_
  exact ⟨rfl, below_alloc (Below.refl w.heap.size w) _⟩
/-- What oneshot answers. -/
theorem oneF_calls (rem : Bool) (rst : Int) (w : World) :
    Calls Try.prog 8 #[.bool rem, .int .u8 rst] w fun e w' => ∃ a, e = .returned (.agg (fc (oneF rem rst a))) ∧ Below w.heap.size w w' := by
  have hu36 := Try.underlying36
  have hu31 := Try.underlying31
  go_enter Try.func8, Try.ntmps8
  go_wp2_with (first
    | ((with_reducible refine gate_dst (N := 4) rfl ?_); refine box_event ?hg (N := 4) ?hd (cs := zf) (t := 36) ?hr ?_; (case hd => rfl); (case hg => rfl); (case hr => first | (go_simp; done) | (go_simp; rfl)); intro g1 e1 w1 h1 b1; have E1 := Lib.hid e1; have H1 := Lib.hid h1; have B1 := Lib.hid b1; clear e1 h1 b1)
    | ((with_reducible refine gate_store (t := 36) (p := 4) rfl ?_); refine wpList_store_all rfl 36 _ _ rfl g1 zf (fc (oneF rem rst (some ⟨w1.heap.size, 0, none⟩))) 36 rfl rfl (blk_alloc H1.out _) rfl (by kernel_rfl) (fc_one _) ?_; intro w2 h2 s2; have H2 := Lib.hid h2; have S2 := Lib.hid s2; clear h2 s2))
  refine bodyPost_ret (results_cell_row rfl _ _ g1 36 _ (0, 0) _ rfl H2.out Try.underlying36 rfl (by kernel_rfl)) rfl ?_
  exact ⟨_, rfl, (B1.out.alloc B1.out.size _).trans (S2.out.below (Nat.le_of_eq E1.out.symm) (by rw [World.size_alloc]; have := B1.out.size; omega))⟩
end Go.Proofs.Ytngoenbdimlppaa.Svc
