/- The contract of ready. -/
import Derived.Test.YtngoenbdimlppaaMa
import Derived.Test.YtngoenbdimlppaaMb
namespace Go.Proofs.Ytngoenbdimlppaa.Svc
open Go.RowKit Go.Proofs.YtngoenbdimlppaaW.PrintWords Go.Proofs.YtngoenbdimlppaaW.PrintLast Go.Proofs.YtngoenbdimlppaaW.PrintMore
set_option linter.unusedVariables false
set_option linter.unusedSimpArgs false
set_option maxRecDepth 100000

/-- A file as it is loaded. -/
def Ready (F : FV) : Prop := 1 ≤ F.kind ∧ F.kind ≤ 3 ∧ (F.kind = 1 → 1 ≤ F.typ ∧ F.typ ≤ 3) ∧ 0 ≤ F.up ∧ 0 ≤ F.dn ∧ 0 ≤ F.agn ∧ F.ex.n ≤ 64
noncomputable instance (F : FV) : Decidable (Ready F) := Classical.propDecidable _

theorem below_trans_alloc {w w1 : World} (h : Below w.heap.size w w1) (o : Obj) : Below w.heap.size w (w1.alloc o) := h.alloc h.size o
set_option maxHeartbeats 2000000 in
theorem ready_calls (F : FV) (w : World) : Calls Try.prog 19 #[.agg (fc F)] w fun e w' => e = .returned (.bool (decide (Ready F))) ∧ Below w.heap.size w w' := by
  have hu36 := Try.underlying36
  have hu31 := Try.underlying31
  by_cases c0 : 1 ≤ F.kind
  · have b0 : decide (1 ≤ F.kind) = true := decide_eq_true (by omega)
    by_cases c1 : F.kind ≤ 3
    · have b1 : decide (F.kind ≤ 3) = true := decide_eq_true (by omega)
      by_cases ck : F.kind = 1
      · have bk : (F.kind != 1) = false := by simpa using ck
        by_cases ct1 : 1 ≤ F.typ
        · have bt1 : decide (1 ≤ F.typ) = true := decide_eq_true ct1
          by_cases ct2 : F.typ ≤ 3
          · have bt2 : decide (F.typ ≤ 3) = true := decide_eq_true ct2
            by_cases c3 : 0 ≤ F.up
            · have b3 : decide (0 ≤ F.up) = true := decide_eq_true (by omega)
              by_cases c4 : 0 ≤ F.dn
              · have b4 : decide (0 ≤ F.dn) = true := decide_eq_true (by omega)
                by_cases c5 : 0 ≤ F.agn
                · have b5 : decide (0 ≤ F.agn) = true := decide_eq_true (by omega)
                  by_cases c6 : F.ex.n ≤ 64
                  · have b6 : decide ((F.ex.n : Int) ≤ 64) = true := decide_eq_true (by omega)
                    have hR : Ready F := by unfold Ready; omega
                    rw [decide_eq_true hR]
                    clear hR c0 c1 ck ct1 ct2 c3 c4 c5 c6
                    go_enter Try.func19, Try.ntmps19
                    go_wp2_with (first
                      | ((with_reducible refine gate_dst (N := 1) rfl ?_); refine box_event ?hg (N := 1) ?hd (cs := fc F) (t := 36) ?hr ?_; (case hd => rfl); (case hg => rfl); (case hr => first | (go_simp; done) | (go_simp; rfl)); intro g1 e1 w1 h1 b1; have l1 := blk_lt h1; have k0 : w1.cell? ⟨g1, 0, none⟩ = some (.int .u8 F.kind) := (blk_cell h1 0).trans rfl; have k11 : w1.cell? ⟨g1, 11, none⟩ = some (.int .u8 F.typ) := (blk_cell h1 11).trans rfl; have k12 : w1.cell? ⟨g1, 12, none⟩ = some (.bool F.rem) := (blk_cell h1 12).trans rfl; have k13 : w1.cell? ⟨g1, 13, none⟩ = some (.int .u8 F.rst) := (blk_cell h1 13).trans rfl; have k14 : w1.cell? ⟨g1, 14, none⟩ = some (.int .i64 F.agn) := (blk_cell h1 14).trans rfl; have k15 : w1.cell? ⟨g1, 15, none⟩ = some (.int .i64 F.up) := (blk_cell h1 15).trans rfl; have k16 : w1.cell? ⟨g1, 16, none⟩ = some (.int .i64 F.dn) := (blk_cell h1 16).trans rfl; have k17 : w1.cell? ⟨g1, 17, none⟩ = some (.slice F.ex.a F.ex.n F.ex.c) := (blk_cell h1 17).trans rfl; have B1 := Lib.hid b1; clear e1 h1 b1))
                    go_ret
                    exact ⟨rfl, below_trans_alloc B1.out _⟩
                  · have b6 : decide ((F.ex.n : Int) ≤ 64) = false := decide_eq_false (by omega)
                    have hR : ¬ Ready F := by unfold Ready; omega
                    rw [decide_eq_false hR]
                    clear hR c0 c1 ck ct1 ct2 c3 c4 c5 c6
                    go_enter Try.func19, Try.ntmps19
                    go_wp2_with (first
                      | ((with_reducible refine gate_dst (N := 1) rfl ?_); refine box_event ?hg (N := 1) ?hd (cs := fc F) (t := 36) ?hr ?_; (case hd => rfl); (case hg => rfl); (case hr => first | (go_simp; done) | (go_simp; rfl)); intro g1 e1 w1 h1 b1; have l1 := blk_lt h1; have k0 : w1.cell? ⟨g1, 0, none⟩ = some (.int .u8 F.kind) := (blk_cell h1 0).trans rfl; have k11 : w1.cell? ⟨g1, 11, none⟩ = some (.int .u8 F.typ) := (blk_cell h1 11).trans rfl; have k12 : w1.cell? ⟨g1, 12, none⟩ = some (.bool F.rem) := (blk_cell h1 12).trans rfl; have k13 : w1.cell? ⟨g1, 13, none⟩ = some (.int .u8 F.rst) := (blk_cell h1 13).trans rfl; have k14 : w1.cell? ⟨g1, 14, none⟩ = some (.int .i64 F.agn) := (blk_cell h1 14).trans rfl; have k15 : w1.cell? ⟨g1, 15, none⟩ = some (.int .i64 F.up) := (blk_cell h1 15).trans rfl; have k16 : w1.cell? ⟨g1, 16, none⟩ = some (.int .i64 F.dn) := (blk_cell h1 16).trans rfl; have k17 : w1.cell? ⟨g1, 17, none⟩ = some (.slice F.ex.a F.ex.n F.ex.c) := (blk_cell h1 17).trans rfl; have B1 := Lib.hid b1; clear e1 h1 b1))
                    go_ret
                    exact ⟨rfl, below_trans_alloc B1.out _⟩
                · have b5 : decide (0 ≤ F.agn) = false := decide_eq_false (by omega)
                  have hR : ¬ Ready F := by unfold Ready; omega
                  rw [decide_eq_false hR]
                  clear hR c0 c1 ck ct1 ct2 c3 c4 c5
                  go_enter Try.func19, Try.ntmps19
                  go_wp2_with (first
                    | ((with_reducible refine gate_dst (N := 1) rfl ?_); refine box_event ?hg (N := 1) ?hd (cs := fc F) (t := 36) ?hr ?_; (case hd => rfl); (case hg => rfl); (case hr => first | (go_simp; done) | (go_simp; rfl)); intro g1 e1 w1 h1 b1; have l1 := blk_lt h1; have k0 : w1.cell? ⟨g1, 0, none⟩ = some (.int .u8 F.kind) := (blk_cell h1 0).trans rfl; have k11 : w1.cell? ⟨g1, 11, none⟩ = some (.int .u8 F.typ) := (blk_cell h1 11).trans rfl; have k12 : w1.cell? ⟨g1, 12, none⟩ = some (.bool F.rem) := (blk_cell h1 12).trans rfl; have k13 : w1.cell? ⟨g1, 13, none⟩ = some (.int .u8 F.rst) := (blk_cell h1 13).trans rfl; have k14 : w1.cell? ⟨g1, 14, none⟩ = some (.int .i64 F.agn) := (blk_cell h1 14).trans rfl; have k15 : w1.cell? ⟨g1, 15, none⟩ = some (.int .i64 F.up) := (blk_cell h1 15).trans rfl; have k16 : w1.cell? ⟨g1, 16, none⟩ = some (.int .i64 F.dn) := (blk_cell h1 16).trans rfl; have k17 : w1.cell? ⟨g1, 17, none⟩ = some (.slice F.ex.a F.ex.n F.ex.c) := (blk_cell h1 17).trans rfl; have B1 := Lib.hid b1; clear e1 h1 b1))
                  go_ret
                  exact ⟨rfl, below_trans_alloc B1.out _⟩
              · have b4 : decide (0 ≤ F.dn) = false := decide_eq_false (by omega)
                have hR : ¬ Ready F := by unfold Ready; omega
                rw [decide_eq_false hR]
                clear hR c0 c1 ck ct1 ct2 c3 c4
                go_enter Try.func19, Try.ntmps19
                go_wp2_with (first
                  | ((with_reducible refine gate_dst (N := 1) rfl ?_); refine box_event ?hg (N := 1) ?hd (cs := fc F) (t := 36) ?hr ?_; (case hd => rfl); (case hg => rfl); (case hr => first | (go_simp; done) | (go_simp; rfl)); intro g1 e1 w1 h1 b1; have l1 := blk_lt h1; have k0 : w1.cell? ⟨g1, 0, none⟩ = some (.int .u8 F.kind) := (blk_cell h1 0).trans rfl; have k11 : w1.cell? ⟨g1, 11, none⟩ = some (.int .u8 F.typ) := (blk_cell h1 11).trans rfl; have k12 : w1.cell? ⟨g1, 12, none⟩ = some (.bool F.rem) := (blk_cell h1 12).trans rfl; have k13 : w1.cell? ⟨g1, 13, none⟩ = some (.int .u8 F.rst) := (blk_cell h1 13).trans rfl; have k14 : w1.cell? ⟨g1, 14, none⟩ = some (.int .i64 F.agn) := (blk_cell h1 14).trans rfl; have k15 : w1.cell? ⟨g1, 15, none⟩ = some (.int .i64 F.up) := (blk_cell h1 15).trans rfl; have k16 : w1.cell? ⟨g1, 16, none⟩ = some (.int .i64 F.dn) := (blk_cell h1 16).trans rfl; have k17 : w1.cell? ⟨g1, 17, none⟩ = some (.slice F.ex.a F.ex.n F.ex.c) := (blk_cell h1 17).trans rfl; have B1 := Lib.hid b1; clear e1 h1 b1))
                go_ret
                exact ⟨rfl, below_trans_alloc B1.out _⟩
            · have b3 : decide (0 ≤ F.up) = false := decide_eq_false (by omega)
              have hR : ¬ Ready F := by unfold Ready; omega
              rw [decide_eq_false hR]
              clear hR c0 c1 ck ct1 ct2 c3
              go_enter Try.func19, Try.ntmps19
              go_wp2_with (first
                | ((with_reducible refine gate_dst (N := 1) rfl ?_); refine box_event ?hg (N := 1) ?hd (cs := fc F) (t := 36) ?hr ?_; (case hd => rfl); (case hg => rfl); (case hr => first | (go_simp; done) | (go_simp; rfl)); intro g1 e1 w1 h1 b1; have l1 := blk_lt h1; have k0 : w1.cell? ⟨g1, 0, none⟩ = some (.int .u8 F.kind) := (blk_cell h1 0).trans rfl; have k11 : w1.cell? ⟨g1, 11, none⟩ = some (.int .u8 F.typ) := (blk_cell h1 11).trans rfl; have k12 : w1.cell? ⟨g1, 12, none⟩ = some (.bool F.rem) := (blk_cell h1 12).trans rfl; have k13 : w1.cell? ⟨g1, 13, none⟩ = some (.int .u8 F.rst) := (blk_cell h1 13).trans rfl; have k14 : w1.cell? ⟨g1, 14, none⟩ = some (.int .i64 F.agn) := (blk_cell h1 14).trans rfl; have k15 : w1.cell? ⟨g1, 15, none⟩ = some (.int .i64 F.up) := (blk_cell h1 15).trans rfl; have k16 : w1.cell? ⟨g1, 16, none⟩ = some (.int .i64 F.dn) := (blk_cell h1 16).trans rfl; have k17 : w1.cell? ⟨g1, 17, none⟩ = some (.slice F.ex.a F.ex.n F.ex.c) := (blk_cell h1 17).trans rfl; have B1 := Lib.hid b1; clear e1 h1 b1))
              go_ret
              exact ⟨rfl, below_trans_alloc B1.out _⟩
          · have bt2 : decide (F.typ ≤ 3) = false := decide_eq_false ct2
            have hR : ¬ Ready F := by unfold Ready; omega
            rw [decide_eq_false hR]
            clear hR c0 c1 ck ct1 ct2
            go_enter Try.func19, Try.ntmps19
            go_wp2_with (first
              | ((with_reducible refine gate_dst (N := 1) rfl ?_); refine box_event ?hg (N := 1) ?hd (cs := fc F) (t := 36) ?hr ?_; (case hd => rfl); (case hg => rfl); (case hr => first | (go_simp; done) | (go_simp; rfl)); intro g1 e1 w1 h1 b1; have l1 := blk_lt h1; have k0 : w1.cell? ⟨g1, 0, none⟩ = some (.int .u8 F.kind) := (blk_cell h1 0).trans rfl; have k11 : w1.cell? ⟨g1, 11, none⟩ = some (.int .u8 F.typ) := (blk_cell h1 11).trans rfl; have k12 : w1.cell? ⟨g1, 12, none⟩ = some (.bool F.rem) := (blk_cell h1 12).trans rfl; have k13 : w1.cell? ⟨g1, 13, none⟩ = some (.int .u8 F.rst) := (blk_cell h1 13).trans rfl; have k14 : w1.cell? ⟨g1, 14, none⟩ = some (.int .i64 F.agn) := (blk_cell h1 14).trans rfl; have k15 : w1.cell? ⟨g1, 15, none⟩ = some (.int .i64 F.up) := (blk_cell h1 15).trans rfl; have k16 : w1.cell? ⟨g1, 16, none⟩ = some (.int .i64 F.dn) := (blk_cell h1 16).trans rfl; have k17 : w1.cell? ⟨g1, 17, none⟩ = some (.slice F.ex.a F.ex.n F.ex.c) := (blk_cell h1 17).trans rfl; have B1 := Lib.hid b1; clear e1 h1 b1))
            go_ret
            exact ⟨rfl, below_trans_alloc B1.out _⟩
        · have bt1 : decide (1 ≤ F.typ) = false := decide_eq_false ct1
          have hR : ¬ Ready F := by unfold Ready; omega
          rw [decide_eq_false hR]
          clear hR c0 c1 ck ct1
          go_enter Try.func19, Try.ntmps19
          go_wp2_with (first
            | ((with_reducible refine gate_dst (N := 1) rfl ?_); refine box_event ?hg (N := 1) ?hd (cs := fc F) (t := 36) ?hr ?_; (case hd => rfl); (case hg => rfl); (case hr => first | (go_simp; done) | (go_simp; rfl)); intro g1 e1 w1 h1 b1; have l1 := blk_lt h1; have k0 : w1.cell? ⟨g1, 0, none⟩ = some (.int .u8 F.kind) := (blk_cell h1 0).trans rfl; have k11 : w1.cell? ⟨g1, 11, none⟩ = some (.int .u8 F.typ) := (blk_cell h1 11).trans rfl; have k12 : w1.cell? ⟨g1, 12, none⟩ = some (.bool F.rem) := (blk_cell h1 12).trans rfl; have k13 : w1.cell? ⟨g1, 13, none⟩ = some (.int .u8 F.rst) := (blk_cell h1 13).trans rfl; have k14 : w1.cell? ⟨g1, 14, none⟩ = some (.int .i64 F.agn) := (blk_cell h1 14).trans rfl; have k15 : w1.cell? ⟨g1, 15, none⟩ = some (.int .i64 F.up) := (blk_cell h1 15).trans rfl; have k16 : w1.cell? ⟨g1, 16, none⟩ = some (.int .i64 F.dn) := (blk_cell h1 16).trans rfl; have k17 : w1.cell? ⟨g1, 17, none⟩ = some (.slice F.ex.a F.ex.n F.ex.c) := (blk_cell h1 17).trans rfl; have B1 := Lib.hid b1; clear e1 h1 b1))
          go_ret
          exact ⟨rfl, below_trans_alloc B1.out _⟩
      · have bk : (F.kind != 1) = true := by simpa using ck
        by_cases c3 : 0 ≤ F.up
        · have b3 : decide (0 ≤ F.up) = true := decide_eq_true (by omega)
          by_cases c4 : 0 ≤ F.dn
          · have b4 : decide (0 ≤ F.dn) = true := decide_eq_true (by omega)
            by_cases c5 : 0 ≤ F.agn
            · have b5 : decide (0 ≤ F.agn) = true := decide_eq_true (by omega)
              by_cases c6 : F.ex.n ≤ 64
              · have b6 : decide ((F.ex.n : Int) ≤ 64) = true := decide_eq_true (by omega)
                have hR : Ready F := by unfold Ready; omega
                rw [decide_eq_true hR]
                clear hR c0 c1 ck c3 c4 c5 c6
                go_enter Try.func19, Try.ntmps19
                go_wp2_with (first
                  | ((with_reducible refine gate_dst (N := 1) rfl ?_); refine box_event ?hg (N := 1) ?hd (cs := fc F) (t := 36) ?hr ?_; (case hd => rfl); (case hg => rfl); (case hr => first | (go_simp; done) | (go_simp; rfl)); intro g1 e1 w1 h1 b1; have l1 := blk_lt h1; have k0 : w1.cell? ⟨g1, 0, none⟩ = some (.int .u8 F.kind) := (blk_cell h1 0).trans rfl; have k11 : w1.cell? ⟨g1, 11, none⟩ = some (.int .u8 F.typ) := (blk_cell h1 11).trans rfl; have k12 : w1.cell? ⟨g1, 12, none⟩ = some (.bool F.rem) := (blk_cell h1 12).trans rfl; have k13 : w1.cell? ⟨g1, 13, none⟩ = some (.int .u8 F.rst) := (blk_cell h1 13).trans rfl; have k14 : w1.cell? ⟨g1, 14, none⟩ = some (.int .i64 F.agn) := (blk_cell h1 14).trans rfl; have k15 : w1.cell? ⟨g1, 15, none⟩ = some (.int .i64 F.up) := (blk_cell h1 15).trans rfl; have k16 : w1.cell? ⟨g1, 16, none⟩ = some (.int .i64 F.dn) := (blk_cell h1 16).trans rfl; have k17 : w1.cell? ⟨g1, 17, none⟩ = some (.slice F.ex.a F.ex.n F.ex.c) := (blk_cell h1 17).trans rfl; have B1 := Lib.hid b1; clear e1 h1 b1))
                go_ret
                exact ⟨rfl, below_trans_alloc B1.out _⟩
              · have b6 : decide ((F.ex.n : Int) ≤ 64) = false := decide_eq_false (by omega)
                have hR : ¬ Ready F := by unfold Ready; omega
                rw [decide_eq_false hR]
                clear hR c0 c1 ck c3 c4 c5 c6
                go_enter Try.func19, Try.ntmps19
                go_wp2_with (first
                  | ((with_reducible refine gate_dst (N := 1) rfl ?_); refine box_event ?hg (N := 1) ?hd (cs := fc F) (t := 36) ?hr ?_; (case hd => rfl); (case hg => rfl); (case hr => first | (go_simp; done) | (go_simp; rfl)); intro g1 e1 w1 h1 b1; have l1 := blk_lt h1; have k0 : w1.cell? ⟨g1, 0, none⟩ = some (.int .u8 F.kind) := (blk_cell h1 0).trans rfl; have k11 : w1.cell? ⟨g1, 11, none⟩ = some (.int .u8 F.typ) := (blk_cell h1 11).trans rfl; have k12 : w1.cell? ⟨g1, 12, none⟩ = some (.bool F.rem) := (blk_cell h1 12).trans rfl; have k13 : w1.cell? ⟨g1, 13, none⟩ = some (.int .u8 F.rst) := (blk_cell h1 13).trans rfl; have k14 : w1.cell? ⟨g1, 14, none⟩ = some (.int .i64 F.agn) := (blk_cell h1 14).trans rfl; have k15 : w1.cell? ⟨g1, 15, none⟩ = some (.int .i64 F.up) := (blk_cell h1 15).trans rfl; have k16 : w1.cell? ⟨g1, 16, none⟩ = some (.int .i64 F.dn) := (blk_cell h1 16).trans rfl; have k17 : w1.cell? ⟨g1, 17, none⟩ = some (.slice F.ex.a F.ex.n F.ex.c) := (blk_cell h1 17).trans rfl; have B1 := Lib.hid b1; clear e1 h1 b1))
                go_ret
                exact ⟨rfl, below_trans_alloc B1.out _⟩
            · have b5 : decide (0 ≤ F.agn) = false := decide_eq_false (by omega)
              have hR : ¬ Ready F := by unfold Ready; omega
              rw [decide_eq_false hR]
              clear hR c0 c1 ck c3 c4 c5
              go_enter Try.func19, Try.ntmps19
              go_wp2_with (first
                | ((with_reducible refine gate_dst (N := 1) rfl ?_); refine box_event ?hg (N := 1) ?hd (cs := fc F) (t := 36) ?hr ?_; (case hd => rfl); (case hg => rfl); (case hr => first | (go_simp; done) | (go_simp; rfl)); intro g1 e1 w1 h1 b1; have l1 := blk_lt h1; have k0 : w1.cell? ⟨g1, 0, none⟩ = some (.int .u8 F.kind) := (blk_cell h1 0).trans rfl; have k11 : w1.cell? ⟨g1, 11, none⟩ = some (.int .u8 F.typ) := (blk_cell h1 11).trans rfl; have k12 : w1.cell? ⟨g1, 12, none⟩ = some (.bool F.rem) := (blk_cell h1 12).trans rfl; have k13 : w1.cell? ⟨g1, 13, none⟩ = some (.int .u8 F.rst) := (blk_cell h1 13).trans rfl; have k14 : w1.cell? ⟨g1, 14, none⟩ = some (.int .i64 F.agn) := (blk_cell h1 14).trans rfl; have k15 : w1.cell? ⟨g1, 15, none⟩ = some (.int .i64 F.up) := (blk_cell h1 15).trans rfl; have k16 : w1.cell? ⟨g1, 16, none⟩ = some (.int .i64 F.dn) := (blk_cell h1 16).trans rfl; have k17 : w1.cell? ⟨g1, 17, none⟩ = some (.slice F.ex.a F.ex.n F.ex.c) := (blk_cell h1 17).trans rfl; have B1 := Lib.hid b1; clear e1 h1 b1))
              go_ret
              exact ⟨rfl, below_trans_alloc B1.out _⟩
          · have b4 : decide (0 ≤ F.dn) = false := decide_eq_false (by omega)
            have hR : ¬ Ready F := by unfold Ready; omega
            rw [decide_eq_false hR]
            clear hR c0 c1 ck c3 c4
            go_enter Try.func19, Try.ntmps19
            go_wp2_with (first
              | ((with_reducible refine gate_dst (N := 1) rfl ?_); refine box_event ?hg (N := 1) ?hd (cs := fc F) (t := 36) ?hr ?_; (case hd => rfl); (case hg => rfl); (case hr => first | (go_simp; done) | (go_simp; rfl)); intro g1 e1 w1 h1 b1; have l1 := blk_lt h1; have k0 : w1.cell? ⟨g1, 0, none⟩ = some (.int .u8 F.kind) := (blk_cell h1 0).trans rfl; have k11 : w1.cell? ⟨g1, 11, none⟩ = some (.int .u8 F.typ) := (blk_cell h1 11).trans rfl; have k12 : w1.cell? ⟨g1, 12, none⟩ = some (.bool F.rem) := (blk_cell h1 12).trans rfl; have k13 : w1.cell? ⟨g1, 13, none⟩ = some (.int .u8 F.rst) := (blk_cell h1 13).trans rfl; have k14 : w1.cell? ⟨g1, 14, none⟩ = some (.int .i64 F.agn) := (blk_cell h1 14).trans rfl; have k15 : w1.cell? ⟨g1, 15, none⟩ = some (.int .i64 F.up) := (blk_cell h1 15).trans rfl; have k16 : w1.cell? ⟨g1, 16, none⟩ = some (.int .i64 F.dn) := (blk_cell h1 16).trans rfl; have k17 : w1.cell? ⟨g1, 17, none⟩ = some (.slice F.ex.a F.ex.n F.ex.c) := (blk_cell h1 17).trans rfl; have B1 := Lib.hid b1; clear e1 h1 b1))
            go_ret
            exact ⟨rfl, below_trans_alloc B1.out _⟩
        · have b3 : decide (0 ≤ F.up) = false := decide_eq_false (by omega)
          have hR : ¬ Ready F := by unfold Ready; omega
          rw [decide_eq_false hR]
          clear hR c0 c1 ck c3
          go_enter Try.func19, Try.ntmps19
          go_wp2_with (first
            | ((with_reducible refine gate_dst (N := 1) rfl ?_); refine box_event ?hg (N := 1) ?hd (cs := fc F) (t := 36) ?hr ?_; (case hd => rfl); (case hg => rfl); (case hr => first | (go_simp; done) | (go_simp; rfl)); intro g1 e1 w1 h1 b1; have l1 := blk_lt h1; have k0 : w1.cell? ⟨g1, 0, none⟩ = some (.int .u8 F.kind) := (blk_cell h1 0).trans rfl; have k11 : w1.cell? ⟨g1, 11, none⟩ = some (.int .u8 F.typ) := (blk_cell h1 11).trans rfl; have k12 : w1.cell? ⟨g1, 12, none⟩ = some (.bool F.rem) := (blk_cell h1 12).trans rfl; have k13 : w1.cell? ⟨g1, 13, none⟩ = some (.int .u8 F.rst) := (blk_cell h1 13).trans rfl; have k14 : w1.cell? ⟨g1, 14, none⟩ = some (.int .i64 F.agn) := (blk_cell h1 14).trans rfl; have k15 : w1.cell? ⟨g1, 15, none⟩ = some (.int .i64 F.up) := (blk_cell h1 15).trans rfl; have k16 : w1.cell? ⟨g1, 16, none⟩ = some (.int .i64 F.dn) := (blk_cell h1 16).trans rfl; have k17 : w1.cell? ⟨g1, 17, none⟩ = some (.slice F.ex.a F.ex.n F.ex.c) := (blk_cell h1 17).trans rfl; have B1 := Lib.hid b1; clear e1 h1 b1))
          go_ret
          exact ⟨rfl, below_trans_alloc B1.out _⟩
    · have b1 : decide (F.kind ≤ 3) = false := decide_eq_false (by omega)
      have hR : ¬ Ready F := by unfold Ready; omega
      rw [decide_eq_false hR]
      clear hR c0 c1
      go_enter Try.func19, Try.ntmps19
      go_wp2_with (first
        | ((with_reducible refine gate_dst (N := 1) rfl ?_); refine box_event ?hg (N := 1) ?hd (cs := fc F) (t := 36) ?hr ?_; (case hd => rfl); (case hg => rfl); (case hr => first | (go_simp; done) | (go_simp; rfl)); intro g1 e1 w1 h1 b1; have l1 := blk_lt h1; have k0 : w1.cell? ⟨g1, 0, none⟩ = some (.int .u8 F.kind) := (blk_cell h1 0).trans rfl; have k11 : w1.cell? ⟨g1, 11, none⟩ = some (.int .u8 F.typ) := (blk_cell h1 11).trans rfl; have k12 : w1.cell? ⟨g1, 12, none⟩ = some (.bool F.rem) := (blk_cell h1 12).trans rfl; have k13 : w1.cell? ⟨g1, 13, none⟩ = some (.int .u8 F.rst) := (blk_cell h1 13).trans rfl; have k14 : w1.cell? ⟨g1, 14, none⟩ = some (.int .i64 F.agn) := (blk_cell h1 14).trans rfl; have k15 : w1.cell? ⟨g1, 15, none⟩ = some (.int .i64 F.up) := (blk_cell h1 15).trans rfl; have k16 : w1.cell? ⟨g1, 16, none⟩ = some (.int .i64 F.dn) := (blk_cell h1 16).trans rfl; have k17 : w1.cell? ⟨g1, 17, none⟩ = some (.slice F.ex.a F.ex.n F.ex.c) := (blk_cell h1 17).trans rfl; have B1 := Lib.hid b1; clear e1 h1 b1))
      go_ret
      exact ⟨rfl, below_trans_alloc B1.out _⟩
  · have b0 : decide (1 ≤ F.kind) = false := decide_eq_false (by omega)
    have hR : ¬ Ready F := by unfold Ready; omega
    rw [decide_eq_false hR]
    clear hR c0
    go_enter Try.func19, Try.ntmps19
    go_wp2_with (first
      | ((with_reducible refine gate_dst (N := 1) rfl ?_); refine box_event ?hg (N := 1) ?hd (cs := fc F) (t := 36) ?hr ?_; (case hd => rfl); (case hg => rfl); (case hr => first | (go_simp; done) | (go_simp; rfl)); intro g1 e1 w1 h1 b1; have l1 := blk_lt h1; have k0 : w1.cell? ⟨g1, 0, none⟩ = some (.int .u8 F.kind) := (blk_cell h1 0).trans rfl; have k11 : w1.cell? ⟨g1, 11, none⟩ = some (.int .u8 F.typ) := (blk_cell h1 11).trans rfl; have k12 : w1.cell? ⟨g1, 12, none⟩ = some (.bool F.rem) := (blk_cell h1 12).trans rfl; have k13 : w1.cell? ⟨g1, 13, none⟩ = some (.int .u8 F.rst) := (blk_cell h1 13).trans rfl; have k14 : w1.cell? ⟨g1, 14, none⟩ = some (.int .i64 F.agn) := (blk_cell h1 14).trans rfl; have k15 : w1.cell? ⟨g1, 15, none⟩ = some (.int .i64 F.up) := (blk_cell h1 15).trans rfl; have k16 : w1.cell? ⟨g1, 16, none⟩ = some (.int .i64 F.dn) := (blk_cell h1 16).trans rfl; have k17 : w1.cell? ⟨g1, 17, none⟩ = some (.slice F.ex.a F.ex.n F.ex.c) := (blk_cell h1 17).trans rfl; have B1 := Lib.hid b1; clear e1 h1 b1))
    go_ret
    exact ⟨rfl, below_trans_alloc B1.out _⟩
end Go.Proofs.Ytngoenbdimlppaa.Svc
