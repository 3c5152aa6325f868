/- The contract of clepsydraref01.plus. -/
import Derived.Test.YtbegglmcbcepeaaXFits
namespace Go.Proofs.Ytbegglmcbcepeaa.All
open Go.RowKit Go.Proofs.YtbegglmcbcepeaaW.PrintWords Go.Proofs.YtbegglmcbcepeaaW.PrintLast Go.Proofs.YtbegglmcbcepeaaW.PrintMore
set_option linter.unusedVariables false
set_option linter.unusedSimpArgs false

def dig (d0 d1 d2 d3 d4 : Int) : Nat → Int
  | 0 => d0
  | 1 => d1
  | 2 => d2
  | 3 => d3
  | _ => d4
def plusS (a b c : Int) : Int := IntKind.u64.wrap (IntKind.u64.wrap (a + b) + c)
def cP (a b : Nat → Int) : Nat → Int
  | 0 => 0
  | k + 1 => plusS (a k) (b k) (cP a b k) / 4294967296
def oP (a b : Nat → Int) (k : Nat) : Int := Go.bits .and .u64 (plusS (a k) (b k) (cP a b k)) 4294967295
def row5 (m : Bool) (o : Nat → Int) (k : Nat) : Array Value := #[.bool m, .int .u64 (if 0 < k then o 0 else 0), .int .u64 (if 1 < k then o 1 else 0), .int .u64 (if 2 < k then o 2 else 0), .int .u64 (if 3 < k then o 3 else 0), .int .u64 (if 4 < k then o 4 else 0)]

theorem four_boxes (w : World) (c1 c2 c3 c4 : Array Value) :
    ((((w.alloc (.cells c1 28)).alloc (.cells c2 28)).alloc (.cells c3 28)).alloc (.cells c4 28)).heap[w.heap.size]? = some (.cells c1 28 (0, 0)) ∧
    ((((w.alloc (.cells c1 28)).alloc (.cells c2 28)).alloc (.cells c3 28)).alloc (.cells c4 28)).heap[w.heap.size + 1]? = some (.cells c2 28 (0, 0)) ∧
    ((((w.alloc (.cells c1 28)).alloc (.cells c2 28)).alloc (.cells c3 28)).alloc (.cells c4 28)).heap[w.heap.size + 1 + 1]? = some (.cells c3 28 (0, 0)) ∧
    ((((w.alloc (.cells c1 28)).alloc (.cells c2 28)).alloc (.cells c3 28)).alloc (.cells c4 28)).heap[w.heap.size + 1 + 1 + 1]? = some (.cells c4 28 (0, 0)) ∧
    Below w.heap.size w ((((w.alloc (.cells c1 28)).alloc (.cells c2 28)).alloc (.cells c3 28)).alloc (.cells c4 28)) := by
  have e1 : (w.alloc (.cells c1 28)).heap.size = w.heap.size + 1 := World.size_alloc ..
  have e2 : ((w.alloc (.cells c1 28)).alloc (.cells c2 28)).heap.size = w.heap.size + 1 + 1 := by rw [World.size_alloc, e1]
  have e3 : (((w.alloc (.cells c1 28)).alloc (.cells c2 28)).alloc (.cells c3 28)).heap.size = w.heap.size + 1 + 1 + 1 := by rw [World.size_alloc, e2]
  refine ⟨blk_alloc (blk_alloc (blk_alloc (blk_new w _) _) _) _, ?_, ?_, ?_, below_alloc (below_alloc (below_alloc (below_alloc (Below.refl _ _) _) _) _) _⟩
  · rw [← e1]; exact blk_alloc (blk_alloc (blk_new _ _) _) _
  · rw [← e2]; exact blk_alloc (blk_new _ _) _
  · rw [← e3]; exact blk_new _ _

set_option maxHeartbeats 4000000 in
set_option maxRecDepth 100000 in
theorem plus_all (m n : Bool) (a0 a1 a2 a3 a4 b0 b1 b2 b3 b4 : Int) (w : World) :
    Calls Try.prog 23 #[.agg #[.bool m, .int .u64 a0, .int .u64 a1, .int .u64 a2, .int .u64 a3, .int .u64 a4], .agg #[.bool n, .int .u64 b0, .int .u64 b1, .int .u64 b2, .int .u64 b3, .int .u64 b4]] w fun e w' =>
      e = .returned (.agg (row5 m (oP (dig a0 a1 a2 a3 a4) (dig b0 b1 b2 b3 b4)) 5)) ∧ Below w.heap.size w w' := by
  have hu28 := Try.underlying28
  go_enter Try.func23, Try.ntmps23
  go_wp2
  go_loopw [6, 7] (fun c i wr => ∃ k : Nat, k ≤ 5 ∧ c = .int .u64 (cP (dig a0 a1 a2 a3 a4) (dig b0 b1 b2 b3 b4) k) ∧ i = .int .i64 k ∧
      wr.heap[w.heap.size]? = some (.cells #[.bool m, .int .u64 a0, .int .u64 a1, .int .u64 a2, .int .u64 a3, .int .u64 a4] 28 (0, 0)) ∧
      wr.heap[w.heap.size + 1]? = some (.cells #[.bool n, .int .u64 b0, .int .u64 b1, .int .u64 b2, .int .u64 b3, .int .u64 b4] 28 (0, 0)) ∧
      wr.heap[w.heap.size + 1 + 1]? = some (.cells #[.bool false, .int .u64 0, .int .u64 0, .int .u64 0, .int .u64 0, .int .u64 0] 28 (0, 0)) ∧
      wr.heap[w.heap.size + 1 + 1 + 1]? = some (.cells (row5 m (oP (dig a0 a1 a2 a3 a4) (dig b0 b1 b2 b3 b4)) k) 28 (0, 0)) ∧ Below w.heap.size w wr)
    (fun _ i _ => 5 - (intOf i).toNat)
  case atStart =>
    obtain ⟨h1, h2, h3, h4, h5⟩ := four_boxes w #[.bool m, .int .u64 a0, .int .u64 a1, .int .u64 a2, .int .u64 a3, .int .u64 a4] #[.bool n, .int .u64 b0, .int .u64 b1, .int .u64 b2, .int .u64 b3, .int .u64 b4] #[.bool false, .int .u64 0, .int .u64 0, .int .u64 0, .int .u64 0, .int .u64 0] #[.bool m, .int .u64 0, .int .u64 0, .int .u64 0, .int .u64 0, .int .u64 0]
    exact ⟨0, by omega, rfl, rfl, h1, h2, h3, h4, h5⟩
  case round =>
    obtain ⟨k, hk, rfl, rfl, hA, hB, hR, hO, hb⟩ := hrel
    by_cases hlt : k < 5
    · obtain ⟨cv, hcv⟩ : ∃ cv, cv = cP (dig a0 a1 a2 a3 a4) (dig b0 b1 b2 b3 b4) k := ⟨_, rfl⟩
      rw [← hcv]
      rcases (by omega : k = 0 ∨ k = 1 ∨ k = 2 ∨ k = 3 ∨ k = 4) with rfl | rfl | rfl | rfl | rfl
      · have hca : wr.cell? ⟨w.heap.size, 1, none⟩ = some (.int .u64 a0) := (blk_cell hA 1).trans rfl
        have hcb : wr.cell? ⟨w.heap.size + 1, 1, none⟩ = some (.int .u64 b0) := (blk_cell hB 1).trans rfl
        have hco : wr.cell? ⟨w.heap.size + 1 + 1 + 1, 1, none⟩ = some (.int .u64 0) := (blk_cell hO 1).trans rfl
        have hfo := blk_frozen hO 1
        have hz : ((0 : Nat) : Int) = 0 := rfl
        simp only [hz]
        go_wp2
        go_quiet (fail)
        go_wp2
        go_roundw
        case rel => exact ⟨1, by omega, rfl, rfl, blk_far (blk_drewN hA _) (by simp only []; omega) _, blk_far (blk_drewN hB _) (by simp only []; omega) _, blk_far (blk_drewN hR _) (by simp only []; omega) _, blk_put (blk_drewN hO _) 1 _ rfl, below_set (pw_below_drewN hb _) (by omega)⟩
        case measure => simp [intOf]
      · have hca : wr.cell? ⟨w.heap.size, 2, none⟩ = some (.int .u64 a1) := (blk_cell hA 2).trans rfl
        have hcb : wr.cell? ⟨w.heap.size + 1, 2, none⟩ = some (.int .u64 b1) := (blk_cell hB 2).trans rfl
        have hco : wr.cell? ⟨w.heap.size + 1 + 1 + 1, 2, none⟩ = some (.int .u64 0) := (blk_cell hO 2).trans rfl
        have hfo := blk_frozen hO 2
        have hz : ((1 : Nat) : Int) = 1 := rfl
        simp only [hz]
        go_wp2
        go_quiet (fail)
        go_wp2
        go_roundw
        case rel => exact ⟨2, by omega, rfl, rfl, blk_far (blk_drewN hA _) (by simp only []; omega) _, blk_far (blk_drewN hB _) (by simp only []; omega) _, blk_far (blk_drewN hR _) (by simp only []; omega) _, blk_put (blk_drewN hO _) 2 _ rfl, below_set (pw_below_drewN hb _) (by omega)⟩
        case measure => simp [intOf]
      · have hca : wr.cell? ⟨w.heap.size, 3, none⟩ = some (.int .u64 a2) := (blk_cell hA 3).trans rfl
        have hcb : wr.cell? ⟨w.heap.size + 1, 3, none⟩ = some (.int .u64 b2) := (blk_cell hB 3).trans rfl
        have hco : wr.cell? ⟨w.heap.size + 1 + 1 + 1, 3, none⟩ = some (.int .u64 0) := (blk_cell hO 3).trans rfl
        have hfo := blk_frozen hO 3
        have hz : ((2 : Nat) : Int) = 2 := rfl
        simp only [hz]
        go_wp2
        go_quiet (fail)
        go_wp2
        go_roundw
        case rel => exact ⟨3, by omega, rfl, rfl, blk_far (blk_drewN hA _) (by simp only []; omega) _, blk_far (blk_drewN hB _) (by simp only []; omega) _, blk_far (blk_drewN hR _) (by simp only []; omega) _, blk_put (blk_drewN hO _) 3 _ rfl, below_set (pw_below_drewN hb _) (by omega)⟩
        case measure => simp [intOf]
      · have hca : wr.cell? ⟨w.heap.size, 4, none⟩ = some (.int .u64 a3) := (blk_cell hA 4).trans rfl
        have hcb : wr.cell? ⟨w.heap.size + 1, 4, none⟩ = some (.int .u64 b3) := (blk_cell hB 4).trans rfl
        have hco : wr.cell? ⟨w.heap.size + 1 + 1 + 1, 4, none⟩ = some (.int .u64 0) := (blk_cell hO 4).trans rfl
        have hfo := blk_frozen hO 4
        have hz : ((3 : Nat) : Int) = 3 := rfl
        simp only [hz]
        go_wp2
        go_quiet (fail)
        go_wp2
        go_roundw
        case rel => exact ⟨4, by omega, rfl, rfl, blk_far (blk_drewN hA _) (by simp only []; omega) _, blk_far (blk_drewN hB _) (by simp only []; omega) _, blk_far (blk_drewN hR _) (by simp only []; omega) _, blk_put (blk_drewN hO _) 4 _ rfl, below_set (pw_below_drewN hb _) (by omega)⟩
        case measure => simp [intOf]
      · have hca : wr.cell? ⟨w.heap.size, 5, none⟩ = some (.int .u64 a4) := (blk_cell hA 5).trans rfl
        have hcb : wr.cell? ⟨w.heap.size + 1, 5, none⟩ = some (.int .u64 b4) := (blk_cell hB 5).trans rfl
        have hco : wr.cell? ⟨w.heap.size + 1 + 1 + 1, 5, none⟩ = some (.int .u64 0) := (blk_cell hO 5).trans rfl
        have hfo := blk_frozen hO 5
        have hz : ((4 : Nat) : Int) = 4 := rfl
        simp only [hz]
        go_wp2
        go_quiet (fail)
        go_wp2
        go_roundw
        case rel => exact ⟨5, by omega, rfl, rfl, blk_far (blk_drewN hA _) (by simp only []; omega) _, blk_far (blk_drewN hB _) (by simp only []; omega) _, blk_far (blk_drewN hR _) (by simp only []; omega) _, blk_put (blk_drewN hO _) 5 _ rfl, below_set (pw_below_drewN hb _) (by omega)⟩
        case measure => simp [intOf]
    · obtain rfl : k = 5 := by omega
      have hco0 : wr.cell? ⟨w.heap.size + 1 + 1 + 1, 0, none⟩ = some (.bool m) := (blk_cell hO 0).trans rfl
      have hcr0 : wr.cell? ⟨w.heap.size + 1 + 1, 0, none⟩ = some (.bool false) := (blk_cell hR 0).trans rfl
      have hfr0 := blk_frozen hR 0
      have hco1 : wr.cell? ⟨w.heap.size + 1 + 1 + 1, 1, none⟩ = some (.int .u64 (oP (dig a0 a1 a2 a3 a4) (dig b0 b1 b2 b3 b4) 0)) := (blk_cell hO 1).trans rfl
      have hcr1 : wr.cell? ⟨w.heap.size + 1 + 1, 1, none⟩ = some (.int .u64 0) := (blk_cell hR 1).trans rfl
      have hfr1 := blk_frozen hR 1
      have hco2 : wr.cell? ⟨w.heap.size + 1 + 1 + 1, 2, none⟩ = some (.int .u64 (oP (dig a0 a1 a2 a3 a4) (dig b0 b1 b2 b3 b4) 1)) := (blk_cell hO 2).trans rfl
      have hcr2 : wr.cell? ⟨w.heap.size + 1 + 1, 2, none⟩ = some (.int .u64 0) := (blk_cell hR 2).trans rfl
      have hfr2 := blk_frozen hR 2
      have hco3 : wr.cell? ⟨w.heap.size + 1 + 1 + 1, 3, none⟩ = some (.int .u64 (oP (dig a0 a1 a2 a3 a4) (dig b0 b1 b2 b3 b4) 2)) := (blk_cell hO 3).trans rfl
      have hcr3 : wr.cell? ⟨w.heap.size + 1 + 1, 3, none⟩ = some (.int .u64 0) := (blk_cell hR 3).trans rfl
      have hfr3 := blk_frozen hR 3
      have hco4 : wr.cell? ⟨w.heap.size + 1 + 1 + 1, 4, none⟩ = some (.int .u64 (oP (dig a0 a1 a2 a3 a4) (dig b0 b1 b2 b3 b4) 3)) := (blk_cell hO 4).trans rfl
      have hcr4 : wr.cell? ⟨w.heap.size + 1 + 1, 4, none⟩ = some (.int .u64 0) := (blk_cell hR 4).trans rfl
      have hfr4 := blk_frozen hR 4
      have hco5 : wr.cell? ⟨w.heap.size + 1 + 1 + 1, 5, none⟩ = some (.int .u64 (oP (dig a0 a1 a2 a3 a4) (dig b0 b1 b2 b3 b4) 4)) := (blk_cell hO 5).trans rfl
      have hcr5 : wr.cell? ⟨w.heap.size + 1 + 1, 5, none⟩ = some (.int .u64 0) := (blk_cell hR 5).trans rfl
      have hfr5 := blk_frozen hR 5
      go_wp2
      have hF := (blk_put (cs' := #[.bool m, .int .u64 (oP (dig a0 a1 a2 a3 a4) (dig b0 b1 b2 b3 b4) 0), .int .u64 (oP (dig a0 a1 a2 a3 a4) (dig b0 b1 b2 b3 b4) 1), .int .u64 (oP (dig a0 a1 a2 a3 a4) (dig b0 b1 b2 b3 b4) 2), .int .u64 (oP (dig a0 a1 a2 a3 a4) (dig b0 b1 b2 b3 b4) 3), .int .u64 (oP (dig a0 a1 a2 a3 a4) (dig b0 b1 b2 b3 b4) 4)]) (blk_put (cs' := #[.bool m, .int .u64 (oP (dig a0 a1 a2 a3 a4) (dig b0 b1 b2 b3 b4) 0), .int .u64 (oP (dig a0 a1 a2 a3 a4) (dig b0 b1 b2 b3 b4) 1), .int .u64 (oP (dig a0 a1 a2 a3 a4) (dig b0 b1 b2 b3 b4) 2), .int .u64 (oP (dig a0 a1 a2 a3 a4) (dig b0 b1 b2 b3 b4) 3), .int .u64 0]) (blk_put (cs' := #[.bool m, .int .u64 (oP (dig a0 a1 a2 a3 a4) (dig b0 b1 b2 b3 b4) 0), .int .u64 (oP (dig a0 a1 a2 a3 a4) (dig b0 b1 b2 b3 b4) 1), .int .u64 (oP (dig a0 a1 a2 a3 a4) (dig b0 b1 b2 b3 b4) 2), .int .u64 0, .int .u64 0]) (blk_put (cs' := #[.bool m, .int .u64 (oP (dig a0 a1 a2 a3 a4) (dig b0 b1 b2 b3 b4) 0), .int .u64 (oP (dig a0 a1 a2 a3 a4) (dig b0 b1 b2 b3 b4) 1), .int .u64 0, .int .u64 0, .int .u64 0]) (blk_put (cs' := #[.bool m, .int .u64 (oP (dig a0 a1 a2 a3 a4) (dig b0 b1 b2 b3 b4) 0), .int .u64 0, .int .u64 0, .int .u64 0, .int .u64 0]) (blk_put (cs' := #[.bool m, .int .u64 0, .int .u64 0, .int .u64 0, .int .u64 0, .int .u64 0]) hR 0 _ rfl) 1 _ rfl) 2 _ rfl) 3 _ rfl) 4 _ rfl) 5 _ rfl)
      refine bodyPost_ret (results_cell_row rfl _ _ (w.heap.size + 1 + 1) 28 _ (0, 0) _ rfl hF Try.underlying28 rfl (by kernel_rfl)) rfl ?_
      exact ⟨rfl, by repeat (first | exact hb | refine below_set ?_ (by omega))⟩
def clepsydraref01_plus.f (a0_0 : Bool) (a0_1 : Int) (a0_2 : Int) (a0_3 : Int) (a0_4 : Int) (a0_5 : Int) (a1_0 : Bool) (a1_1 : Int) (a1_2 : Int) (a1_3 : Int) (a1_4 : Int) (a1_5 : Int) : Option (Bool × Int × Int × Int × Int × Int) := some (a0_0, oP (dig a0_1 a0_2 a0_3 a0_4 a0_5) (dig a1_1 a1_2 a1_3 a1_4 a1_5) 0, oP (dig a0_1 a0_2 a0_3 a0_4 a0_5) (dig a1_1 a1_2 a1_3 a1_4 a1_5) 1, oP (dig a0_1 a0_2 a0_3 a0_4 a0_5) (dig a1_1 a1_2 a1_3 a1_4 a1_5) 2, oP (dig a0_1 a0_2 a0_3 a0_4 a0_5) (dig a1_1 a1_2 a1_3 a1_4 a1_5) 3, oP (dig a0_1 a0_2 a0_3 a0_4 a0_5) (dig a1_1 a1_2 a1_3 a1_4 a1_5) 4)
theorem clepsydraref01_plus.calls (a0_0 : Bool) (a0_1 : Int) (a0_2 : Int) (a0_3 : Int) (a0_4 : Int) (a0_5 : Int) (a1_0 : Bool) (a1_1 : Int) (a1_2 : Int) (a1_3 : Int) (a1_4 : Int) (a1_5 : Int) (r1 : Bool) (r2 : Int) (r3 : Int) (r4 : Int) (r5 : Int) (r6 : Int) (w : World) (h : clepsydraref01_plus.f a0_0 a0_1 a0_2 a0_3 a0_4 a0_5 a1_0 a1_1 a1_2 a1_3 a1_4 a1_5 = some (r1, r2, r3, r4, r5, r6)) :
    Calls Try.prog 23 #[.agg #[.bool a0_0, .int .u64 a0_1, .int .u64 a0_2, .int .u64 a0_3, .int .u64 a0_4, .int .u64 a0_5], .agg #[.bool a1_0, .int .u64 a1_1, .int .u64 a1_2, .int .u64 a1_3, .int .u64 a1_4, .int .u64 a1_5]] w fun e w' => e = .returned (.agg #[.bool r1, .int .u64 r2, .int .u64 r3, .int .u64 r4, .int .u64 r5, .int .u64 r6]) ∧ Below w.heap.size w w' := by
  unfold clepsydraref01_plus.f at h
  simp only [Option.some.injEq, Prod.mk.injEq] at h
  obtain ⟨rfl, rfl, rfl, rfl, rfl, rfl⟩ := h
  exact plus_all a0_0 a1_0 a0_1 a0_2 a0_3 a0_4 a0_5 a1_1 a1_2 a1_3 a1_4 a1_5 w
end Go.Proofs.Ytbegglmcbcepeaa.All
