/- The contract of clepsydraref01.Size. -/
import Derived.Test.YtbegglmcbcepeaaXLess
namespace Go.Proofs.Ytbegglmcbcepeaa.All
open Go.RowKit Go.Proofs.YtbegglmcbcepeaaW.PrintWords Go.Proofs.YtbegglmcbcepeaaW.PrintLast Go.Proofs.YtbegglmcbcepeaaW.PrintMore
set_option linter.unusedVariables false
set_option linter.unusedSimpArgs false

def sizeF (a b : Nat → Int) : Nat → Int
  | 0 => 0
  | k + 1 => if a k < b k then -1 else if b k < a k then 1 else sizeF a b k
theorem sizeF_lt {a b : Nat → Int} {k : Nat} (h : a k < b k) : sizeF a b (k + 1) = -1 := by rw [sizeF, if_pos h]
theorem sizeF_gt {a b : Nat → Int} {k : Nat} (h : ¬ a k < b k) (h2 : b k < a k) : sizeF a b (k + 1) = 1 := by rw [sizeF, if_neg h, if_pos h2]
theorem sizeF_eq {a b : Nat → Int} {k : Nat} (h : ¬ a k < b k) (h2 : ¬ b k < a k) : sizeF a b (k + 1) = sizeF a b k := by rw [sizeF, if_neg h, if_neg h2]

set_option maxHeartbeats 4000000 in
set_option maxRecDepth 100000 in
theorem size_all (m n : Bool) (a0 a1 a2 a3 a4 b0 b1 b2 b3 b4 : Int) (w : World) (S : Nat → Int) (hS : S = sizeF (dig a0 a1 a2 a3 a4) (dig b0 b1 b2 b3 b4)) :
    Calls Try.prog 24 #[.agg #[.bool m, .int .u64 a0, .int .u64 a1, .int .u64 a2, .int .u64 a3, .int .u64 a4], .agg #[.bool n, .int .u64 b0, .int .u64 b1, .int .u64 b2, .int .u64 b3, .int .u64 b4]] w fun e w' =>
      e = .returned (.int .i64 (S 5)) ∧ Below w.heap.size w w' := by
  have hu28 := Try.underlying28
  go_enter Try.func24, Try.ntmps24
  go_wp2
  go_loopw [5] (fun i wr => ∃ k : Nat, k ≤ 5 ∧ i = .int .i64 ((k : Int) - 1) ∧ S 5 = S k ∧
      wr.heap[w.heap.size]? = some (.cells #[.bool m, .int .u64 a0, .int .u64 a1, .int .u64 a2, .int .u64 a3, .int .u64 a4] 28 (0, 0)) ∧
      wr.heap[w.heap.size + 1]? = some (.cells #[.bool n, .int .u64 b0, .int .u64 b1, .int .u64 b2, .int .u64 b3, .int .u64 b4] 28 (0, 0)) ∧ Below w.heap.size w wr)
    (fun i _ => (intOf i + 1).toNat)
  case atStart =>
    have e1 : (w.alloc (.cells #[.bool m, .int .u64 a0, .int .u64 a1, .int .u64 a2, .int .u64 a3, .int .u64 a4] 28)).heap.size = w.heap.size + 1 := World.size_alloc ..
    exact ⟨5, by omega, rfl, rfl, blk_alloc (blk_new w _) _, by rw [← e1]; exact blk_new _ _, below_alloc (below_alloc (Below.refl _ _) _) _⟩
  case round =>
    obtain ⟨k, hk, rfl, hSk, hA, hB, hb⟩ := hrel
    rcases (by omega : k = 0 ∨ k = 1 ∨ k = 2 ∨ k = 3 ∨ k = 4 ∨ k = 5) with rfl | rfl | rfl | rfl | rfl | rfl
    · have hz : (((0 : Nat) : Int) - 1) = -1 := rfl
      simp only [hz]
      have h0 : S 0 = 0 := by rw [hS]; rfl
      have hx : S 5 = 0 := by rw [hSk, h0]
      clear hSk hS h0
      go_wp2
      go_ret
      exact ⟨by rw [hx]; rfl, by repeat (first | exact hb | refine pw_below_drewN ?_ _)⟩
    · have hz : (((1 : Nat) : Int) - 1) = 0 := rfl
      simp only [hz]
      have hca : wr.cell? ⟨w.heap.size, 1, none⟩ = some (.int .u64 a0) := (blk_cell hA 1).trans rfl
      have hcb : wr.cell? ⟨w.heap.size + 1, 1, none⟩ = some (.int .u64 b0) := (blk_cell hB 1).trans rfl
      by_cases h1 : a0 < b0
      · have hx : S 5 = -1 := by rw [hSk, hS]; exact sizeF_lt (k := 0) h1
        have h1b := decide_eq_true h1
        clear hSk hS
        go_wp2
        go_quiet (fail)
        go_wp2
        go_ret
        exact ⟨by rw [hx]; rfl, by repeat (first | exact hb | refine pw_below_drewN ?_ _)⟩
      · have h1b := decide_eq_false h1
        by_cases h2 : b0 < a0
        · have hx : S 5 = 1 := by rw [hSk, hS]; exact sizeF_gt (k := 0) h1 h2
          have h2b := decide_eq_true h2
          clear hSk hS
          go_wp2
          go_quiet (fail)
          go_wp2
          go_quiet (fail)
          go_wp2
          go_ret
          exact ⟨by rw [hx]; rfl, by repeat (first | exact hb | refine pw_below_drewN ?_ _)⟩
        · have hx : S 5 = S 0 := by rw [hSk, hS]; exact sizeF_eq (k := 0) h1 h2
          have h2b := decide_eq_false h2
          clear hSk hS
          go_wp2
          go_quiet (fail)
          go_wp2
          go_quiet (fail)
          go_wp2
          exact ⟨⟨0, by omega, rfl, hx, blk_drewN hA _, blk_drewN hB _, pw_below_drewN hb _⟩, by simp [intOf]⟩
    · have hz : (((2 : Nat) : Int) - 1) = 1 := rfl
      simp only [hz]
      have hca : wr.cell? ⟨w.heap.size, 2, none⟩ = some (.int .u64 a1) := (blk_cell hA 2).trans rfl
      have hcb : wr.cell? ⟨w.heap.size + 1, 2, none⟩ = some (.int .u64 b1) := (blk_cell hB 2).trans rfl
      by_cases h1 : a1 < b1
      · have hx : S 5 = -1 := by rw [hSk, hS]; exact sizeF_lt (k := 1) h1
        have h1b := decide_eq_true h1
        clear hSk hS
        go_wp2
        go_quiet (fail)
        go_wp2
        go_ret
        exact ⟨by rw [hx]; rfl, by repeat (first | exact hb | refine pw_below_drewN ?_ _)⟩
      · have h1b := decide_eq_false h1
        by_cases h2 : b1 < a1
        · have hx : S 5 = 1 := by rw [hSk, hS]; exact sizeF_gt (k := 1) h1 h2
          have h2b := decide_eq_true h2
          clear hSk hS
          go_wp2
          go_quiet (fail)
          go_wp2
          go_quiet (fail)
          go_wp2
          go_ret
          exact ⟨by rw [hx]; rfl, by repeat (first | exact hb | refine pw_below_drewN ?_ _)⟩
        · have hx : S 5 = S 1 := by rw [hSk, hS]; exact sizeF_eq (k := 1) h1 h2
          have h2b := decide_eq_false h2
          clear hSk hS
          go_wp2
          go_quiet (fail)
          go_wp2
          go_quiet (fail)
          go_wp2
          exact ⟨⟨1, by omega, rfl, hx, blk_drewN hA _, blk_drewN hB _, pw_below_drewN hb _⟩, by simp [intOf]⟩
    · have hz : (((3 : Nat) : Int) - 1) = 2 := rfl
      simp only [hz]
      have hca : wr.cell? ⟨w.heap.size, 3, none⟩ = some (.int .u64 a2) := (blk_cell hA 3).trans rfl
      have hcb : wr.cell? ⟨w.heap.size + 1, 3, none⟩ = some (.int .u64 b2) := (blk_cell hB 3).trans rfl
      by_cases h1 : a2 < b2
      · have hx : S 5 = -1 := by rw [hSk, hS]; exact sizeF_lt (k := 2) h1
        have h1b := decide_eq_true h1
        clear hSk hS
        go_wp2
        go_quiet (fail)
        go_wp2
        go_ret
        exact ⟨by rw [hx]; rfl, by repeat (first | exact hb | refine pw_below_drewN ?_ _)⟩
      · have h1b := decide_eq_false h1
        by_cases h2 : b2 < a2
        · have hx : S 5 = 1 := by rw [hSk, hS]; exact sizeF_gt (k := 2) h1 h2
          have h2b := decide_eq_true h2
          clear hSk hS
          go_wp2
          go_quiet (fail)
          go_wp2
          go_quiet (fail)
          go_wp2
          go_ret
          exact ⟨by rw [hx]; rfl, by repeat (first | exact hb | refine pw_below_drewN ?_ _)⟩
        · have hx : S 5 = S 2 := by rw [hSk, hS]; exact sizeF_eq (k := 2) h1 h2
          have h2b := decide_eq_false h2
          clear hSk hS
          go_wp2
          go_quiet (fail)
          go_wp2
          go_quiet (fail)
          go_wp2
          exact ⟨⟨2, by omega, rfl, hx, blk_drewN hA _, blk_drewN hB _, pw_below_drewN hb _⟩, by simp [intOf]⟩
    · have hz : (((4 : Nat) : Int) - 1) = 3 := rfl
      simp only [hz]
      have hca : wr.cell? ⟨w.heap.size, 4, none⟩ = some (.int .u64 a3) := (blk_cell hA 4).trans rfl
      have hcb : wr.cell? ⟨w.heap.size + 1, 4, none⟩ = some (.int .u64 b3) := (blk_cell hB 4).trans rfl
      by_cases h1 : a3 < b3
      · have hx : S 5 = -1 := by rw [hSk, hS]; exact sizeF_lt (k := 3) h1
        have h1b := decide_eq_true h1
        clear hSk hS
        go_wp2
        go_quiet (fail)
        go_wp2
        go_ret
        exact ⟨by rw [hx]; rfl, by repeat (first | exact hb | refine pw_below_drewN ?_ _)⟩
      · have h1b := decide_eq_false h1
        by_cases h2 : b3 < a3
        · have hx : S 5 = 1 := by rw [hSk, hS]; exact sizeF_gt (k := 3) h1 h2
          have h2b := decide_eq_true h2
          clear hSk hS
          go_wp2
          go_quiet (fail)
          go_wp2
          go_quiet (fail)
          go_wp2
          go_ret
          exact ⟨by rw [hx]; rfl, by repeat (first | exact hb | refine pw_below_drewN ?_ _)⟩
        · have hx : S 5 = S 3 := by rw [hSk, hS]; exact sizeF_eq (k := 3) h1 h2
          have h2b := decide_eq_false h2
          clear hSk hS
          go_wp2
          go_quiet (fail)
          go_wp2
          go_quiet (fail)
          go_wp2
          exact ⟨⟨3, by omega, rfl, hx, blk_drewN hA _, blk_drewN hB _, pw_below_drewN hb _⟩, by simp [intOf]⟩
    · have hz : (((5 : Nat) : Int) - 1) = 4 := rfl
      simp only [hz]
      have hca : wr.cell? ⟨w.heap.size, 5, none⟩ = some (.int .u64 a4) := (blk_cell hA 5).trans rfl
      have hcb : wr.cell? ⟨w.heap.size + 1, 5, none⟩ = some (.int .u64 b4) := (blk_cell hB 5).trans rfl
      by_cases h1 : a4 < b4
      · have hx : S 5 = -1 := by rw [hSk, hS]; exact sizeF_lt (k := 4) h1
        have h1b := decide_eq_true h1
        clear hSk hS
        go_wp2
        go_quiet (fail)
        go_wp2
        go_ret
        exact ⟨by rw [hx]; rfl, by repeat (first | exact hb | refine pw_below_drewN ?_ _)⟩
      · have h1b := decide_eq_false h1
        by_cases h2 : b4 < a4
        · have hx : S 5 = 1 := by rw [hSk, hS]; exact sizeF_gt (k := 4) h1 h2
          have h2b := decide_eq_true h2
          clear hSk hS
          go_wp2
          go_quiet (fail)
          go_wp2
          go_quiet (fail)
          go_wp2
          go_ret
          exact ⟨by rw [hx]; rfl, by repeat (first | exact hb | refine pw_below_drewN ?_ _)⟩
        · have hx : S 5 = S 4 := by rw [hSk, hS]; exact sizeF_eq (k := 4) h1 h2
          have h2b := decide_eq_false h2
          clear hSk hS
          go_wp2
          go_quiet (fail)
          go_wp2
          go_quiet (fail)
          go_wp2
          exact ⟨⟨4, by omega, rfl, hx, blk_drewN hA _, blk_drewN hB _, pw_below_drewN hb _⟩, by simp [intOf]⟩
def clepsydraref01_Size.f (a0_0 : Bool) (a0_1 : Int) (a0_2 : Int) (a0_3 : Int) (a0_4 : Int) (a0_5 : Int) (a1_0 : Bool) (a1_1 : Int) (a1_2 : Int) (a1_3 : Int) (a1_4 : Int) (a1_5 : Int) : Option (Int) := some (sizeF (dig a0_1 a0_2 a0_3 a0_4 a0_5) (dig a1_1 a1_2 a1_3 a1_4 a1_5) 5)
theorem clepsydraref01_Size.calls (a0_0 : Bool) (a0_1 : Int) (a0_2 : Int) (a0_3 : Int) (a0_4 : Int) (a0_5 : Int) (a1_0 : Bool) (a1_1 : Int) (a1_2 : Int) (a1_3 : Int) (a1_4 : Int) (a1_5 : Int) (r : Int) (w : World) (h : clepsydraref01_Size.f a0_0 a0_1 a0_2 a0_3 a0_4 a0_5 a1_0 a1_1 a1_2 a1_3 a1_4 a1_5 = some r) :
    Calls Try.prog 24 #[.agg #[.bool a0_0, .int .u64 a0_1, .int .u64 a0_2, .int .u64 a0_3, .int .u64 a0_4, .int .u64 a0_5], .agg #[.bool a1_0, .int .u64 a1_1, .int .u64 a1_2, .int .u64 a1_3, .int .u64 a1_4, .int .u64 a1_5]] w fun e w' => e = .returned (.int .i64 r) ∧ Below w.heap.size w w' := by
  obtain rfl : _ = r := Option.some.inj h
  exact size_all _ _ _ _ _ _ _ _ _ _ _ _ w _ rfl
end Go.Proofs.Ytbegglmcbcepeaa.All
