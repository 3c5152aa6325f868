/- The contract of clepsydraref01.Mul. -/
import Derived.Test.YtbegglmcbcepeaaXPlus
namespace Go.Proofs.Ytbegglmcbcepeaa.All
open Go.RowKit Go.Proofs.YtbegglmcbcepeaaW.PrintWords Go.Proofs.YtbegglmcbcepeaaW.PrintLast Go.Proofs.YtbegglmcbcepeaaW.PrintMore
set_option linter.unusedVariables false
set_option linter.unusedSimpArgs false

def upd (o : Nat → Int) (j : Nat) (v : Int) : Nat → Int := fun i => if i = j then v else o i
def rowO (m : Bool) (o : Nat → Int) : Array Value := #[.bool m, .int .u64 (o 0), .int .u64 (o 1), .int .u64 (o 2), .int .u64 (o 3), .int .u64 (o 4)]
theorem rowO_0 (m : Bool) (o : Nat → Int) (v : Int) : (rowO m o).setIfInBounds 1 (.int .u64 v) = rowO m (upd o 0 v) := rfl
theorem rowO_1 (m : Bool) (o : Nat → Int) (v : Int) : (rowO m o).setIfInBounds 2 (.int .u64 v) = rowO m (upd o 1 v) := rfl
theorem rowO_2 (m : Bool) (o : Nat → Int) (v : Int) : (rowO m o).setIfInBounds 3 (.int .u64 v) = rowO m (upd o 2 v) := rfl
theorem rowO_3 (m : Bool) (o : Nat → Int) (v : Int) : (rowO m o).setIfInBounds 4 (.int .u64 v) = rowO m (upd o 3 v) := rfl
def mulS (x a b c : Int) : Int := IntKind.u64.wrap (IntKind.u64.wrap (x + IntKind.u64.wrap (a * b)) + c)
def mulK (a b : Nat → Int) (i : Nat) (o : Nat → Int) : Nat → Int × (Nat → Int)
  | 0 => (0, o)
  | k + 1 => (mulS ((mulK a b i o k).2 (i + k)) (a i) (b k) (mulK a b i o k).1 / 4294967296, upd (mulK a b i o k).2 (i + k) (Go.bits .and .u64 (mulS ((mulK a b i o k).2 (i + k)) (a i) (b k) (mulK a b i o k).1) 4294967295))
theorem mulK_succ (a b : Nat → Int) (i : Nat) (o : Nat → Int) (k : Nat) (c : Int) (p : Nat → Int) (h : mulK a b i o k = (c, p)) :
    mulK a b i o (k + 1) = (mulS (p (i + k)) (a i) (b k) c / 4294967296, upd p (i + k) (Go.bits .and .u64 (mulS (p (i + k)) (a i) (b k) c) 4294967295)) := by rw [mulK, h]
def mulI (a b : Nat → Int) : Nat → (Nat → Int)
  | 0 => fun _ => 0
  | i + 1 => (mulK a b i (mulI a b i) 3).2

set_option maxHeartbeats 8000000 in
set_option maxRecDepth 100000 in
theorem mul_all (m n : Bool) (a0 a1 a2 a3 a4 b0 b1 b2 b3 b4 : Int) (w : World) :
    Calls Try.prog 12 #[.agg #[.bool m, .int .u64 a0, .int .u64 a1, .int .u64 a2, .int .u64 a3, .int .u64 a4], .agg #[.bool n, .int .u64 b0, .int .u64 b1, .int .u64 b2, .int .u64 b3, .int .u64 b4]] w fun e w' =>
      e = .returned (.agg (rowO (!(m == n)) (mulI (dig a0 a1 a2 a3 a4) (dig b0 b1 b2 b3 b4) 2))) ∧ Below w.heap.size w w' := by
  have hu28 := Try.underlying28
  go_enter Try.func12, Try.ntmps12
  go_wp2
  go_loopw [6] (fun i wr => ∃ q : Nat, q ≤ 2 ∧ i = .int .i64 q ∧
      wr.heap[w.heap.size]? = some (.cells #[.bool m, .int .u64 a0, .int .u64 a1, .int .u64 a2, .int .u64 a3, .int .u64 a4] 28 (0, 0)) ∧
      wr.heap[w.heap.size + 1]? = some (.cells #[.bool n, .int .u64 b0, .int .u64 b1, .int .u64 b2, .int .u64 b3, .int .u64 b4] 28 (0, 0)) ∧
      wr.heap[w.heap.size + 1 + 1]? = some (.cells #[.bool false, .int .u64 0, .int .u64 0, .int .u64 0, .int .u64 0, .int .u64 0] 28 (0, 0)) ∧
      wr.heap[w.heap.size + 1 + 1 + 1]? = some (.cells (rowO (!(m == n)) (mulI (dig a0 a1 a2 a3 a4) (dig b0 b1 b2 b3 b4) q)) 28 (0, 0)) ∧ Below w.heap.size w wr)
    (fun i _ => 2 - (intOf i).toNat)
  case atStart =>
    obtain ⟨h1, h2, h3, h4, h5⟩ := four_boxes w #[.bool m, .int .u64 a0, .int .u64 a1, .int .u64 a2, .int .u64 a3, .int .u64 a4] #[.bool n, .int .u64 b0, .int .u64 b1, .int .u64 b2, .int .u64 b3, .int .u64 b4] #[.bool false, .int .u64 0, .int .u64 0, .int .u64 0, .int .u64 0, .int .u64 0] #[.bool (!(m == n)), .int .u64 0, .int .u64 0, .int .u64 0, .int .u64 0, .int .u64 0]
    exact ⟨0, by omega, rfl, h1, h2, h3, h4, h5⟩
  case round =>
    obtain ⟨q, hq, rfl, hA, hB, hR, hO, hb⟩ := hrel
    obtain ⟨O, hOd⟩ : ∃ O, O = mulI (dig a0 a1 a2 a3 a4) (dig b0 b1 b2 b3 b4) q := ⟨_, rfl⟩
    rw [← hOd] at hO
    have HO := Aside0.mk hOd
    clear hOd
    rcases (by omega : q = 0 ∨ q = 1 ∨ q = 2) with rfl | rfl | rfl
    · have hz : ((0 : Nat) : Int) = 0 := rfl
      simp only [hz]
      obtain ⟨wo, rfl⟩ : ∃ wo : World, wo = wr := ⟨_, rfl⟩
      go_wp2
      go_loopw [7, 8] (fun c k wr => ∃ q : Nat, q ≤ 3 ∧ ∃ (cv : Int) (p : Nat → Int), mulK (dig a0 a1 a2 a3 a4) (dig b0 b1 b2 b3 b4) 0 O q = (cv, p) ∧ c = .int .u64 cv ∧ k = .int .i64 q ∧
      wr.heap[w.heap.size]? = some (.cells #[.bool m, .int .u64 a0, .int .u64 a1, .int .u64 a2, .int .u64 a3, .int .u64 a4] 28 (0, 0)) ∧
      wr.heap[w.heap.size + 1]? = some (.cells #[.bool n, .int .u64 b0, .int .u64 b1, .int .u64 b2, .int .u64 b3, .int .u64 b4] 28 (0, 0)) ∧
      wr.heap[w.heap.size + 1 + 1]? = some (.cells #[.bool false, .int .u64 0, .int .u64 0, .int .u64 0, .int .u64 0, .int .u64 0] 28 (0, 0)) ∧
      wr.heap[w.heap.size + 1 + 1 + 1]? = some (.cells (rowO (!(m == n)) p) 28 (0, 0)) ∧ Below w.heap.size w wr)
        (fun _ k _ => 3 - (intOf k).toNat)
      case atStart => exact ⟨0, by omega, 0, O, rfl, rfl, rfl, hA, hB, hR, hO, hb⟩
      case round =>
        clear hA hB hR hO hb
        obtain ⟨q, hq, cv, p, hp, rfl, rfl, hA, hB, hR, hO, hb⟩ := hrel
        rcases (by omega : q = 0 ∨ q = 1 ∨ q = 2 ∨ q = 3) with rfl | rfl | rfl | rfl
        · have hz : ((0 : Nat) : Int) = 0 := rfl
          simp only [hz]
          have hn := mulK_succ _ _ _ _ _ _ _ hp
          simp only [mulS, dig, Nat.reduceAdd] at hn
          have hca : wr.cell? ⟨w.heap.size, 1, none⟩ = some (.int .u64 a0) := (blk_cell hA 1).trans rfl
          have hcb : wr.cell? ⟨w.heap.size + 1, 1, none⟩ = some (.int .u64 b0) := (blk_cell hB 1).trans rfl
          have hco : wr.cell? ⟨w.heap.size + 1 + 1 + 1, 1, none⟩ = some (.int .u64 (p 0)) := (blk_cell hO 1).trans rfl
          have hfo := blk_frozen hO 1
          have hsum : IntKind.i64.wrap ((0 : Int) + 0) = 0 := by decide
          go_wp2
          go_quiet (fail)
          go_wp2
          exact ⟨⟨1, by omega, _, _, hn, rfl, rfl, blk_far (blk_drewN hA _) (by simp only []; omega) _, blk_far (blk_drewN hB _) (by simp only []; omega) _, blk_far (blk_drewN hR _) (by simp only []; omega) _, blk_put (blk_drewN hO _) 1 _ (rowO_0 _ _ _), below_set (pw_below_drewN hb _) (by omega)⟩, by simp [intOf]⟩
        · have hz : ((1 : Nat) : Int) = 1 := rfl
          simp only [hz]
          have hn := mulK_succ _ _ _ _ _ _ _ hp
          simp only [mulS, dig, Nat.reduceAdd] at hn
          have hca : wr.cell? ⟨w.heap.size, 1, none⟩ = some (.int .u64 a0) := (blk_cell hA 1).trans rfl
          have hcb : wr.cell? ⟨w.heap.size + 1, 2, none⟩ = some (.int .u64 b1) := (blk_cell hB 2).trans rfl
          have hco : wr.cell? ⟨w.heap.size + 1 + 1 + 1, 2, none⟩ = some (.int .u64 (p 1)) := (blk_cell hO 2).trans rfl
          have hfo := blk_frozen hO 2
          have hsum : IntKind.i64.wrap ((0 : Int) + 1) = 1 := by decide
          go_wp2
          go_quiet (fail)
          go_wp2
          exact ⟨⟨2, by omega, _, _, hn, rfl, rfl, blk_far (blk_drewN hA _) (by simp only []; omega) _, blk_far (blk_drewN hB _) (by simp only []; omega) _, blk_far (blk_drewN hR _) (by simp only []; omega) _, blk_put (blk_drewN hO _) 2 _ (rowO_1 _ _ _), below_set (pw_below_drewN hb _) (by omega)⟩, by simp [intOf]⟩
        · have hz : ((2 : Nat) : Int) = 2 := rfl
          simp only [hz]
          have hn := mulK_succ _ _ _ _ _ _ _ hp
          simp only [mulS, dig, Nat.reduceAdd] at hn
          have hca : wr.cell? ⟨w.heap.size, 1, none⟩ = some (.int .u64 a0) := (blk_cell hA 1).trans rfl
          have hcb : wr.cell? ⟨w.heap.size + 1, 3, none⟩ = some (.int .u64 b2) := (blk_cell hB 3).trans rfl
          have hco : wr.cell? ⟨w.heap.size + 1 + 1 + 1, 3, none⟩ = some (.int .u64 (p 2)) := (blk_cell hO 3).trans rfl
          have hfo := blk_frozen hO 3
          have hsum : IntKind.i64.wrap ((0 : Int) + 2) = 2 := by decide
          go_wp2
          go_quiet (fail)
          go_wp2
          exact ⟨⟨3, by omega, _, _, hn, rfl, rfl, blk_far (blk_drewN hA _) (by simp only []; omega) _, blk_far (blk_drewN hB _) (by simp only []; omega) _, blk_far (blk_drewN hR _) (by simp only []; omega) _, blk_put (blk_drewN hO _) 3 _ (rowO_2 _ _ _), below_set (pw_below_drewN hb _) (by omega)⟩, by simp [intOf]⟩
        · have hz : ((3 : Nat) : Int) = 3 := rfl
          simp only [hz]
          go_wp2
          exact ⟨⟨1, by omega, rfl, hA, hB, hR, by rw [mulI, ← HO.out, hp]; exact hO, hb⟩, by simp [intOf]⟩
    · have hz : ((1 : Nat) : Int) = 1 := rfl
      simp only [hz]
      obtain ⟨wo, rfl⟩ : ∃ wo : World, wo = wr := ⟨_, rfl⟩
      go_wp2
      go_loopw [7, 8] (fun c k wr => ∃ q : Nat, q ≤ 3 ∧ ∃ (cv : Int) (p : Nat → Int), mulK (dig a0 a1 a2 a3 a4) (dig b0 b1 b2 b3 b4) 1 O q = (cv, p) ∧ c = .int .u64 cv ∧ k = .int .i64 q ∧
      wr.heap[w.heap.size]? = some (.cells #[.bool m, .int .u64 a0, .int .u64 a1, .int .u64 a2, .int .u64 a3, .int .u64 a4] 28 (0, 0)) ∧
      wr.heap[w.heap.size + 1]? = some (.cells #[.bool n, .int .u64 b0, .int .u64 b1, .int .u64 b2, .int .u64 b3, .int .u64 b4] 28 (0, 0)) ∧
      wr.heap[w.heap.size + 1 + 1]? = some (.cells #[.bool false, .int .u64 0, .int .u64 0, .int .u64 0, .int .u64 0, .int .u64 0] 28 (0, 0)) ∧
      wr.heap[w.heap.size + 1 + 1 + 1]? = some (.cells (rowO (!(m == n)) p) 28 (0, 0)) ∧ Below w.heap.size w wr)
        (fun _ k _ => 3 - (intOf k).toNat)
      case atStart => exact ⟨0, by omega, 0, O, rfl, rfl, rfl, hA, hB, hR, hO, hb⟩
      case round =>
        clear hA hB hR hO hb
        obtain ⟨q, hq, cv, p, hp, rfl, rfl, hA, hB, hR, hO, hb⟩ := hrel
        rcases (by omega : q = 0 ∨ q = 1 ∨ q = 2 ∨ q = 3) with rfl | rfl | rfl | rfl
        · have hz : ((0 : Nat) : Int) = 0 := rfl
          simp only [hz]
          have hn := mulK_succ _ _ _ _ _ _ _ hp
          simp only [mulS, dig, Nat.reduceAdd] at hn
          have hca : wr.cell? ⟨w.heap.size, 2, none⟩ = some (.int .u64 a1) := (blk_cell hA 2).trans rfl
          have hcb : wr.cell? ⟨w.heap.size + 1, 1, none⟩ = some (.int .u64 b0) := (blk_cell hB 1).trans rfl
          have hco : wr.cell? ⟨w.heap.size + 1 + 1 + 1, 2, none⟩ = some (.int .u64 (p 1)) := (blk_cell hO 2).trans rfl
          have hfo := blk_frozen hO 2
          have hsum : IntKind.i64.wrap ((1 : Int) + 0) = 1 := by decide
          go_wp2
          go_quiet (fail)
          go_wp2
          exact ⟨⟨1, by omega, _, _, hn, rfl, rfl, blk_far (blk_drewN hA _) (by simp only []; omega) _, blk_far (blk_drewN hB _) (by simp only []; omega) _, blk_far (blk_drewN hR _) (by simp only []; omega) _, blk_put (blk_drewN hO _) 2 _ (rowO_1 _ _ _), below_set (pw_below_drewN hb _) (by omega)⟩, by simp [intOf]⟩
        · have hz : ((1 : Nat) : Int) = 1 := rfl
          simp only [hz]
          have hn := mulK_succ _ _ _ _ _ _ _ hp
          simp only [mulS, dig, Nat.reduceAdd] at hn
          have hca : wr.cell? ⟨w.heap.size, 2, none⟩ = some (.int .u64 a1) := (blk_cell hA 2).trans rfl
          have hcb : wr.cell? ⟨w.heap.size + 1, 2, none⟩ = some (.int .u64 b1) := (blk_cell hB 2).trans rfl
          have hco : wr.cell? ⟨w.heap.size + 1 + 1 + 1, 3, none⟩ = some (.int .u64 (p 2)) := (blk_cell hO 3).trans rfl
          have hfo := blk_frozen hO 3
          have hsum : IntKind.i64.wrap ((1 : Int) + 1) = 2 := by decide
          go_wp2
          go_quiet (fail)
          go_wp2
          exact ⟨⟨2, by omega, _, _, hn, rfl, rfl, blk_far (blk_drewN hA _) (by simp only []; omega) _, blk_far (blk_drewN hB _) (by simp only []; omega) _, blk_far (blk_drewN hR _) (by simp only []; omega) _, blk_put (blk_drewN hO _) 3 _ (rowO_2 _ _ _), below_set (pw_below_drewN hb _) (by omega)⟩, by simp [intOf]⟩
        · have hz : ((2 : Nat) : Int) = 2 := rfl
          simp only [hz]
          have hn := mulK_succ _ _ _ _ _ _ _ hp
          simp only [mulS, dig, Nat.reduceAdd] at hn
          have hca : wr.cell? ⟨w.heap.size, 2, none⟩ = some (.int .u64 a1) := (blk_cell hA 2).trans rfl
          have hcb : wr.cell? ⟨w.heap.size + 1, 3, none⟩ = some (.int .u64 b2) := (blk_cell hB 3).trans rfl
          have hco : wr.cell? ⟨w.heap.size + 1 + 1 + 1, 4, none⟩ = some (.int .u64 (p 3)) := (blk_cell hO 4).trans rfl
          have hfo := blk_frozen hO 4
          have hsum : IntKind.i64.wrap ((1 : Int) + 2) = 3 := by decide
          go_wp2
          go_quiet (fail)
          go_wp2
          exact ⟨⟨3, by omega, _, _, hn, rfl, rfl, blk_far (blk_drewN hA _) (by simp only []; omega) _, blk_far (blk_drewN hB _) (by simp only []; omega) _, blk_far (blk_drewN hR _) (by simp only []; omega) _, blk_put (blk_drewN hO _) 4 _ (rowO_3 _ _ _), below_set (pw_below_drewN hb _) (by omega)⟩, by simp [intOf]⟩
        · have hz : ((3 : Nat) : Int) = 3 := rfl
          simp only [hz]
          go_wp2
          exact ⟨⟨2, by omega, rfl, hA, hB, hR, by rw [mulI, ← HO.out, hp]; exact hO, hb⟩, by simp [intOf]⟩
    · have hz : ((2 : Nat) : Int) = 2 := rfl
      simp only [hz]
      have hco0 : wr.cell? ⟨w.heap.size + 1 + 1 + 1, 0, none⟩ = some (.bool (!(m == n))) := (blk_cell hO 0).trans rfl
      have hcr0 : wr.cell? ⟨w.heap.size + 1 + 1, 0, none⟩ = some (.bool false) := (blk_cell hR 0).trans rfl
      have hfr0 := blk_frozen hR 0
      have hco1 : wr.cell? ⟨w.heap.size + 1 + 1 + 1, 1, none⟩ = some (.int .u64 (O 0)) := (blk_cell hO 1).trans rfl
      have hcr1 : wr.cell? ⟨w.heap.size + 1 + 1, 1, none⟩ = some (.int .u64 0) := (blk_cell hR 1).trans rfl
      have hfr1 := blk_frozen hR 1
      have hco2 : wr.cell? ⟨w.heap.size + 1 + 1 + 1, 2, none⟩ = some (.int .u64 (O 1)) := (blk_cell hO 2).trans rfl
      have hcr2 : wr.cell? ⟨w.heap.size + 1 + 1, 2, none⟩ = some (.int .u64 0) := (blk_cell hR 2).trans rfl
      have hfr2 := blk_frozen hR 2
      have hco3 : wr.cell? ⟨w.heap.size + 1 + 1 + 1, 3, none⟩ = some (.int .u64 (O 2)) := (blk_cell hO 3).trans rfl
      have hcr3 : wr.cell? ⟨w.heap.size + 1 + 1, 3, none⟩ = some (.int .u64 0) := (blk_cell hR 3).trans rfl
      have hfr3 := blk_frozen hR 3
      have hco4 : wr.cell? ⟨w.heap.size + 1 + 1 + 1, 4, none⟩ = some (.int .u64 (O 3)) := (blk_cell hO 4).trans rfl
      have hcr4 : wr.cell? ⟨w.heap.size + 1 + 1, 4, none⟩ = some (.int .u64 0) := (blk_cell hR 4).trans rfl
      have hfr4 := blk_frozen hR 4
      have hco5 : wr.cell? ⟨w.heap.size + 1 + 1 + 1, 5, none⟩ = some (.int .u64 (O 4)) := (blk_cell hO 5).trans rfl
      have hcr5 : wr.cell? ⟨w.heap.size + 1 + 1, 5, none⟩ = some (.int .u64 0) := (blk_cell hR 5).trans rfl
      have hfr5 := blk_frozen hR 5
      go_wp2
      have hF := (blk_put (cs' := #[.bool (!(m == n)), .int .u64 (O 0), .int .u64 (O 1), .int .u64 (O 2), .int .u64 (O 3), .int .u64 (O 4)]) (blk_put (cs' := #[.bool (!(m == n)), .int .u64 (O 0), .int .u64 (O 1), .int .u64 (O 2), .int .u64 (O 3), .int .u64 0]) (blk_put (cs' := #[.bool (!(m == n)), .int .u64 (O 0), .int .u64 (O 1), .int .u64 (O 2), .int .u64 0, .int .u64 0]) (blk_put (cs' := #[.bool (!(m == n)), .int .u64 (O 0), .int .u64 (O 1), .int .u64 0, .int .u64 0, .int .u64 0]) (blk_put (cs' := #[.bool (!(m == n)), .int .u64 (O 0), .int .u64 0, .int .u64 0, .int .u64 0, .int .u64 0]) (blk_put (cs' := #[.bool (!(m == n)), .int .u64 0, .int .u64 0, .int .u64 0, .int .u64 0, .int .u64 0]) hR 0 _ rfl) 1 _ rfl) 2 _ rfl) 3 _ rfl) 4 _ rfl) 5 _ rfl)
      refine bodyPost_ret (results_cell_row rfl _ _ (w.heap.size + 1 + 1) 28 _ (0, 0) _ rfl hF Try.underlying28 rfl (by kernel_rfl)) rfl ?_
      exact ⟨by rw [← HO.out]; rfl, by repeat (first | exact hb | refine below_set ?_ (by omega))⟩
def clepsydraref01_Mul.f (a0_0 : Bool) (a0_1 : Int) (a0_2 : Int) (a0_3 : Int) (a0_4 : Int) (a0_5 : Int) (a1_0 : Bool) (a1_1 : Int) (a1_2 : Int) (a1_3 : Int) (a1_4 : Int) (a1_5 : Int) : Option (Bool × Int × Int × Int × Int × Int) := some (!(a0_0 == a1_0), mulI (dig a0_1 a0_2 a0_3 a0_4 a0_5) (dig a1_1 a1_2 a1_3 a1_4 a1_5) 2 0, mulI (dig a0_1 a0_2 a0_3 a0_4 a0_5) (dig a1_1 a1_2 a1_3 a1_4 a1_5) 2 1, mulI (dig a0_1 a0_2 a0_3 a0_4 a0_5) (dig a1_1 a1_2 a1_3 a1_4 a1_5) 2 2, mulI (dig a0_1 a0_2 a0_3 a0_4 a0_5) (dig a1_1 a1_2 a1_3 a1_4 a1_5) 2 3, mulI (dig a0_1 a0_2 a0_3 a0_4 a0_5) (dig a1_1 a1_2 a1_3 a1_4 a1_5) 2 4)
theorem clepsydraref01_Mul.calls (a0_0 : Bool) (a0_1 : Int) (a0_2 : Int) (a0_3 : Int) (a0_4 : Int) (a0_5 : Int) (a1_0 : Bool) (a1_1 : Int) (a1_2 : Int) (a1_3 : Int) (a1_4 : Int) (a1_5 : Int) (r1 : Bool) (r2 : Int) (r3 : Int) (r4 : Int) (r5 : Int) (r6 : Int) (w : World) (h : clepsydraref01_Mul.f a0_0 a0_1 a0_2 a0_3 a0_4 a0_5 a1_0 a1_1 a1_2 a1_3 a1_4 a1_5 = some (r1, r2, r3, r4, r5, r6)) :
    Calls Try.prog 12 #[.agg #[.bool a0_0, .int .u64 a0_1, .int .u64 a0_2, .int .u64 a0_3, .int .u64 a0_4, .int .u64 a0_5], .agg #[.bool a1_0, .int .u64 a1_1, .int .u64 a1_2, .int .u64 a1_3, .int .u64 a1_4, .int .u64 a1_5]] w fun e w' => e = .returned (.agg #[.bool r1, .int .u64 r2, .int .u64 r3, .int .u64 r4, .int .u64 r5, .int .u64 r6]) ∧ Below w.heap.size w w' := by
  unfold clepsydraref01_Mul.f at h
  simp only [Option.some.injEq, Prod.mk.injEq] at h
  obtain ⟨rfl, rfl, rfl, rfl, rfl, rfl⟩ := h
  exact mul_all a0_0 a1_0 a0_1 a0_2 a0_3 a0_4 a0_5 a1_1 a1_2 a1_3 a1_4 a1_5 w
end Go.Proofs.Ytbegglmcbcepeaa.All
