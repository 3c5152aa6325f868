/- A list of lists of seven calls: how it stands, and what an append leaves of it. -/
import Derived.Test.YtngoenbdimlppaaN8
namespace Go.Proofs.Ytngoenbdimlppaa.Svc
open Go.RowKit Go.Proofs.YtngoenbdimlppaaW.PrintWords Go.Proofs.YtngoenbdimlppaaW.PrintLast Go.Proofs.YtngoenbdimlppaaW.PrintMore
open Go.Proofs.Ytngoenbdimlppaa.All (S25 k25 k25_mk rd_T25 at_T25 S76 k76)
set_option linter.unusedVariables false
set_option linter.unusedSimpArgs false
set_option maxRecDepth 100000

/-- The cells of seven calls. -/
abbrev c7 (y0 y1 y2 y3 y4 y5 y6 : S25) : Array Value := #[.int .u8 y0.f0, .int .i64 y0.f1, .int .u32 y0.f2, .int .u8 y1.f0, .int .i64 y1.f1, .int .u32 y1.f2, .int .u8 y2.f0, .int .i64 y2.f1, .int .u32 y2.f2, .int .u8 y3.f0, .int .i64 y3.f1, .int .u32 y3.f2, .int .u8 y4.f0, .int .i64 y4.f1, .int .u32 y4.f2, .int .u8 y5.f0, .int .i64 y5.f1, .int .u32 y5.f2, .int .u8 y6.f0, .int .i64 y6.f1, .int .u32 y6.f2]
theorem row7_C (b : Nat) (y0 y1 y2 y3 y4 y5 y6 : S25) (w : World) (h : w.heap[b]? = some (.cells (c7 y0 y1 y2 y3 y4 y5 y6) 25 (0, 0))) (n : Nat) (hn : n ≤ 7) : Kd.C k25 w (some ⟨b, 0, none⟩) n ([y0, y1, y2, y3, y4, y5, y6].take n) := by
  refine ⟨by simp; omega, by omega, fun _ => ⟨_, rfl, fun j q hj => ⟨_, ?_, k25_mk w q, fun i u hu => ?_⟩⟩⟩
  · rfl
  · refine World.news_of_block h (j * 3 + i) u ?_
    rw [List.getElem?_take] at hj
    split at hj
    case isFalse => cases hj
    have hj7 : j = 0 ∨ j = 1 ∨ j = 2 ∨ j = 3 ∨ j = 4 ∨ j = 5 ∨ j = 6 := by omega
    have hi3 : i < 3 := by simpa using (List.getElem?_eq_some_iff.1 hu).1
    have hi : i = 0 ∨ i = 1 ∨ i = 2 := by omega
    rcases hj7 with rfl | rfl | rfl | rfl | rfl | rfl | rfl
    all_goals
      simp only [List.getElem?_cons_zero, List.getElem?_cons_succ, Option.some.injEq] at hj
      subst hj
      rcases hi with rfl | rfl | rfl <;> exact hu
/-- A list of lists of seven calls. -/
def Ys (w : World) (B : Nat) (ys : List Value) : Prop := ∀ y ∈ ys, ∃ (b : Nat) (y0 y1 y2 y3 y4 y5 y6 : S25), y = .slice (some ⟨b, 0, none⟩) 7 7 ∧ B ≤ b ∧ (∀ x ∈ [y0, y1, y2, y3, y4, y5, y6], Fit25 x) ∧ w.heap[b]? = some (.cells (c7 y0 y1 y2 y3 y4 y5 y6) 25 (0, 0))
theorem Ys.below {w w' : World} {B : Nat} {ys : List Value} (h : Ys w B ys) (hb : Below w.heap.size w w') : Ys w' B ys := fun y hy =>
  let ⟨b, y0, y1, y2, y3, y4, y5, y6, e, hB, hf, hh⟩ := h y hy
  ⟨b, y0, y1, y2, y3, y4, y5, y6, e, hB, hf, blk_below hh hb⟩
theorem ys_step {w w1 : World} {B n : Nat} {v : Value} {ys : List Value} (hO : w.ownsRow B 26 1 v n ys) (hY : Ys w B ys) (hB : B ≤ w.heap.size) (y0 y1 y2 y3 y4 y5 y6 : S25) (hf : ∀ x ∈ [y0, y1, y2, y3, y4, y5, y6], Fit25 x) (o2 : Obj)
    (hgrow : ((w.alloc (.cells (c7 y0 y1 y2 y3 y4 y5 y6) 25)).alloc o2).grownBy w1 v.ownBlock) : Ys w1 B (ys ++ [.slice (some ⟨w.heap.size, 0, none⟩) 7 7]) := by
  intro y hy
  rcases List.mem_append.1 hy with hy | hy
  · obtain ⟨b, y0, y1, y2, y3, y4, y5, y6, e, hb, hf', hh⟩ := hY y hy
    have hlt := blk_lt hh
    exact ⟨b, y0, y1, y2, y3, y4, y5, y6, e, hb, hf', (hgrow.block b (by simp; omega) (own_ne hO hh (by decide))).trans (blk_alloc (blk_alloc hh _) _)⟩
  · have : y = _ := List.mem_singleton.1 hy
    subst this
    have hn := own_ne_new hO 0
    exact ⟨w.heap.size, y0, y1, y2, y3, y4, y5, y6, rfl, hB, hf, (hgrow.block _ (by simp; omega) (by simpa using hn)).trans (blk_alloc (blk_new _ _) _)⟩
theorem info26 : (Try.prog.info? 26).map (fun i => (i.zero, i.size, i.bytes)) = some (some (.slice none 0 0), 1, 24) := by kernel_rfl
/-- An element of the list: where it stands, and what it holds. -/
theorem ys_at {w : World} {B n g cap : Nat} {ys : List Value} (hO : w.ownsRow B 26 1 (.slice (some ⟨g, 0, none⟩) n cap) n ys) (hY : Ys w B ys) (i : Nat) (hi : i < n) :
    ∃ (b : Nat) (l : List S25), w.cell? ((⟨g, 0, none⟩ : Addr).add i) = some (.slice (some ⟨b, 0, none⟩) 7 7) ∧ l.length = 7 ∧ (∀ x ∈ l, Fit25 x) ∧ ∀ w', Below w.heap.size w w' → ∀ m, m ≤ 7 → Kd.C k25 w' (some ⟨b, 0, none⟩) m (l.take m) := by
  have hl : i < ys.length := by have := hO.1; omega
  have hc := hO.cellAt i (by omega)
  obtain ⟨b, y0, y1, y2, y3, y4, y5, y6, e, hb, hf, hh⟩ := hY ys[i] (List.getElem_mem hl)
  have ha : (⟨g, 0, none⟩ : Addr).add i = ⟨g, i, none⟩ := by unfold Addr.add; split <;> simp_all
  refine ⟨b, [y0, y1, y2, y3, y4, y5, y6], ?_, rfl, hf, fun w' hb' m hm => row7_C b y0 y1 y2 y3 y4 y5 y6 w' (blk_below hh hb') m hm⟩
  rw [ha, hc, List.getElem?_eq_getElem hl, e]
end Go.Proofs.Ytngoenbdimlppaa.Svc
