/- The contracts of wake.ends and wake.Best: a range over a function. -/
import Derived.RangeFuncBox
import Derived.RangeFuncLeaves
import Derived.RangeFuncNested
import Derived.Shelf.Abstract
import Derived.WalkKit
import Derived.OwnWalkIn
import Derived.TacticsInMore
import Derived.LoopNIn
import Derived.LoopIn
import Derived.Deep.RegionHeld3
import Derived.Lib.Hide
import Derived.Test.YtifeepkknlglbaaA0
namespace Go.Proofs.Ytifeepkknlglbaa.Ends
open Go.RowKit Go.Shelf
open Go.Proofs.YtifeepkknlglbaaW.PrintWords (Kd)
open Go.Proofs.Ytifeepkknlglbaa.All (S34 S32 k34 rd_T34 at_T34 z34)
attribute [local go_sem] Oper.semAt_some
open Go.Proofs.YtifeepkknlglbaaW.PrintMore in
attribute [local go_sem] max2_int min2_int max_two min_two

def endsOf (xs : List S34) (real : Bool) : List Int := (xs.filter (fun x => x.f0 == real)).map (fun x => x.f1.f1)

theorem take_snoc (xs : List S34) (k : Nat) (h : k < xs.length) : xs.take (k + 1) = xs.take k ++ [rd_T34 xs (k : Int)] := by
  rw [List.take_succ_eq_append_getElem h]
  simp [rd_T34, List.getD_eq_getElem?_getD, List.getElem?_eq_getElem h]
theorem ends_snoc_yes (xs : List S34) (real : Bool) (k : Nat) (h : k < xs.length) (hb : ((rd_T34 xs (k : Int)).f0 == real) = true) : endsOf (xs.take (k + 1)) real = endsOf (xs.take k) real ++ [(rd_T34 xs (k : Int)).f1.f1] := by
  rw [take_snoc xs k h]; unfold endsOf; rw [List.filter_append, List.map_append]; simp [hb]
theorem ends_snoc_no (xs : List S34) (real : Bool) (k : Nat) (h : k < xs.length) (hb : ((rd_T34 xs (k : Int)).f0 == real) = false) : endsOf (xs.take (k + 1)) real = endsOf (xs.take k) real := by
  rw [take_snoc xs k h]; unfold endsOf; rw [List.filter_append, List.map_append]; simp [hb]
theorem ends_len (xs : List S34) (real : Bool) : (endsOf xs real).length ≤ xs.length := by
  unfold endsOf; rw [List.length_map]; exact List.length_filter_le _ _

theorem wrap_succ {k n : Nat} (h : k < n) (hn : n ≤ 9223372036854775807) : wrap64 ((k : Int) + 1) = (k : Int) + 1 := by
  unfold wrap64; omega

/-- What a round that goes on keeps: what lay ahead of the call, and the two boxes of the iterator. -/
def Kp (n₀ Bs Br : Nat) (W W' : World) : Prop := Below n₀ W W' ∧ W'.heap[Bs]? = W.heap[Bs]? ∧ W'.heap[Br]? = W.heap[Br]?

set_option maxRecDepth 100000 in
set_option maxHeartbeats 2000000 in
theorem ends1_in (F : Fence) (n : Nat) (h14 : F.fn 14) (hro : F.round = none) (hn : 1 ≤ n) (l Bs Br n₀ c0 : Nat) (A0 : Option Addr) (xs : List S34) (real : Bool) (W0 : World) (hn₀ : n₀ = W0.heap.size) (hr0 : Kd.C k34 W0 A0 xs.length xs)
    (J Jx : List Int → World → Prop) (W : World) (hJ : AbidesFrom W.heap.size J)
    (hY : ∀ pre x W, J pre W → pre.length < xs.length → YieldAt F (n - 1) Try.prog l #[.int .i64 x] W fun e W' =>
      (e = .returned (.bool true) ∧ J (pre ++ [x]) W' ∧ Kp n₀ Bs Br W W') ∨ (e = .returned (.bool false) ∧ Jx (pre ++ [x]) W'))
    (hW0 : Below n₀ W0 W) (hBs : Boxed W Bs 22 (.slice A0 xs.length c0)) (hBr : Boxed W Br 4 (.bool real)) (h0 : J [] W) :
    CallsIn F n Try.prog 14 #[.func (.yield l) #[] #[], .pointer (some ⟨Bs, 0, none⟩), .pointer (some ⟨Br, 0, none⟩)] W fun e W' => (∃ v, e = .returned v) ∧
      ((∃ ys, ys = endsOf xs real ∧ J ys W') ∨ (∃ pre, (∃ k, k ≤ xs.length ∧ pre = endsOf (xs.take k) real) ∧ Jx pre W')) := by
  have hsc := hBs.cell
  have hrc := hBr.cell
  refine callsIn_of_wp Try.func14 rfl h14 ?_ hro
  simp only [Try.ntmps14, List.size_toArray, List.length_cons, List.length_nil, Nat.reduceAdd, Nat.reduceSub, Array.replicate_succ, Array.replicate_zero, List.push_toArray, List.append_toArray, List.nil_append, List.cons_append]
  gi_wp2
  gi_loopw [8] (fun i wr => ∃ k : Nat, k ≤ xs.length ∧ i = .int .i64 k ∧ J (endsOf (xs.take k) real) wr ∧ Below n₀ W0 wr ∧ Boxed wr Br 4 (.bool real) ∧ W.heap.size ≤ wr.heap.size)
    (fun i _ => xs.length - (intOf i).toNat)
  case atStart => exact ⟨0, Nat.zero_le _, rfl, h0, hW0, hBr, Nat.le_refl _⟩
  case round =>
    obtain ⟨k, hk, rfl, hJs, hnx, hbr, hsz⟩ := hrel
    by_cases hlt : k < xs.length
    · have hlen := ends_len (xs.take k) real
      have hle : (xs.take k).length ≤ k := List.length_take_le _ _
      obtain ⟨ad, e1, hx0, hx1, hx2⟩ := at_T34 hr0 (k : Int) (by omega) (by omega)
      cases e1
      subst hn₀
      have hb0 := World.block_lt_of_cell? W0 _ hx0
      have hb1 := World.block_lt_of_cell? W0 _ hx1
      have hb2 := World.block_lt_of_cell? W0 _ hx2
      replace hx0 := (hnx.cell hb0).trans hx0
      replace hx1 := (hnx.cell hb1).trans hx1
      replace hx2 := (hnx.cell hb2).trans hx2
      simp only [Int.toNat_natCast] at hx0 hx1 hx2
      have hrc' : ∀ o, (wr.alloc o).cell? ⟨Br, 0, none⟩ = some (.bool real) := fun o => (hbr.alloc o).cell
      clear hsc hrc hb0 hb1 hb2
      have hmax : xs.length ≤ 9223372036854775807 := hr0.2.1
      have HR := Lib.hid hr0; clear hr0
      have HJ := Lib.hid hJ; clear hJ
      have HY := Lib.hid hY; clear hY
      obtain ⟨o, ho⟩ : ∃ o : Obj, o = .cells #[.bool (rd_T34 xs (k : Int)).f0, .int .i64 (rd_T34 xs (k : Int)).f1.f0, .int .i64 (rd_T34 xs (k : Int)).f1.f1] 34 := ⟨_, rfl⟩
      have hJo : J (endsOf (xs.take k) real) (wr.alloc o) := HJ.out _ _ _ none hJs (World.grownBy_alloc wr o none) (fun r e => by cases e)
      have hBo : Below W0.heap.size W0 (wr.alloc o) := hnx.alloc hnx.size _
      have hSo : W.heap.size ≤ (wr.alloc o).heap.size := by rw [World.size_alloc]; omega
      by_cases hc : ((rd_T34 xs (k : Int)).f0 == real) = true
      · obtain ⟨fn, tmps, assign, body, hy, hR⟩ := HY.out (endsOf (xs.take k) real) (rd_T34 xs (k : Int)).f1.f1 (wr.alloc o) hJo (by omega)
        subst ho
        gi_wp2
        refine hR.mono ?_
        rintro e W3 (⟨rfl, hJ3, hk3⟩ | ⟨rfl, hJx3⟩)
        · gi_wp2
          go_roundw
          case rel => exact ⟨k + 1, by omega, by simp, by rw [ends_snoc_yes xs real k hlt hc]; exact hJ3, hBo.trans hk3.1, (hk3.2.2).trans (hbr.alloc _), Nat.le_trans hSo hk3.1.size⟩
          case measure => simp [intOf]; omega
        · gi_wp2
          refine bodyPost_ret (results_none rfl _ _ _) rfl ?_
          exact ⟨⟨_, rfl⟩, .inr ⟨_, ⟨k + 1, by omega, (ends_snoc_yes xs real k hlt hc).symm⟩, hJx3⟩⟩
      · replace hc : ((rd_T34 xs (k : Int)).f0 == real) = false := by simpa using hc
        subst ho
        gi_wp2
        refine ⟨fun _ h => (by cases h), ?_⟩
        gi_wp2
        go_roundw
        case rel => exact ⟨k + 1, by omega, by simp, by rw [ends_snoc_no xs real k hlt hc]; exact hJo, hBo, hbr.alloc _, hSo⟩
        case measure => simp [intOf]; omega
    · obtain rfl : k = xs.length := by omega
      gi_wp2
      go_end0
      exact ⟨⟨_, rfl⟩, .inl ⟨_, rfl, by rw [List.take_length] at hJs; exact hJs⟩⟩

set_option maxHeartbeats 1000000 in
theorem ends_in (F : Fence) (n : Nat) (h13 : F.fn 13) (hro : F.round = none) (A0 : Option Addr) (len cap : Nat) (real : Bool) (w : World) :
    CallsIn F n Try.prog 13 #[.slice A0 len cap, .bool real] w fun e w' => e = .returned (.func (.func 14) #[] #[.pointer (some ⟨w.heap.size, 0, none⟩), .pointer (some ⟨w.heap.size + 1, 0, none⟩)]) ∧ w' = (w.alloc (.cells #[.slice A0 len cap] 22)).alloc (.cells #[.bool real] 4) := by
  refine callsIn_of_wp Try.func13 rfl h13 ?_ hro
  simp only [Try.ntmps13, List.size_toArray, List.length_cons, List.length_nil, Nat.reduceAdd, Nat.reduceSub, Array.replicate_succ, Array.replicate_zero, List.push_toArray, List.append_toArray, List.nil_append, List.cons_append]
  gi_wp2
  go_ret
  exact ⟨rfl, rfl⟩

theorem kp_t {n₀ Bs Br : Nat} {A B C : World} (h : Kp n₀ Bs Br A B) (k : Kp n₀ Bs Br B C) : Kp n₀ Bs Br A C := ⟨h.1.trans k.1, k.2.1.trans h.2.1, k.2.2.trans h.2.2⟩
theorem kp_b {n₀ Bs Br : Nat} {w : World} (hn : n₀ ≤ w.heap.size) (hs : Bs < w.heap.size) (hr : Br < w.heap.size) (W : World) (l : Nat) (o o' : Obj) (hl : w.heap.size ≤ l) (h : W.heap[l]? = some o) (h1 : o.isCells = false) (h2 : o.isWalk = false) : Kp n₀ Bs Br W (W.putObj l o') :=
  ⟨belowK_b hn W l o o' hl h h1 h2, World.putObj_heap_other (by omega), World.putObj_heap_other (by omega)⟩

/-- The iterator's contract: all the ends, in order; or those of a part. -/
theorem ends_stops (F : Fence) (n : Nat) (h14 : F.fn 14) (hro : F.round = none) (hn : 1 ≤ n) (Bs Br n₀ c0 : Nat) (A0 : Option Addr) (xs : List S34) (real : Bool) (w0 w : World) (hn₀ : n₀ = w0.heap.size) (hr0 : Kd.C k34 w0 A0 xs.length xs) (hb : Below n₀ w0 w)
    (hs : Boxed w Bs 22 (.slice A0 xs.length c0)) (hr : Boxed w Br 4 (.bool real)) :
    SeqStopsK F n Try.prog 14 #[.pointer (some ⟨Bs, 0, none⟩), .pointer (some ⟨Br, 0, none⟩)] (fun x : Int => #[Value.int .i64 x]) (Kp n₀ Bs Br) (fun ys => ys = endsOf xs real) (fun pre => ∃ k, k ≤ xs.length ∧ pre = endsOf (xs.take k) real) xs.length w := fun l J Jx W hW hJ _ hY h0 =>
  ends1_in F n h14 hro hn l Bs Br n₀ c0 A0 xs real w0 hn₀ hr0 J Jx W hJ hY (hb.trans (hW.mono (by rw [hn₀]; exact hb.size)))
    ((hW.block _ hs.lt).trans hs) ((hW.block _ hr.lt).trans hr) h0

def minW (l : List Int) : Int := l.foldl (fun s v => if v < s then v else s) 9223372036854775807
theorem minW_snoc (pre : List Int) (x : Int) : minW (pre ++ [x]) = if x < minW pre then x else minW pre := by unfold minW; rw [List.foldl_append]; rfl
theorem minW_lt {pre : List Int} {x : Int} (h : x < minW pre) : minW (pre ++ [x]) = x := by rw [minW_snoc, if_pos h]
theorem minW_ge {pre : List Int} {x : Int} (h : minW pre ≤ x) : minW (pre ++ [x]) = minW pre := by rw [minW_snoc, if_neg (by omega)]
def bestOf (xs : List S34) (real : Bool) (now : Int) : Int := if endsOf xs real = [] then 9223372036854775807 else if minW (endsOf xs real) < now then now else minW (endsOf xs real)
def inf : Int := 9223372036854775807

theorem body_end {n₀ N : Nat} {W w : World} {pre : List Int} {x v m : Int} {b : Bool} (c1 : Boxed W n₀ 2 (.int .i64 m)) (c2 : Boxed W (n₀ + 1) 4 (.bool b)) (hB : Below n₀ w W) (hv : v = minW (pre ++ [x])) :
    KeepsFrom N W ((W.setCell ⟨n₀, 0, none⟩ (.int .i64 v)).setCell ⟨n₀ + 1, 0, none⟩ (.bool true)) ∧ Kp n₀ (n₀ + 1 + 1) (n₀ + 1 + 1 + 1) W ((W.setCell ⟨n₀, 0, none⟩ (.int .i64 v)).setCell ⟨n₀ + 1, 0, none⟩ (.bool true)) ∧
      (Boxed ((W.setCell ⟨n₀, 0, none⟩ (.int .i64 v)).setCell ⟨n₀ + 1, 0, none⟩ (.bool true)) n₀ 2 (.int .i64 (minW (pre ++ [x]))) ∧ Boxed ((W.setCell ⟨n₀, 0, none⟩ (.int .i64 v)).setCell ⟨n₀ + 1, 0, none⟩ (.bool true)) (n₀ + 1) 4 (.bool (!(pre ++ [x]).isEmpty))) ∧
      Below n₀ w ((W.setCell ⟨n₀, 0, none⟩ (.int .i64 v)).setCell ⟨n₀ + 1, 0, none⟩ (.bool true)) := by
  have hb := ((Below.refl n₀ W).setCell (p := ⟨n₀, 0, none⟩) (Nat.le_refl _) (.int .i64 v)).setCell (p := ⟨n₀ + 1, 0, none⟩) (Nat.le_succ _) (.bool true)
  refine ⟨((KeepsOthers.setCell _ _ _).trans (KeepsOthers.setCell _ _ _)).from _, ⟨hb, ?_, ?_⟩, ⟨?_, ?_⟩, hB.trans hb⟩
  · exact (Below.heap_setCell _ _ _ _ (by simp only []; omega)).trans (Below.heap_setCell _ _ _ _ (by simp only []; omega))
  · exact (Below.heap_setCell _ _ _ _ (by simp only []; omega)).trans (Below.heap_setCell _ _ _ _ (by simp only []; omega))
  · rw [← hv]; exact (c1.set _).other (by omega) _
  · have : (!(pre ++ [x]).isEmpty) = true := by cases pre <;> rfl
    rw [this]; exact (c2.other (by omega) _).set _

set_option maxRecDepth 100000 in
set_option maxHeartbeats 2000000 in
theorem Best_in (F : Fence) (n : Nat) (h11 : F.fn 11) (h13 : F.fn 13) (h14 : F.fn 14) (hro : F.round = none) (hn : 3 ≤ n) (A0 : Option Addr) (c0 : Nat) (xs : List S34) (real : Bool) (now : Int) (w : World) (hr0 : Kd.C k34 w A0 xs.length xs) :
    CallsIn F n Try.prog 11 #[.slice A0 xs.length c0, .bool real, .int .i64 now] w fun e W' => e = .returned (.int .i64 (bestOf xs real now)) ∧ Below w.heap.size w W' := by
  have h1 : 1 ≤ n := by omega
  refine callsIn_of_wp_marks Try.func11 rfl h11 ?_ hro
  simp only [Try.ntmps11, List.size_toArray, List.length_cons, List.length_nil, Nat.reduceAdd, Nat.reduceSub, Array.replicate_succ, Array.replicate_zero, List.push_toArray, List.append_toArray, List.nil_append, List.cons_append]
  gi_wp2_with (gi_at_call 13; refine (ends_in F (n - 1) h13 hro _ _ _ _ _).mono ?_; rintro e w' ⟨rfl, rfl⟩)
  obtain ⟨W0, hW, b1, b2, b3, b4, hB0, hsz⟩ : ∃ W0, ((((w.alloc (Obj.cells #[Value.int IntKind.i64 9223372036854775807] 2)).alloc (Obj.cells #[Value.bool false] 4)).alloc (Obj.cells #[Value.slice A0 xs.length c0] 22)).alloc (Obj.cells #[Value.bool real] 4)) = W0 ∧
      Boxed W0 w.heap.size 2 (.int .i64 (minW [])) ∧ Boxed W0 (w.heap.size + 1) 4 (.bool (![].isEmpty (α := Int))) ∧ Boxed W0 (w.heap.size + 1 + 1) 22 (.slice A0 xs.length c0) ∧ Boxed W0 (w.heap.size + 1 + 1 + 1) 4 (.bool real) ∧ Below w.heap.size w W0 ∧ W0.heap.size = w.heap.size + 4 := by
    refine ⟨_, rfl, (((Boxed.new w 2 _).alloc _).alloc _).alloc _, ?_, ?_, ?_, (((((Below.refl _ w).alloc (Nat.le_refl _) _).alloc (by simp) _).alloc (by simp; omega) _).alloc (by simp; omega) _), by simp [World.size_alloc]⟩
    · have := ((Boxed.new (w.alloc (.cells #[.int .i64 9223372036854775807] 2)) 4 (.bool false)).alloc (.cells #[.slice A0 xs.length c0] 22)).alloc (.cells #[.bool real] 4)
      rwa [World.size_alloc] at this
    · have := (Boxed.new ((w.alloc (.cells #[.int .i64 9223372036854775807] 2)).alloc (.cells #[.bool false] 4)) 22 (.slice A0 xs.length c0)).alloc (.cells #[.bool real] 4)
      rwa [World.size_alloc, World.size_alloc] at this
    · have := Boxed.new (((w.alloc (.cells #[.int .i64 9223372036854775807] 2)).alloc (.cells #[.bool false] 4)).alloc (.cells #[.slice A0 xs.length c0] 22)) 4 (.bool real)
      rwa [World.size_alloc, World.size_alloc, World.size_alloc] at this
  rw [hW]
  clear hW
  have hseq := ends_stops F (n - 1) h14 hro (by omega) (w.heap.size + 1 + 1) (w.heap.size + 1 + 1 + 1) w.heap.size c0 A0 xs real w W0 rfl hr0 hB0 b3 b4
  refine wpIn_rangeFunc_ownG hro h1 (gf := 14) (lb := #[.pointer (some ⟨w.heap.size + 1 + 1, 0, none⟩), .pointer (some ⟨w.heap.size + 1 + 1 + 1, 0, none⟩)]) rfl h14 (enters_of Try.func14 (by kernel_rfl) rfl)
    hseq kp_t (kp_b (by omega) (by omega) (by omega)) (Below.refl _ _) (fun _ => rfl)
    (fun pre W => (Boxed W w.heap.size 2 (.int .i64 (minW pre)) ∧ Boxed W (w.heap.size + 1) 4 (.bool (!pre.isEmpty))) ∧ Below w.heap.size w W)
    (fun _ _ _ => False)
    (OwnFrom.and (OwnFrom.and (Own.from (boxed_own _ _ _) _) (Own.from (boxed_own _ _ _) _)) (ownFrom_below (Nat.le_refl _) (by omega)))
    (fun _ _ _ _ _ hs _ _ => hs)
    ⟨⟨b1, b2⟩, hB0⟩
    (fun x => { tmps := #[Value.slice A0 xs.length c0, Value.bool real, Value.int IntKind.i64 now, undef, undef, undef,
          Value.int IntKind.i64 0, Value.pointer (some { block := w.heap.size, off := 0 }),
          Value.pointer (some { block := w.heap.size + 1, off := 0 }), .int .i64 x, Value.slice A0 xs.length c0,
          Value.bool real,
          Value.func (Fn.func 14) #[]
            #[Value.pointer (some { block := w.heap.size + 1 + 1, off := 0 }),
              Value.pointer (some { block := w.heap.size + 1 + 1 + 1, off := 0 })],
          .int .i64 x, undef, undef, undef, undef, undef, undef, undef, undef], defers := [] }) ?assign ?body ?done ?stop
  case assign =>
    intro l x W K hK
    gi_wp2
    exact hK
  case body =>
    rintro l pre x W ⟨⟨c1, c2⟩, hB⟩ _
    have hc1 := c1.cell
    have hf1 := c1.frozen
    have hc2 := (c2.other (B' := w.heap.size) (by omega)) 
    have hc2c := fun u => (hc2 u).cell
    have hc2f := fun u => (hc2 u).frozen
    clear hseq b1 b2 b3 b4 hr0 hB0
    gi_wp2
    · have hx : x < minW pre := by assumption
      exact body_end c1 c2 hB (minW_lt hx).symm
    · have hx : minW pre ≤ x := by assumption
      exact body_end c1 c2 hB (minW_ge hx).symm
  case done =>
    rintro D ys W hD rfl ⟨⟨c1, c2⟩, hB⟩ hK
    have hl := hB.trans (belowK_b (w := w) (Nat.le_refl _) W D _ (.deferred none) (by omega) hK rfl rfl)
    have hc1 := c1.cell
    by_cases he : endsOf xs real = []
    · have hc2 : W.cell? ⟨w.heap.size + 1, 0, none⟩ = some (.bool false) := by rw [c2.cell, he]; rfl
      have hb : bestOf xs real now = 9223372036854775807 := by unfold bestOf; rw [if_pos he]
      have Hb := Lib.hid hb
      clear hb he hseq b1 b2 b3 b4 hr0 hB0 c1 c2
      gi_wp2
      refine ⟨by simp, .inl ⟨_, _, rfl, run_takeDeferred hK, ?_⟩⟩
      exact ⟨_, results_tmp rfl _ _ _, by rw [Hb.out]; rfl, hl⟩
    · have hc2 : W.cell? ⟨w.heap.size + 1, 0, none⟩ = some (.bool true) := by
        rw [c2.cell]
        cases h : endsOf xs real with
        | nil => exact absurd h he
        | cons _ _ => rfl
      have hb : bestOf xs real now = if minW (endsOf xs real) < now then now else minW (endsOf xs real) := by unfold bestOf; rw [if_neg he]
      generalize minW (endsOf xs real) = m at hb hc1 c1
      have Hb := Lib.hid hb
      clear hb he hseq b1 b2 b3 b4 hr0 hB0 c1 c2
      gi_wp2
      · have hx : m < now := by assumption
        refine ⟨by simp, .inl ⟨_, _, rfl, run_takeDeferred hK, ?_⟩⟩
        exact ⟨_, results_tmp rfl _ _ _, by rw [Hb.out, if_pos hx]; rfl, hl⟩
      · have hx : now ≤ m := by assumption
        refine ⟨by simp, .inl ⟨_, _, rfl, run_takeDeferred hK, ?_⟩⟩
        exact ⟨_, results_tmp rfl _ _ _, by rw [Hb.out, if_neg (by omega)]; rfl, hl⟩
  case stop =>
    rintro D c pre W _ _ h _
    exact h.elim

theorem Best_calls (A0 : Option Addr) (c0 : Nat) (xs : List S34) (real : Bool) (now : Int) (w : World) (hr0 : Kd.C k34 w A0 xs.length xs) :
    Calls Try.prog 11 #[.slice A0 xs.length c0, .bool real, .int .i64 now] w fun e W' => e = .returned (.int .i64 (bestOf xs real now)) ∧ Below w.heap.size w W' :=
  callsIn_wide.1 (Best_in Fence.wide 3 trivial trivial trivial rfl (Nat.le_refl _) A0 c0 xs real now w hr0)

theorem Ask1_calls (B : Nat) (A0 : Option Addr) (c0 : Nat) (xs : List S34) (real : Bool) (now : Int) (w0 w : World) (hr0 : Kd.C k34 w0 A0 xs.length xs) (hb : Below w0.heap.size w0 w) (hB : Boxed w B 22 (.slice A0 xs.length c0)) :
    Calls Try.prog 12 #[.bool real, .int .i64 now, .pointer (some ⟨B, 0, none⟩)] w fun e W' => e = .returned (.int .i64 (bestOf xs real now)) ∧ Below w.heap.size w W' := by
  have hC := Best_calls A0 c0 xs real now w (Kd.C_below hr0 hb)
  have hc := hB.cell
  have HC := Lib.hid hC
  clear hC hr0 hb hB
  go_enter Try.func12, Try.ntmps12
  go_wp2_with (go_at_call 11; refine HC.out.mono ?_; rintro e w' ⟨rfl, hb'⟩)
  go_ret
  exact ⟨rfl, hb'⟩

theorem two_cell (w : World) (o : Obj) (cs : Array Value) (t : TypeId) (j : Nat) : ((w.alloc o).alloc (.cells cs t)).cell? ⟨w.heap.size + 1, j, none⟩ = cs[j]? := by
  have h := World.alloc_heap_new (w.alloc o) (.cells cs t)
  rw [World.size_alloc] at h
  unfold World.cell?
  rw [h]
  rfl
def AskS (w : World) (A0 : Option Addr) (c0 : Nat) (xs : List S34) (re mo : Int) (w' : World) : Prop :=
  Below w.heap.size w w' ∧ Boxed w' w.heap.size 22 (.slice A0 xs.length c0) ∧ w'.cell? ⟨w.heap.size + 1, 0, none⟩ = some (.int .i64 re) ∧ w'.cell? ⟨w.heap.size + 1, 1, none⟩ = some (.int .i64 mo)
theorem AskS.step {w : World} {A0 : Option Addr} {c0 : Nat} {xs : List S34} {re mo : Int} {W W' : World} (h : AskS w A0 c0 xs re mo W) (hb : Below W.heap.size W W') : AskS w A0 c0 xs re mo W' :=
  ⟨h.1.trans (hb.mono h.1.size), (hb.block _ h.2.1.lt).trans h.2.1, (hb.cell (World.block_lt_of_cell? W _ h.2.2.1)).trans h.2.2.1, (hb.cell (World.block_lt_of_cell? W _ h.2.2.2)).trans h.2.2.2⟩

set_option maxRecDepth 100000 in
set_option maxHeartbeats 1000000 in
theorem Ask_calls (A0 : Option Addr) (c0 : Nat) (xs : List S34) (re mo : Int) (w : World) (hr0 : Kd.C k34 w A0 xs.length xs) :
    Calls Try.prog 9 #[.slice A0 xs.length c0, .agg #[.int .i64 re, .int .i64 mo]] w fun e W' => e = .returned (.tuple #[.int .i64 (bestOf xs true re), .int .i64 (bestOf xs false mo)]) ∧ Below w.heap.size w W' := by
  have HR := Lib.hid hr0
  clear hr0
  go_enter Try.func9, Try.ntmps9
  go_wp2
  obtain ⟨W1, hW1, hS1⟩ : ∃ W1, (w.alloc (Obj.cells #[Value.slice A0 xs.length c0] 22)).alloc (Obj.cells #[Value.int IntKind.i64 re, Value.int IntKind.i64 mo] 24) = W1 ∧ AskS w A0 c0 xs re mo W1 :=
    ⟨_, rfl, ((Below.refl _ w).alloc (Nat.le_refl _) _).alloc (by simp) _, ((Boxed.new w 22 (.slice A0 xs.length c0)).alloc _), two_cell w _ _ _ 0, two_cell w _ _ _ 1⟩
  rw [hW1]
  clear hW1
  go_region_held3 (fun w' => Below w.heap.size w w' ∧ Boxed w' w.heap.size 22 (.slice A0 xs.length c0) ∧ w'.cell? ⟨w.heap.size + 1, 0, none⟩ = some (.int .i64 re) ∧ w'.cell? ⟨w.heap.size + 1, 1, none⟩ = some (.int .i64 mo))
    (first | exact ⟨hS1.1.drew, hS1.2.1, hS1.2.2.1, hS1.2.2.2⟩ | exact AskS.step (W := W1.drew) ⟨hS1.1.drew, hS1.2.1, hS1.2.2.1, hS1.2.2.2⟩ hb | (refine AskS.step ?_ hb; unfold AskS; assumption))
    ((go_at_call 12; refine (Ask1_calls _ A0 c0 xs _ _ w _ HR.out (by first | exact hS1.1.drew | assumption | (go_split_ands; assumption)) (by first | exact hS1.2.1 | assumption | (go_split_ands; assumption))).mono ?_; rintro e w' ⟨rfl, hb⟩))
  go_wp2
  go_split_ands
  go_ret2
  exact ⟨rfl, by assumption⟩
end Go.Proofs.Ytifeepkknlglbaa.Ends
