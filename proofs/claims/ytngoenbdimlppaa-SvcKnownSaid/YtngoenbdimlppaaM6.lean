/- The contracts of the machine's exported methods that call nothing through the map: State, Due, Running, New, Copy, Start, Stop. -/
import Derived.Test.YtngoenbdimlppaaM5
import Derived.Deep.MidRow
import Derived.Laws.IdiomCopy
namespace Go.Proofs.Ytngoenbdimlppaa.Svc
open Go.RowKit Go.Proofs.YtngoenbdimlppaaW.PrintWords Go.Proofs.YtngoenbdimlppaaW.PrintLast Go.Proofs.YtngoenbdimlppaaW.PrintMore
set_option linter.unusedVariables false
set_option linter.unusedSimpArgs false
set_option maxRecDepth 100000

theorem state_calls (g : Nat) (F : FV) (s : MS) (w : World) (h : MB w g F s) :
    Calls Try.prog 14 #[.pointer (some ⟨g, 0, none⟩)] w fun e w' => e = .returned (.int .u8 s.st) ∧ w = w' := by
  have h25 := h.c25
  clear h
  go_enter Try.func14, Try.ntmps14
  go_wp2
  go_ret
  exact ⟨rfl, rfl⟩
theorem due_calls (g : Nat) (F : FV) (s : MS) (w : World) (h : MB w g F s) :
    Calls Try.prog 15 #[.pointer (some ⟨g, 0, none⟩)] w fun e w' => e = .returned (.int .i64 s.due) ∧ w = w' := by
  have h27 := h.c27
  clear h
  go_enter Try.func15, Try.ntmps15
  go_wp2
  go_ret
  exact ⟨rfl, rfl⟩
theorem running_calls (g : Nat) (F : FV) (s : MS) (w : World) (h : MB w g F s) :
    Calls Try.prog 16 #[.pointer (some ⟨g, 0, none⟩)] w fun e w' => e = .returned (.bool s.runs) ∧ w = w' := by
  have h26 := h.c26
  clear h
  go_enter Try.func16, Try.ntmps16
  go_wp2
  go_ret
  exact ⟨rfl, rfl⟩

theorem range_blk {w : World} {b : Nat} {t : TypeId} {cs : Array Value} (h : w.heap[b]? = some (.cells cs t (0, 0))) : w.rangeAt b 0 cs.toList := fun j v hv => by
  rw [Nat.zero_add, blk_cell h j]; simpa using hv
theorem there_blk {w : World} {b n : Nat} {t : TypeId} {cs : Array Value} (h : w.heap[b]? = some (.cells cs t (0, 0))) (hn : n ≤ cs.size) : w.there b 0 n := fun j hj => by
  rw [Nat.zero_add]
  refine ⟨?_, blk_frozen h j⟩
  rw [blk_cell h j, Array.getElem?_eq_getElem (by omega)]; rfl
theorem setCells_blk {b : Nat} {t : TypeId} : ∀ (vs pre : List Value) (o : Nat) (w : World) (a : Array Value), w.heap[b]? = some (.cells a t (0, 0)) → o + vs.length = a.size → a.toList.take o = pre → (w.setCells b o vs).heap[b]? = some (.cells (pre ++ vs).toArray t (0, 0))
  | [], pre, o, w, a, h, hl, hp => by
    have hs : a.toList.length = a.size := by simp
    rw [List.take_of_length_le (by simp at hl; omega)] at hp
    simp only [World.setCells, List.append_nil, ← hp]
    exact h
  | v :: r, pre, o, w, a, h, hl, hp => by
    have hs : a.toList.length = a.size := by simp
    have hlt : o < a.size := by simp at hl; omega
    have := setCells_blk r (pre ++ [v]) (o + 1) (w.setCell ⟨b, o, none⟩ v) (a.setIfInBounds o v) (blk_set h o v) (by simp at hl ⊢; omega) (by
      rw [Array.toList_setIfInBounds, List.take_succ_eq_append_getElem (by simp; exact hlt), List.getElem_set_self, List.take_set_of_le (Nat.le_refl _), hp])
    simpa [World.setCells] using this
theorem below_setCellsB {B : Nat} {a : World} (b : Nat) (hb : B ≤ b) : ∀ (vs : List Value) (o : Nat) {w : World}, Below B a w → Below B a (w.setCells b o vs)
  | [], _, _, h => h
  | v :: r, o, _, h => below_setCellsB b hb r (o + 1) (h.setCell hb v)

def newS : MS := ⟨1, false, 9223372036854775807, false⟩
theorem new_calls (F : FV) (w : World) :
    Calls Try.prog 20 #[.agg (fc F)] w fun e w' => ∃ g, e = .returned (.pointer (some ⟨g, 0, none⟩)) ∧ w.heap.size ≤ g ∧ MB w' g F newS ∧ Below w.heap.size w w' := by
  have hu36 := Try.underlying36
  have hu67 := Try.underlying67
  go_enter Try.func20, Try.ntmps20
  go_wp2_with (first
    | ((with_reducible refine gate_dst (N := 1) rfl ?_); refine box_event ?hg (N := 1) ?hd (cs := fc F) (t := 36) ?hr ?_; (case hd => rfl); (case hg => rfl); (case hr => first | (go_simp; done) | (go_simp; rfl)); intro g1 e1 w1 h1 b1; have E1 := Lib.hid e1; have H1 := Lib.hid h1; have B1 := Lib.hid b1; clear e1 h1 b1)
    | ((with_reducible refine gate_dst (N := 3) rfl ?_); refine wpList_load_mid rfl 36 _ rfl g1 0 rfl _ _ (range_blk H1.out) hu36 rfl (by kernel_rfl) ?_)
    | ((with_reducible refine gate_dst (N := 5) rfl ?_); refine box_event ?hg (N := 5) ?hd (cs := mc F newS) (t := 67) ?hr ?_; (case hd => rfl); (case hg => rfl); (case hr => first | (go_simp; done) | (go_simp; rfl)); intro g2 e2 w2 h2 b2; have E2 := Lib.hid e2; have H2 := Lib.hid h2; have B2 := Lib.hid b2; clear e2 h2 b2))
  go_ret
  exact ⟨g2, rfl, by rw [E2.out]; exact B1.out.size, H2.out, B1.out.trans (B2.out.mono B1.out.size)⟩
theorem mc_one (F : FV) (s : MS) : (mc F s).all (·.oneCell') = true := by simp [mc, Value.oneCell']
def zc : Array Value := #[.int .u8 0, .slice none 0 0, .slice none 0 0, .slice none 0 0, .slice none 0 0, .slice none 0 0, .slice none 0 0, .slice none 0 0, .bool false, .int .i64 0, .int .i64 0, .int .u8 0, .bool false, .int .u8 0, .int .i64 0, .int .i64 0, .int .i64 0, .slice none 0 0, .slice none 0 0, .int .i64 0, .int .i64 0, .bool false, .bool false, .bool false, .string ⟨#[]⟩, .int .u8 0, .bool false, .int .i64 0, .bool false]
theorem copy_calls (g : Nat) (F : FV) (s : MS) (w : World) (h : MB w g F s) :
    Calls Try.prog 17 #[.pointer (some ⟨g, 0, none⟩)] w fun e w' => ∃ g', e = .returned (.pointer (some ⟨g', 0, none⟩)) ∧ w.heap.size ≤ g' ∧ MB w' g' F s ∧ Below w.heap.size w w' := by
  have hu67 := Try.underlying67
  have H := Lib.hid h
  clear h
  go_enter Try.func17, Try.ntmps17
  go_wp2_with (first
    | ((with_reducible refine gate_dst (N := 8) rfl ?_); refine wpList_load_mid rfl 67 _ rfl g 0 rfl (mc F s).toList _ (range_blk H.out) hu67 rfl (by kernel_rfl) ?_)
    | ((with_reducible refine gate_dst (N := 3) rfl ?_); refine box_event ?hg (N := 3) ?hd (cs := zc) (t := 67) ?hr ?_; (case hd => rfl); (case hg => rfl); (case hr => first | (go_simp; done) | (go_simp; rfl)); intro g1 e1 w1 h1 b1; have E1 := Lib.hid e1; have H1 := Lib.hid h1; have B1 := Lib.hid b1; clear e1 h1 b1)
    | ((with_reducible refine gate_store (t := 67) (p := 3) rfl ?_); refine wpList_store_mid rfl 67 _ _ rfl g1 0 (mc F s) rfl rfl (there_blk H1.out (by exact Nat.le_refl 29)) (by kernel_rfl) (mc_one F s) ?_; have h2 := setCells_blk (mc F s).toList [] 0 w1 zc H1.out rfl rfl; have b2 := below_setCellsB g1 (Nat.le_of_eq E1.out.symm) (mc F s).toList 0 B1.out; generalize w1.setCells g1 0 (mc F s).toList = w2 at h2 b2 ⊢; have H2 := Lib.hid h2; have B2 := Lib.hid b2; clear h2 b2))
  go_ret
  exact ⟨g1, rfl, Nat.le_of_eq E1.out.symm, H2.out, B2.out⟩

/-- What Start answers, and the state behind it. -/
def startV (F : FV) (s : MS) (now : Int) : (OV × Int) × MS :=
  if s.st = 4 then ((⟨false, false, false, 0⟩, 4), s) else if s.st = 2 then ((⟨false, false, false, 0⟩, 0), s)
  else if s.st = 3 then ((⟨false, false, false, 1⟩, 0), s) else (((beginV F s now).1, 0), (beginV F s now).2)
theorem start_calls (g : Nat) (F : FV) (s : MS) (now : Int) (w : World) (h : MB w g F s) (hn : R64 now) (hd : R64 F.up) :
    Calls Try.prog 10 #[.pointer (some ⟨g, 0, none⟩), .int .i64 now] w fun e w' => e = .returned (.tuple #[(startV F s now).1.1.v, .int .i64 (startV F s now).1.2]) ∧ MB w' g F (startV F s now).2 ∧ Stp g w w' := by
  have hu43 := Try.underlying43
  have hlt := h.lt
  have h25 := h.c25
  have H := Lib.hid h
  have HN := Lib.hid hn
  have HD := Lib.hid hd
  clear h hn hd
  unfold startV
  by_cases c4 : s.st = 4
  · rw [if_pos c4]
    have b4 : (s.st == 4) = true := by simpa using c4
    clear c4
    go_enter Try.func10, Try.ntmps10
    go_wp2
    refine bodyPost_ret (results_ct rfl _ _ w.heap.size 43 _ (0, 0) _ rfl (blk_new _ _) Try.underlying43 rfl (by kernel_rfl)) rfl ?_
    exact ⟨rfl, H.out.alloc _, (Stp.refl _ _).alloc _⟩
  rw [if_neg c4]
  have b4 : (s.st == 4) = false := by simpa using c4
  by_cases c2 : s.st = 2
  · rw [if_pos c2]
    have b2 : (s.st == 2) = true := by simpa using c2
    clear c4 c2
    go_enter Try.func10, Try.ntmps10
    go_wp2
    refine bodyPost_ret (results_ct rfl _ _ w.heap.size 43 _ (0, 0) _ rfl (blk_new _ _) Try.underlying43 rfl (by kernel_rfl)) rfl ?_
    exact ⟨rfl, H.out.alloc _, (Stp.refl _ _).alloc _⟩
  rw [if_neg c2]
  have b2 : (s.st == 2) = false := by simpa using c2
  by_cases c3 : s.st = 3
  · rw [if_pos c3]
    have b3 : (s.st == 3) = true := by simpa using c3
    clear c4 c2 c3
    go_enter Try.func10, Try.ntmps10
    go_wp2_with (first
      | (go_at_call 24; ((with_reducible refine (done_calls _).mono ?_); rintro e w2 ⟨rfl, hb⟩); have hm2 := (H.out.alloc _).below hb; have hx := blk_below (blk_new w _) hb; obtain ⟨k0, k1, k2, k3, q0, q1, q2, q3⟩ := box4 hx; have HM2 := Lib.hid hm2; have HB := Lib.hid hb; have HX := Lib.hid hx; clear hm2 hb hx))
    refine bodyPost_ret (results_ct rfl _ _ w.heap.size 43 _ (0, 0) _ rfl (put4 HX.out _ _ _ _) Try.underlying43 rfl (by kernel_rfl)) rfl ?_
    exact ⟨rfl, HM2.out.far4 (by omega) _ _ _ _, ((((Stp.refl g w).alloc _).trans (Stp.of_below HB.out)).box4 (Nat.le_refl _) _ _ _ _)⟩
  rw [if_neg c3]
  have b3 : (s.st == 3) = false := by simpa using c3
  clear c4 c2 c3
  go_enter Try.func10, Try.ntmps10
  go_wp2_with (first
    | (go_at_call 25; ((with_reducible refine (begin_calls g F s now _ (H.out.alloc _) HN.out HD.out).mono ?_); rintro e w1 ⟨rfl, hm, hs⟩); have hx := hs.blk (blk_new w _) (by omega); obtain ⟨k0, k1, k2, k3, q0, q1, q2, q3⟩ := box4 hx; have HX := Lib.hid hx; have HM := Lib.hid hm; have HS := Lib.hid hs; clear hm hs hx))
  refine bodyPost_ret (results_ct rfl _ _ w.heap.size 43 _ (0, 0) _ rfl (put4 HX.out _ _ _ _) Try.underlying43 rfl (by kernel_rfl)) rfl ?_
  exact ⟨rfl, HM.out.far4 (by omega) _ _ _ _, (HS.out.pre _).box4 (Nat.le_refl _) _ _ _ _⟩

/-- What Stop answers, and the state behind it. -/
def stopV (F : FV) (s : MS) (now : Int) : OV × MS :=
  if s.st = 4 then (⟨false, false, false, 0⟩, { s with late := false }) else if s.runs = true then (⟨false, true, false, 0⟩, killS F s now) else (⟨false, false, false, 1⟩, toS s 1)
theorem stop_calls (g : Nat) (F : FV) (s : MS) (now : Int) (w : World) (h : MB w g F s) (hn : R64 now) (hd : R64 F.dn) :
    Calls Try.prog 11 #[.pointer (some ⟨g, 0, none⟩), .int .i64 now] w fun e w' => e = .returned (.tuple #[(stopV F s now).1.v, .int .i64 0]) ∧ MB w' g F (stopV F s now).2 ∧ Stp g w w' := by
  have hu43 := Try.underlying43
  have hlt := h.lt
  have h25 := h.c25
  have h26 := h.c26
  have h28 := h.c28
  have f28 := h.fz 28
  have H := Lib.hid h
  have HN := Lib.hid hn
  have HD := Lib.hid hd
  clear h hn hd
  unfold stopV
  by_cases c4 : s.st = 4
  · rw [if_pos c4]
    have b4 : (s.st == 4) = true := by simpa using c4
    clear c4
    go_enter Try.func11, Try.ntmps11
    go_wp2
    have e : (w.setCell ⟨g, 28, none⟩ (.bool false)).heap.size = w.heap.size := World.size_setCell ..
    refine bodyPost_ret (results_ct rfl _ _ w.heap.size 43 _ (0, 0) _ rfl (by rw [← e]; exact blk_new _ _) Try.underlying43 rfl (by kernel_rfl)) rfl ?_
    exact ⟨rfl, (H.out.s28 _).alloc _, ((Stp.refl _ _).set _).alloc _⟩
  rw [if_neg c4]
  have b4 : (s.st == 4) = false := by simpa using c4
  clear c4
  cases hr : s.runs
  · rw [if_neg (by decide)]
    rw [hr] at h26
    clear hr
    go_enter Try.func11, Try.ntmps11
    go_wp2_with (first
      | (go_at_call 26; ((with_reducible refine (to_calls g F s 1 _ (H.out.alloc _)).mono ?_); rintro e w1 ⟨rfl, hm, hs⟩); have HM := Lib.hid hm; have HS := Lib.hid hs; clear hm hs)
      | (go_at_call 24; ((with_reducible refine (done_calls _).mono ?_); rintro e w2 ⟨rfl, hb⟩); have hm2 := HM.out.below hb; have hx := blk_below (HS.out.blk (blk_new w _) (by omega)) hb; obtain ⟨k0, k1, k2, k3, q0, q1, q2, q3⟩ := box4 hx; have HM2 := Lib.hid hm2; have HB := Lib.hid hb; have HX := Lib.hid hx; clear hm2 hb hx))
    refine bodyPost_ret (results_ct rfl _ _ w.heap.size 43 _ (0, 0) _ rfl (put4 HX.out _ _ _ _) Try.underlying43 rfl (by kernel_rfl)) rfl ?_
    exact ⟨rfl, HM2.out.far4 (by omega) _ _ _ _, ((HS.out.pre _).trans (Stp.of_below HB.out)).box4 (Nat.le_refl _) _ _ _ _⟩
  · rw [if_pos rfl]
    rw [hr] at h26
    clear hr
    go_enter Try.func11, Try.ntmps11
    go_wp2_with (first
      | (go_at_call 27; ((with_reducible refine (kill_calls g F s now _ (H.out.alloc _) HN.out HD.out).mono ?_); rintro e w1 ⟨rfl, hm, hs⟩); have hx := hs.blk (blk_new w _) (by omega); obtain ⟨k0, k1, k2, k3, q0, q1, q2, q3⟩ := box4 hx; have HX := Lib.hid hx; have HM := Lib.hid hm; have HS := Lib.hid hs; clear hm hs hx))
    refine bodyPost_ret (results_ct rfl _ _ w.heap.size 43 _ (0, 0) _ rfl (put4 HX.out _ _ _ _) Try.underlying43 rfl (by kernel_rfl)) rfl ?_
    exact ⟨rfl, HM.out.far4 (by omega) _ _ _ _, (HS.out.pre _).box4 (Nat.le_refl _) _ _ _ _⟩
end Go.Proofs.Ytngoenbdimlppaa.Svc
