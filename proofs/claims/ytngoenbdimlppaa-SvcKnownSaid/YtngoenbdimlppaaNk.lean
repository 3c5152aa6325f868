/- The walk of the law SvcKnown. -/
import Derived.Test.YtngoenbdimlppaaN9
import Derived.Deep.AppendLies
namespace Go.Proofs.Ytngoenbdimlppaa.Svc
open Go.RowKit Go.Proofs.YtngoenbdimlppaaW.PrintWords Go.Proofs.YtngoenbdimlppaaW.PrintLast Go.Proofs.YtngoenbdimlppaaW.PrintMore
open Go.Proofs.Ytngoenbdimlppaa.All (S25 k25 rd_T25 at_T25 S76 k76)
attribute [local go_sem high] eqA43
set_option linter.unusedVariables false
set_option linter.unusedSimpArgs false
set_option maxRecDepth 100000

/-- What is gathered so far. -/
def LL (w wr : World) (v : Value) (n : Nat) : Prop := ∃ ys : List Value, wr.ownsRow w.heap.size 26 1 v n ys ∧ Ys wr w.heap.size ys ∧ Below w.heap.size w wr
theorem fits7 (i j k : Nat) (hi : i < 4) (hj : j < 5) (hk : k < 4) : ∀ x ∈ ([⟨0, 0, 0⟩, ⟨i, (j : Int) % 2, 60⟩, ⟨j, (k : Int) % 2, 1000⟩, ⟨k, (i : Int) % 2, 100⟩, ⟨3, 0, 5000⟩, ⟨0, 0, 0⟩, ⟨2, 0, 0⟩] : List S25), Fit25 x := by
  intro x hx
  simp only [List.mem_cons, List.not_mem_nil, or_false] at hx
  unfold Fit25
  rcases hx with rfl | rfl | rfl | rfl | rfl | rfl | rfl <;> simp only [] <;> omega
abbrev f1 (rem : Bool) (c : Int) (a : Option Addr) (t : Int) : FV := { oneF rem c a with typ := t }
abbrev f2 (rem : Bool) (c : Int) (a : Option Addr) (t : Int) : FV := { oneF rem c a with typ := t, ex := ⟨none, 0, 0⟩ }
abbrev f3 (rem : Bool) (c : Int) (a : Option Addr) (t : Int) : FV := { oneF rem c a with typ := t, up := 9223372036854775807, dn := 9223372036854775807 }
abbrev f4 (k : Int) : FV := ⟨k, ⟨none, 0, 0⟩, ⟨none, 0, 0⟩, ⟨none, 0, 0⟩, ⟨none, 0, 0⟩, ⟨none, 0, 0⟩, ⟨none, 0, 0⟩, ⟨none, 0, 0⟩, false, 0, 0, 0, false, 0, 0, 0, 0, ⟨none, 0, 0⟩, ⟨none, 0, 0⟩, 0, 0, false, false, false, ⟨#[]⟩⟩
/-- A file that the law makes. -/
structure Good (F : FV) : Prop where
  ok : FileOK F
  kind : 0 ≤ F.kind ∧ F.kind ≤ 255
  typ : 0 ≤ F.typ ∧ F.typ ≤ 255
  rst : 0 ≤ F.rst ∧ F.rst ≤ 255
  tr : F.tr = ⟨none, 0, 0⟩
  ex : F.ex.n ≤ 64
theorem Good.fileIn {F : FV} (h : Good F) (w : World) : FileIn w F :=
  ⟨h.ok, h.kind, h.typ, h.rst, [], by rw [h.tr]; exact ⟨rfl, Nat.zero_le _, fun hh => absurd hh (Nat.lt_irrefl 0)⟩, by rw [h.tr]; rfl, by simp⟩
theorem r64s {x : Int} (h : -9223372036854775808 ≤ x ∧ x ≤ 9223372036854775807) : R64 x := h
theorem good_1 (rem : Bool) (c : Nat) (a : Option Addr) (t : Nat) (ht : t < 5) (hc : c < 6) : Good (f1 rem c a t) :=
  ⟨⟨r64s (by simp only [oneF]; omega), r64s (by simp only [oneF]; omega), r64s (by simp only [oneF]; omega)⟩, by simp only [oneF]; omega, by simp only []; omega, by simp only [oneF]; omega, rfl, by simp only [oneF]; omega⟩
theorem good_2 (rem : Bool) (c : Nat) (a : Option Addr) (t : Nat) (ht : t < 5) (hc : c < 6) : Good (f2 rem c a t) :=
  ⟨⟨r64s (by simp only [oneF]; omega), r64s (by simp only [oneF]; omega), r64s (by simp only [oneF]; omega)⟩, by simp only [oneF]; omega, by simp only []; omega, by simp only [oneF]; omega, rfl, by simp only []; omega⟩
theorem good_3 (rem : Bool) (c : Nat) (a : Option Addr) (t : Nat) (ht : t < 5) (hc : c < 6) : Good (f3 rem c a t) :=
  ⟨⟨r64s (by simp only [oneF]; omega), r64s (by simp only []; omega), r64s (by simp only []; omega)⟩, by simp only [oneF]; omega, by simp only []; omega, by simp only [oneF]; omega, rfl, by simp only [oneF]; omega⟩
theorem good_4 (t : Nat) : Good (f4 (1 + (t : Int) % 3)) :=
  ⟨⟨r64s (by simp only []; omega), r64s (by simp only []; omega), r64s (by simp only []; omega)⟩, by simp only []; omega, by simp only []; omega, by simp only []; omega, rfl, by simp only []; omega⟩
/-- Four files in a row. -/
abbrev fc4 (A B C D : FV) : Array Value := ((fc A).toList ++ ((fc B).toList ++ ((fc C).toList ++ (fc D).toList))).toArray
def fr (A B C D : FV) (r : Nat) : FV := if r = 0 then A else if r = 1 then B else if r = 2 then C else D
theorem good_fr {A B C D : FV} (h : Good A ∧ Good B ∧ Good C ∧ Good D) (r : Nat) : Good (fr A B C D r) := by
  unfold fr
  repeat' split
  · exact h.1
  · exact h.2.1
  · exact h.2.2.1
  · exact h.2.2.2
theorem app25 {X Y : List Value} (hX : X.length = 25) (j : Nat) : (X ++ Y)[25 + j]? = Y[j]? := by
  rw [List.getElem?_append_right (by omega), hX]; congr 1; omega
theorem range4 {w : World} {b : Nat} {A B C D : FV} (h : w.heap[b]? = some (.cells (fc4 A B C D) 36 (0, 0))) (r : Nat) (hr : r < 4) : w.rangeAt b (r * 25) (fc (fr A B C D r)).toList := fun j v hv => by
  have hj : j < 25 := by simpa using (List.getElem?_eq_some_iff.1 hv).1
  rw [blk_cell h, List.getElem?_toArray]
  rcases (by omega : r = 0 ∨ r = 1 ∨ r = 2 ∨ r = 3) with rfl | rfl | rfl | rfl
  · rw [show 0 * 25 + j = j by omega, List.getElem?_append_left (by simpa using hj)]; exact hv
  · rw [show 1 * 25 + j = 25 + j by omega, app25 (by rfl), List.getElem?_append_left (by simpa using hj)]; exact hv
  · rw [show 2 * 25 + j = 25 + (25 + j) by omega, app25 (by rfl), app25 (by rfl), List.getElem?_append_left (by simpa using hj)]; exact hv
  · rw [show 3 * 25 + j = 25 + (25 + (25 + j)) by omega, app25 (by rfl), app25 (by rfl), app25 (by rfl)]; exact hv
theorem k_plays (F : FV) (b : Nat) (l : List S25) (W : World) {w0 : World} (hg : Good F) (hl : l.length = 7) (hf : ∀ x ∈ l, Fit25 x) (hC : Kd.C k25 W (some ⟨b, 0, none⟩) 7 (l.take 7)) (hW : Below w0.heap.size w0 W) :
    Calls Try.prog 9 #[.agg (fc F), .slice (some ⟨b, 0, none⟩) 7 7] W fun e w' => e = .returned (.bool true) ∧ Below w0.heap.size w0 w' := by
  rw [List.take_of_length_le (by omega)] at hC
  have := plays_calls F (some ⟨b, 0, none⟩) 7 l W (hg.fileIn W) (by rw [hl]; exact hC) (by omega) hf (by omega) hg.ex
  rw [hl] at this
  exact this.mono fun e w' ⟨h1, h2⟩ => ⟨h1, hW.trans (h2.mono hW.size)⟩
theorem k_process (F : FV) (b : Nat) (l : List S25) (W : World) {w0 : World} (hg : Good F) (hl : l.length = 7) (hf : ∀ x ∈ l, Fit25 x) (hC : Kd.C k25 W (some ⟨b, 0, none⟩) 7 (l.take 7)) (hW : Below w0.heap.size w0 W) :
    Calls Try.prog 7 #[.agg (fc F), .slice (some ⟨b, 0, none⟩) 7 7] W fun e w' => e = .returned (.bool true) ∧ Below w0.heap.size w0 w' := by
  rw [List.take_of_length_le (by omega)] at hC
  have := process_calls F (some ⟨b, 0, none⟩) 7 l W hg.ok (by rw [hl]; exact hC) (by omega) hf (by omega)
  rw [hl] at this
  exact this.mono fun e w' ⟨h1, h2⟩ => ⟨h1, hW.trans (h2.mono hW.size)⟩
theorem k_results (F : FV) (b : Nat) (l : List S25) (m : Nat) (ex : Bool) (code : Int) (W : World) {w0 : World} (hg : Good F) (hl : l.length = 7) (hf : ∀ x ∈ l, Fit25 x) (hm : m ≤ 7) (hC : Kd.C k25 W (some ⟨b, 0, none⟩) m (l.take m)) (hW : Below w0.heap.size w0 W) :
    Calls Try.prog 5 #[.agg (fc F), .slice (some ⟨b, 0, none⟩) m 7, .bool ex, .int .i64 code] W fun e w' => e = .returned (.bool true) ∧ Below w0.heap.size w0 w' := by
  have hlen : (l.take m).length = m := by simp; omega
  have := results_calls F (some ⟨b, 0, none⟩) 7 (l.take m) ex code W (hg.fileIn W) (by rw [hlen]; exact hC) (by omega) (fun x hx => hf x (List.mem_of_mem_take hx)) (by omega)
  rw [hlen] at this
  exact this.mono fun e w' ⟨h1, h2⟩ => ⟨h1, hW.trans (h2.mono hW.size)⟩
theorem k_stops (F : FV) (b : Nat) (l : List S25) (m : Nat) (ex : Bool) (code : Int) (W : World) {w0 : World} (hg : Good F) (hl : l.length = 7) (hf : ∀ x ∈ l, Fit25 x) (hm : m ≤ 7) (hC : Kd.C k25 W (some ⟨b, 0, none⟩) m (l.take m)) (hW : Below w0.heap.size w0 W) :
    Calls Try.prog 6 #[.agg (fc F), .slice (some ⟨b, 0, none⟩) m 7, .bool ex, .int .i64 code] W fun e w' => e = .returned (.bool true) ∧ Below w0.heap.size w0 w' := by
  have hlen : (l.take m).length = m := by simp; omega
  have := stops_calls F (some ⟨b, 0, none⟩) 7 (l.take m) ex code W (hg.fileIn W) (by rw [hlen]; exact hC) (by omega) (fun x hx => hf x (List.mem_of_mem_take hx)) (by omega)
  rw [hlen] at this
  exact this.mono fun e w' ⟨h1, h2⟩ => ⟨h1, hW.trans (h2.mono hW.size)⟩
theorem LL.nil (w : World) : LL w w (.slice none 0 0) 0 := ⟨[], World.ownsRow_nil .., (fun _ h => by cases h), Below.refl _ _⟩

set_option maxHeartbeats 8000000 in
theorem known_calls (w : World) : Calls Try.prog 3 #[] w fun e w' => e = .returned (.bool true) ∧ Below w.heap.size w w' := by
  have hu22 := Try.underlying22
  have hu25 := Try.underlying25
  have hu26 := Try.underlying26
  have hu36 := Try.underlying36
  have hu38 := Try.underlying38
  have hu43 := Try.underlying43
  obtain ⟨i0, hi0, hz0, hz1, hz2⟩ := info_parts info26
  go_enter Try.func3, Try.ntmps3
  go_wp2
  go_loopw [1, 2] (fun lv x wr => ∃ n : Nat, n ≤ 4 ∧ x = .int .u8 n ∧ LL w wr lv (n * 20)) (fun _ x _ => 4 - (intOf x).toNat)
  case atStart => exact ⟨0, Nat.zero_le _, rfl, LL.nil w⟩
  case round =>
    obtain ⟨i, hi, rfl, hLLi⟩ := hrel
    by_cases ci : i < 4
    · have bi : decide ((i : Int) < 4) = true := decide_eq_true (by omega)
      have HLi := Lib.hid hLLi
      clear hLLi
      go_wp2
      go_loopw [1, 3] (fun lv x wr => ∃ n : Nat, n ≤ 5 ∧ x = .int .u8 n ∧ LL w wr lv (i * 20 + n * 4)) (fun _ x _ => 5 - (intOf x).toNat)
      case atStart => exact ⟨0, Nat.zero_le _, rfl, by simpa using HLi.out⟩
      case round =>
        obtain ⟨j, hj, rfl, hLLj⟩ := hrel
        by_cases cj : j < 5
        · have bj : decide ((j : Int) < 5) = true := decide_eq_true (by omega)
          have HLj := Lib.hid hLLj
          clear hLLj HLi
          go_wp2
          go_loopw [1, 4] (fun lv x wr => ∃ n : Nat, n ≤ 4 ∧ x = .int .u8 n ∧ LL w wr lv (i * 20 + j * 4 + n)) (fun _ x _ => 4 - (intOf x).toNat)
          case atStart => exact ⟨0, Nat.zero_le _, rfl, by simpa using HLj.out⟩
          case round =>
            obtain ⟨k, hk, rfl, hLLk⟩ := hrel
            by_cases ck : k < 4
            · have bk : decide ((k : Int) < 4) = true := decide_eq_true (by omega)
              clear HLj
              obtain ⟨ys, hO, hY, hB⟩ := hLLk
              have HO := Lib.hid hO
              have HY := Lib.hid hY
              have HB := Lib.hid hB
              have hsz := hB.size
              have HNA := Lib.hid (fun (o1 o2 : Obj) => (show ((wr.alloc o1).alloc o2).heap[wr.heap.size + 1]? = some o2 from blk_new2 wr o1 o2))
              clear hO hY hB
              go_wp2_with (first
                | (at_builtin; refine wpList_append_lies _ rfl _ _ _ rfl w.heap.size 26 i0 _ 1 24 Try.underlying22 hi0 hz0 hz1 hz2 rfl (by omega) u1 (i * 20 + j * 4 + k) ys rfl ((HO.out.alloc _).alloc _) ⟨wr.heap.size + 1, 0, none⟩ 1 1 [.slice (some ⟨wr.heap.size, 0, none⟩) 7 7] rfl rfl (World.news_of_block (cs := #[.slice (some ⟨wr.heap.size, 0, none⟩) 7 7]) (t := 26) (fr := (0, 0)) (HNA.out _ _)) (by simp [Value.oneCell']) (by omega) (by unfold maxLen; omega) (by omega) (by simp; omega) (wr.heap.size + 2) (by simp) ?_; intro gg cap w1 hown1 hgrow hat hlt1; have HO1 := Lib.hid hown1; have HGR := Lib.hid hgrow; clear hown1 hgrow hat))
              go_roundw
              case rel =>
                have hY2 := ys_step HO.out HY.out hsz ⟨0, 0, 0⟩ ⟨i, (j : Int) % 2, 60⟩ ⟨j, (k : Int) % 2, 1000⟩ ⟨k, (i : Int) % 2, 100⟩ ⟨3, 0, 5000⟩ ⟨0, 0, 0⟩ ⟨2, 0, 0⟩ (fits7 i j k ci cj ck) _ HGR.out
                exact ⟨k + 1, by omega, by go_num, _, HO1.out, hY2, ((HB.out.alloc hsz _).alloc (by simp; omega) _).grown HGR.out (by simp; omega) (own_base HO.out)⟩
              case measure => simp [intOf]; omega
            · have bk : decide ((k : Int) < 4) = false := decide_eq_false (by omega)
              clear HLj
              have HLk := Lib.hid hLLk
              clear hLLk
              go_wp2
              go_roundw
              case rel => exact ⟨j + 1, by omega, by go_num, by have := HLk.out; rw [show k = 4 by omega] at this; simpa [Nat.add_mul, Nat.add_assoc] using this⟩
              case measure => simp [intOf]; omega
        · have bj : decide ((j : Int) < 5) = false := decide_eq_false (by omega)
          clear HLi
          have HLj := Lib.hid hLLj
          clear hLLj
          go_wp2
          go_roundw
          case rel => exact ⟨i + 1, by omega, by go_num, by have := HLj.out; rw [show j = 5 by omega] at this; simpa [Nat.add_mul] using this⟩
          case measure => simp [intOf]; omega
    · have bi : decide ((i : Int) < 4) = false := decide_eq_false (by omega)
      rw [show i * 20 = 80 by omega] at hLLi
      obtain ⟨ys, hO, hY, hB⟩ := hLLi
      obtain ⟨gl, lcap, rfl, hgl, hgl2⟩ := hO.form (by omega)
      obtain ⟨wL, hwL⟩ : ∃ x, x = wr := ⟨_, rfl⟩
      rw [← hwL] at hO hY hB hgl2 ⊢
      clear hwL
      have HO := Lib.hid hO
      have HY := Lib.hid hY
      have HBL := Lib.hid hB
      clear hO hY hB
      go_wp2
      go_loopw [5] (fun x wr => ∃ n : Nat, n ≤ 5 ∧ x = .int .u8 n ∧ Below wL.heap.size wL wr) (fun x _ => 5 - (intOf x).toNat)
      case atStart => exact ⟨0, Nat.zero_le _, rfl, Below.refl _ _⟩
      case round =>
        obtain ⟨t, ht, rfl, hBt⟩ := hrel
        have HBt := Lib.hid hBt
        clear hBt
        by_cases ct : t < 5
        · have bt : decide ((t : Int) < 5) = true := decide_eq_true (by omega)
          go_wp2
          go_loopw [6] (fun x wr => ∃ n : Nat, n ≤ 6 ∧ x = .int .u8 n ∧ Below wL.heap.size wL wr) (fun x _ => 6 - (intOf x).toNat)
          case atStart => exact ⟨0, Nat.zero_le _, rfl, HBt.out⟩
          case round =>
            obtain ⟨c, hc, rfl, hBc⟩ := hrel
            have HBc := Lib.hid hBc
            clear hBc HBt
            by_cases cc : c < 6
            · have bc : decide ((c : Int) < 6) = true := decide_eq_true (by omega)
              go_wp2_with (first
                | (go_at_call 8; ((with_reducible refine (oneF_calls _ _ _).mono ?_); rintro e w1 ⟨a1, rfl, b1⟩); have B1 := Lib.hid (HBc.out.trans (b1.mono HBc.out.size)); clear b1)
                | ((with_reducible refine gate_dst (N := 7) rfl ?_); refine box_event ?hg (N := 7) ?hd (cs := zf) (t := 36) ?hr ?_; (case hd => rfl); (case hg => rfl); (case hr => first | (go_simp; done) | (go_simp; rfl)); intro g7 e7 w7a h7a b7a; have HZ7 := Lib.hid h7a; have G7 := Lib.hid (show wL.heap.size ≤ g7 by rw [e7]; exact B1.out.size); have B7a := Lib.hid (B1.out.trans (b7a.mono B1.out.size)); clear e7 h7a b7a)
                | ((with_reducible refine gate_store (t := 36) (p := 7) rfl ?_); refine wpList_store_all rfl 36 _ _ rfl g7 zf (fc (oneF ((c : Int) % 2 == 0) c a1)) 36 rfl rfl HZ7.out rfl (by kernel_rfl) (fc_one _) ?_; intro w7b h7b s7b; have k7 : w7b.cell? ⟨g7, 11, none⟩ = some (.int .u8 2) := (blk_cell h7b 11).trans rfl; have q7 := blk_frozen h7b 11; have H7 := Lib.hid (show (w7b.setCell ⟨g7, 11, none⟩ (.int .u8 t)).heap[g7]? = some (.cells (fc (f1 ((c : Int) % 2 == 0) c a1 t)) 36 (0, 0)) from blk_put h7b 11 _ rfl); have B7 := Lib.hid ((B7a.out.trans (s7b.below G7.out B7a.out.size)).setCell (p := ⟨g7, 11, none⟩) G7.out (.int .u8 t)); clear h7b s7b)
                | ((with_reducible refine gate_dst (N := 70) rfl ?_); refine wpList_load_mid rfl 36 _ rfl g7 0 rfl (fc (f1 ((c : Int) % 2 == 0) c a1 t)).toList _ (range_blk (H7.out)) hu36 rfl (by kernel_rfl) ?_)
                | ((with_reducible refine gate_dst (N := 8) rfl ?_); refine box_event ?hg (N := 8) ?hd (cs := zf) (t := 36) ?hr ?_; (case hd => rfl); (case hg => rfl); (case hr => first | (go_simp; done) | (go_simp; rfl)); intro g8 e8 w8a h8a b8a; have HZ8 := Lib.hid h8a; have G8 := Lib.hid (show wL.heap.size ≤ g8 by rw [e8]; exact B7.out.size); have N78 := Lib.hid (show g7 ≠ g8 by rw [e8]; exact Nat.ne_of_lt (blk_lt H7.out)); have H7a8 := Lib.hid (blk_below H7.out b8a); have B8a := Lib.hid (B7.out.trans (b8a.mono B7.out.size)); clear e8 h8a b8a)
                | ((with_reducible refine gate_store (t := 36) (p := 8) rfl ?_); refine wpList_store_all rfl 36 _ _ rfl g8 zf (fc (f1 ((c : Int) % 2 == 0) c a1 t)) 36 rfl rfl HZ8.out rfl (by kernel_rfl) (fc_one _) ?_; intro w8b h8b s8b; have k8 : w8b.cell? ⟨g8, 17, none⟩ = some (.slice a1 1 1) := (blk_cell h8b 17).trans rfl; have q8 := blk_frozen h8b 17; have H8 := Lib.hid (show (w8b.setCell ⟨g8, 17, none⟩ (.slice none 0 0)).heap[g8]? = some (.cells (fc (f2 ((c : Int) % 2 == 0) c a1 t)) 36 (0, 0)) from blk_put h8b 17 _ rfl); have H78 := Lib.hid (blk_far (p := ⟨g8, 17, none⟩) (s8b.blk H7a8.out N78.out) N78.out (.slice none 0 0)); have B8 := Lib.hid ((B8a.out.trans (s8b.below G8.out B8a.out.size)).setCell (p := ⟨g8, 17, none⟩) G8.out (.slice none 0 0)); clear h8b s8b)
                | ((with_reducible refine gate_dst (N := 73) rfl ?_); refine wpList_load_mid rfl 36 _ rfl g7 0 rfl (fc (f1 ((c : Int) % 2 == 0) c a1 t)).toList _ (range_blk (H78.out)) hu36 rfl (by kernel_rfl) ?_)
                | ((with_reducible refine gate_dst (N := 9) rfl ?_); refine box_event ?hg (N := 9) ?hd (cs := zf) (t := 36) ?hr ?_; (case hd => rfl); (case hg => rfl); (case hr => first | (go_simp; done) | (go_simp; rfl)); intro g9 e9 w9a h9a b9a; have HZ9 := Lib.hid h9a; have G9 := Lib.hid (show wL.heap.size ≤ g9 by rw [e9]; exact B8.out.size); have N79 := Lib.hid (show g7 ≠ g9 by rw [e9]; exact Nat.ne_of_lt (blk_lt H78.out)); have N89 := Lib.hid (show g8 ≠ g9 by rw [e9]; exact Nat.ne_of_lt (blk_lt H8.out)); have H7a9 := Lib.hid (blk_below H78.out b9a); have H8a9 := Lib.hid (blk_below H8.out b9a); have B9a := Lib.hid (B8.out.trans (b9a.mono B8.out.size)); clear e9 h9a b9a)
                | ((with_reducible refine gate_store (t := 36) (p := 9) rfl ?_); refine wpList_store_all rfl 36 _ _ rfl g9 zf (fc (f1 ((c : Int) % 2 == 0) c a1 t)) 36 rfl rfl HZ9.out rfl (by kernel_rfl) (fc_one _) ?_; intro w9b h9b s9b; have k9 : w9b.cell? ⟨g9, 15, none⟩ = some (.int .i64 1000) := (blk_cell h9b 15).trans rfl; have k9' : w9b.cell? ⟨g9, 16, none⟩ = some (.int .i64 50) := (blk_cell h9b 16).trans rfl; have q9 := blk_frozen h9b 15; have q9' := blk_frozen h9b 16; have H9 := Lib.hid (show ((w9b.setCell ⟨g9, 15, none⟩ (.int .i64 9223372036854775807)).setCell ⟨g9, 16, none⟩ (.int .i64 9223372036854775807)).heap[g9]? = some (.cells (fc (f3 ((c : Int) % 2 == 0) c a1 t)) 36 (0, 0)) from blk_put (blk_put h9b 15 _ rfl) 16 _ rfl); have H79 := Lib.hid (blk_far (p := ⟨g9, 16, none⟩) (blk_far (p := ⟨g9, 15, none⟩) (s9b.blk H7a9.out N79.out) N79.out (.int .i64 9223372036854775807)) N79.out (.int .i64 9223372036854775807)); have H89 := Lib.hid (blk_far (p := ⟨g9, 16, none⟩) (blk_far (p := ⟨g9, 15, none⟩) (s9b.blk H8a9.out N89.out) N89.out (.int .i64 9223372036854775807)) N89.out (.int .i64 9223372036854775807)); have B9 := Lib.hid (((B9a.out.trans (s9b.below G9.out B9a.out.size)).setCell (p := ⟨g9, 15, none⟩) G9.out (.int .i64 9223372036854775807)).setCell (p := ⟨g9, 16, none⟩) G9.out (.int .i64 9223372036854775807)); clear h9b s9b)
                | ((with_reducible refine gate_dst (N := 10) rfl ?_); refine box_event ?hg (N := 10) ?hd (cs := zf) (t := 36) ?hr ?_; (case hd => rfl); (case hg => rfl); (case hr => first | (go_simp; done) | (go_simp; rfl)); intro g10 e10 w10a h10a b10a; have HZ10 := Lib.hid h10a; have G10 := Lib.hid (show wL.heap.size ≤ g10 by rw [e10]; exact B9.out.size); have N710 := Lib.hid (show g7 ≠ g10 by rw [e10]; exact Nat.ne_of_lt (blk_lt H79.out)); have N810 := Lib.hid (show g8 ≠ g10 by rw [e10]; exact Nat.ne_of_lt (blk_lt H89.out)); have N910 := Lib.hid (show g9 ≠ g10 by rw [e10]; exact Nat.ne_of_lt (blk_lt H9.out)); have H7a10 := Lib.hid (blk_below H79.out b10a); have H8a10 := Lib.hid (blk_below H89.out b10a); have H9a10 := Lib.hid (blk_below H9.out b10a); have B10a := Lib.hid (B9.out.trans (b10a.mono B9.out.size)); clear e10 h10a b10a)
                | ((with_reducible refine gate_store (t := 36) (p := 10) rfl ?_); refine wpList_store_all rfl 36 _ _ rfl g10 zf (fc (f4 (1 + (t : Int) % 3))) 36 rfl rfl HZ10.out rfl (by kernel_rfl) (fc_one _) ?_; intro w10b h10b s10b; have HA := Lib.hid (s10b.blk H7a10.out N710.out); have HB := Lib.hid (s10b.blk H8a10.out N810.out); have HC := Lib.hid (s10b.blk H9a10.out N910.out); have HD := Lib.hid h10b; have B10 := Lib.hid (B10a.out.trans (s10b.below G10.out B10a.out.size)); clear h10b s10b))
              have HFS : ∃ FA FB FC FD, (Good FA ∧ Good FB ∧ Good FC ∧ Good FD) ∧ w10b.heap[g7]? = some (.cells (fc FA) 36 (0, 0)) ∧ w10b.heap[g8]? = some (.cells (fc FB) 36 (0, 0)) ∧ w10b.heap[g9]? = some (.cells (fc FC) 36 (0, 0)) ∧ w10b.heap[g10]? = some (.cells (fc FD) 36 (0, 0)) :=
                ⟨_, _, _, _, ⟨good_1 _ c a1 t ct cc, good_2 _ c a1 t ct cc, good_3 _ c a1 t ct cc, good_4 t⟩, HA.out, HB.out, HC.out, HD.out⟩
              obtain ⟨FA, FB, FC, FD, hgood, hA, hB, hC, hD⟩ := HFS
              have HGD := Lib.hid hgood
              clear hgood HA HB HC HD
              have HA := Lib.hid hA
              have HB := Lib.hid hB
              have HC := Lib.hid hC
              have HD := Lib.hid hD
              clear hA hB hC hD
              clear HZ7 HZ8 HZ9 HZ10 B7a B8a B9a B10a H7 H8 H9 H78 H79 H89 H7a8 H7a9 H8a9 H7a10 H8a10 H9a10 k7 k8 k9 k9' q7 q8 q9 q9' B1 B7 B8 B9
              go_loopw [11] (fun x wr => ∃ n : Nat, n ≤ 80 ∧ x = .int .i64 n ∧ Below w10b.heap.size w10b wr) (fun x _ => 80 - (intOf x).toNat)
              case atStart => exact ⟨0, Nat.zero_le _, rfl, Below.refl _ _⟩
              case round =>
                obtain ⟨q, hq, rfl, hBq⟩ := hrel
                obtain ⟨wQ, hwQ⟩ : ∃ x, x = wr := ⟨_, rfl⟩
                rw [← hwQ] at hBq ⊢
                clear hwQ
                have HBq := Lib.hid hBq
                clear hBq
                by_cases cq : q < 80
                · have bq : decide ((q : Int) < 80) = true := decide_eq_true (by omega)
                  go_wp2_with (first
                    | ((with_reducible refine gate_dst (N := 88) rfl ?_); refine wpList_load_mid rfl 36 _ rfl g7 0 rfl (fc FA).toList _ (range_blk (blk_below HA.out HBq.out)) hu36 rfl (by kernel_rfl) ?_)
                    | ((with_reducible refine gate_dst (N := 89) rfl ?_); refine wpList_load_mid rfl 36 _ rfl g8 0 rfl (fc FB).toList _ (range_blk (blk_below HB.out HBq.out)) hu36 rfl (by kernel_rfl) ?_)
                    | ((with_reducible refine gate_dst (N := 90) rfl ?_); refine wpList_load_mid rfl 36 _ rfl g9 0 rfl (fc FC).toList _ (range_blk (blk_below HC.out HBq.out)) hu36 rfl (by kernel_rfl) ?_)
                    | ((with_reducible refine gate_dst (N := 91) rfl ?_); refine wpList_load_mid rfl 36 _ rfl g10 0 rfl (fc FD).toList _ (range_blk (blk_below HD.out HBq.out)) hu36 rfl (by kernel_rfl) ?_))
                  go_loopw [94] (fun x wr => ∃ n : Nat, n ≤ 4 ∧ x = .int .i64 n ∧ wr.heap[wQ.heap.size]? = some (.cells (fc4 FA FB FC FD) 36 (0, 0)) ∧ Below w10b.heap.size w10b wr) (fun x _ => 4 - (intOf x).toNat)
                  case atStart => exact ⟨0, Nat.zero_le _, rfl, blk_new _ _, HBq.out.alloc HBq.out.size _⟩
                  case round =>
                    obtain ⟨r, hr, rfl, hBX, hBr⟩ := hrel
                    obtain ⟨wR, hwR⟩ : ∃ x, x = wr := ⟨_, rfl⟩
                    rw [← hwR] at hBX hBr ⊢
                    clear hwR
                    have HBX := Lib.hid hBX
                    have HBr := Lib.hid hBr
                    clear hBX hBr
                    by_cases cr : r < 4
                    · have br : decide ((r : Int) < 4) = true := decide_eq_true (by omega)
                      obtain ⟨F, hF⟩ : ∃ F, F = fr FA FB FC FD r := ⟨_, rfl⟩
                      have hrng := range4 HBX.out r cr
                      have hgF := good_fr HGD.out r
                      rw [← hF] at hrng hgF
                      have HRNG := Lib.hid hrng
                      have HGF := Lib.hid hgF
                      clear hF hrng hgF
                      go_wp2_with (first
                        | ((with_reducible refine gate_dst (N := 97) rfl ?_); refine wpList_load_mid rfl 36 _ rfl wQ.heap.size (r * 25) rfl (fc F).toList _ HRNG.out hu36 rfl (by kernel_rfl) ?_)
                        | ((with_reducible refine gate_dst (N := 13) rfl ?_); refine box_event ?hg (N := 13) ?hd (cs := zf) (t := 36) ?hr ?_; (case hd => rfl); (case hg => rfl); (case hr => first | (go_simp; done) | (go_simp; rfl)); intro g13 e13 w13a h13a b13a; have HZ13 := Lib.hid h13a; have HBXa := Lib.hid (blk_below HBX.out b13a); have N13 := Lib.hid (show wQ.heap.size ≠ g13 by rw [e13]; exact Nat.ne_of_lt (blk_lt HBX.out)); have G13 := Lib.hid (show w10b.heap.size ≤ g13 by rw [e13]; exact HBr.out.size); have B13a := Lib.hid (HBr.out.trans (b13a.mono HBr.out.size)); clear e13 h13a b13a)
                        | ((with_reducible refine gate_store (t := 36) (p := 13) rfl ?_); refine wpList_store_all rfl 36 _ _ rfl g13 zf (fc F) 36 rfl rfl HZ13.out rfl (by kernel_rfl) (fc_one _) ?_; intro w13b h13b s13b; have H13 := Lib.hid h13b; have HBX13 := Lib.hid (s13b.blk HBXa.out N13.out); have B13 := Lib.hid (B13a.out.trans (s13b.below G13.out B13a.out.size)); clear h13b s13b))
                      obtain ⟨b, l, xc, hll, hfit, hC⟩ := ys_at HO.out HY.out q cq
                      have hadd : (⟨gl, 0, none⟩ : Addr).add q = ⟨gl, q, none⟩ := by unfold Addr.add; split <;> simp_all
                      rw [hadd] at xc
                      have BXL := Lib.hid (B10.out.trans (B13.out.mono B10.out.size))
                      have CL := Lib.hid (fun (W : World) (hW : Below w13b.heap.size w13b W) => (show W.cell? ⟨gl, q, none⟩ = some (.slice (some ⟨b, 0, none⟩) 7 7) from ((BXL.out.trans (hW.mono BXL.out.size)).cell hgl2).trans xc))
                      have P9 := Lib.hid (fun (W : World) (hW : Below w13b.heap.size w13b W) => k_plays F b l W HGF.out hll hfit (hC W (BXL.out.trans (hW.mono BXL.out.size)) 7 (Nat.le_refl _)) hW)
                      have P7 := Lib.hid (fun (W : World) (hW : Below w13b.heap.size w13b W) => k_process F b l W HGF.out hll hfit (hC W (BXL.out.trans (hW.mono BXL.out.size)) 7 (Nat.le_refl _)) hW)
                      obtain ⟨a8, ha8⟩ : ∃ a : Nat, a = q % 8 := ⟨_, rfl⟩
                      have ha8' : a8 ≤ 7 := by omega
                      have P5 := Lib.hid (fun (ex : Bool) (code : Int) (W : World) (hW : Below w13b.heap.size w13b W) => k_results F b l a8 ex code W HGF.out hll hfit ha8' (hC W (BXL.out.trans (hW.mono BXL.out.size)) a8 ha8') hW)
                      have P6 := Lib.hid (fun (ex : Bool) (code : Int) (W : World) (hW : Below w13b.heap.size w13b W) => k_stops F b l a8 ex code W HGF.out hll hfit ha8' (hC W (BXL.out.trans (hW.mono BXL.out.size)) a8 ha8') hW)
                      obtain ⟨a7, ha7⟩ : ∃ a : Nat, a = q % 7 := ⟨_, rfl⟩
                      have t7 : (q : Int).tmod 7 = (a7 : Int) := by rw [ha7]; rfl
                      have t8 : (q : Int).tmod 8 = (a8 : Int) := by rw [ha8]; rfl
                      have e7 : (q : Int) % 7 = (a7 : Int) := by omega
                      have e8 : (q : Int) % 8 = (a8 : Int) := by omega
                      have x7 : IntKind.i64.wrap (a7 : Int) = (a7 : Int) := Go.IntWalk.i64_in _ (by omega)
                      have x8 : IntKind.i64.wrap (a8 : Int) = (a8 : Int) := Go.IntWalk.i64_in _ (by omega)
                      have q0 : (0 : Int) ≤ (q : Int) := by omega
                      have q1 : (q : Int) < 80 := by omega
                      have p0 : (0 : Int) ≤ (a8 : Int) := by omega
                      have p1 : (a8 : Int) ≤ 7 := by omega
                      have ZZ := Lib.hid ha8
                      have HQ := Lib.hid cq
                      have HR := Lib.hid cr
                      clear xc hll hfit hC ha8 hadd
                      by_cases z7 : a7 = 0
                      · have b7 : ((a7 : Int) == 0) = true := by simpa using z7
                        have b7' : (a7 == 0) = true := by simpa using z7
                        clear z7 ha7
                        refine wp_region_held_drew (S := fun w' => Below w13b.heap.size w13b w') (by kernel_rfl) (Below.refl _ _).drew (fun hHeld => ?_)
                        refine' takeL (i := 0) (v := _) rfl (by kernel_rfl) (by kernel_rfl) (by kernel_rfl) (fun _ _ _ h => h) (yieldsIf_load_mid (by rfl) 36 _ rfl g13 0 rfl (fc F).toList _ (fun w9 hSw => range_blk (blk_below H13.out hSw)) hu36 rfl (by kernel_rfl)) hHeld ?_
                        try simp only [Act.put, List.setIfInBounds_toArray, List.set_cons_zero, List.set_cons_succ]
                        refine takeL (i := 1) (v := ?vv1) rfl (by kernel_rfl) (by kernel_rfl) (by kernel_rfl) (fun _ _ _ h => h) (Or.inl ⟨by rfl, ?hy1⟩) hHeld ?rest1
                        case hy1 => (intro w9 hSw; (try dsimp only at hSw); go_simp; (try with_reducible rfl))
                        try simp only [Act.put, List.setIfInBounds_toArray, List.set_cons_zero, List.set_cons_succ]
                        refine takeL (i := 2) (v := ?vv2) rfl (by kernel_rfl) (by kernel_rfl) (by kernel_rfl) (fun _ _ _ h => h) (Or.inl ⟨by rfl, ?hy2⟩) hHeld ?rest2
                        case hy2 => (intro w9 hSw; (try dsimp only at hSw); go_simp; (try with_reducible rfl))
                        try simp only [Act.put, List.setIfInBounds_toArray, List.set_cons_zero, List.set_cons_succ]
                        refine takeL (i := 3) (v := ?vv3) rfl (by kernel_rfl) (by kernel_rfl) (by kernel_rfl) (fun _ _ _ h => h) (Or.inl ⟨by rfl, ?hy3⟩) hHeld ?rest3
                        case hy3 => (intro w9 hSw; (try dsimp only at hSw); go_simp; (try with_reducible rfl))
                        try simp only [Act.put, List.setIfInBounds_toArray, List.set_cons_zero, List.set_cons_succ]
                        refine takeL (i := 4) (v := ?vv4) rfl (by kernel_rfl) (by kernel_rfl) (by kernel_rfl) (fun _ _ _ h => h) (Or.inl ⟨by rfl, ?hy4⟩) hHeld ?rest4
                        case hy4 => (intro w9 hSw; (try dsimp only at hSw); have cl := CL.out _ hSw; go_simp; (try with_reducible rfl))
                        try simp only [Act.put, List.setIfInBounds_toArray, List.set_cons_zero, List.set_cons_succ]
                        refine wpAnyH_ready (rs := [5]) (by kernel_rfl) (by simp) (consL rfl (fun K hK => ?_) AllReadyH.nil)
                        go_simp
                        refine (P9.out _ hHeld).mono ?_; rintro e wx ⟨rfl, bx⟩
                        refine hK.out _ _ bx (fun hHeld => ?_)
                        clear hK K
                        try simp only [Act.put, List.setIfInBounds_toArray, List.set_cons_zero, List.set_cons_succ]
                        refine takeL (i := 6) (v := ?vv5) rfl (by kernel_rfl) (by kernel_rfl) (by kernel_rfl) (fun _ _ _ h => h) (Or.inl ⟨by rfl, ?hy5⟩) hHeld ?rest5
                        case hy5 => (intro w9 hSw; (try dsimp only at hSw); go_simp; (try with_reducible rfl))
                        try simp only [Act.put, List.setIfInBounds_toArray, List.set_cons_zero, List.set_cons_succ]
                        refine takeL (i := 7) (v := ?vv6) rfl (by kernel_rfl) (by kernel_rfl) (by kernel_rfl) (fun _ _ _ h => h) (Or.inl ⟨by rfl, ?hy6⟩) hHeld ?rest6
                        case hy6 => (intro w9 hSw; (try dsimp only at hSw); go_simp; (try with_reducible rfl))
                        try simp only [Act.put, List.setIfInBounds_toArray, List.set_cons_zero, List.set_cons_succ]
                        refine' takeL (i := 8) (v := _) rfl (by kernel_rfl) (by kernel_rfl) (by kernel_rfl) (fun _ _ _ h => h) (yieldsIf_load_mid (by rfl) 36 _ rfl g13 0 rfl (fc F).toList _ (fun w9 hSw => range_blk (blk_below H13.out hSw)) hu36 rfl (by kernel_rfl)) hHeld ?_
                        try simp only [Act.put, List.setIfInBounds_toArray, List.set_cons_zero, List.set_cons_succ]
                        refine takeL (i := 9) (v := ?vv7) rfl (by kernel_rfl) (by kernel_rfl) (by kernel_rfl) (fun _ _ _ h => h) (Or.inl ⟨by rfl, ?hy7⟩) hHeld ?rest7
                        case hy7 => (intro w9 hSw; (try dsimp only at hSw); go_simp; (try with_reducible rfl))
                        try simp only [Act.put, List.setIfInBounds_toArray, List.set_cons_zero, List.set_cons_succ]
                        refine takeL (i := 10) (v := ?vv8) rfl (by kernel_rfl) (by kernel_rfl) (by kernel_rfl) (fun _ _ _ h => h) (Or.inl ⟨by rfl, ?hy8⟩) hHeld ?rest8
                        case hy8 => (intro w9 hSw; (try dsimp only at hSw); go_simp; (try with_reducible rfl))
                        try simp only [Act.put, List.setIfInBounds_toArray, List.set_cons_zero, List.set_cons_succ]
                        refine takeL (i := 11) (v := ?vv9) rfl (by kernel_rfl) (by kernel_rfl) (by kernel_rfl) (fun _ _ _ h => h) (Or.inl ⟨by rfl, ?hy9⟩) hHeld ?rest9
                        case hy9 => (intro w9 hSw; (try dsimp only at hSw); go_simp; (try with_reducible rfl))
                        try simp only [Act.put, List.setIfInBounds_toArray, List.set_cons_zero, List.set_cons_succ]
                        refine takeL (i := 12) (v := ?vv10) rfl (by kernel_rfl) (by kernel_rfl) (by kernel_rfl) (fun _ _ _ h => h) (Or.inl ⟨by rfl, ?hy10⟩) hHeld ?rest10
                        case hy10 => (intro w9 hSw; (try dsimp only at hSw); have cl := CL.out _ hSw; go_simp; (try with_reducible rfl))
                        try simp only [Act.put, List.setIfInBounds_toArray, List.set_cons_zero, List.set_cons_succ]
                        refine wpAnyH_ready (rs := [13]) (by kernel_rfl) (by simp) (consL rfl (fun K hK => ?_) AllReadyH.nil)
                        go_simp
                        refine (P7.out _ hHeld).mono ?_; rintro e wx ⟨rfl, bx⟩
                        refine hK.out _ _ bx (fun hHeld => ?_)
                        clear hK K
                        try simp only [Act.put, List.setIfInBounds_toArray, List.set_cons_zero, List.set_cons_succ]
                        refine takeL (i := 14) (v := ?vv11) rfl (by kernel_rfl) (by kernel_rfl) (by kernel_rfl) (fun _ _ _ h => h) (Or.inl ⟨by rfl, ?hy11⟩) hHeld ?rest11
                        case hy11 => (intro w9 hSw; (try dsimp only at hSw); go_simp; (try with_reducible rfl))
                        try simp only [Act.put, List.setIfInBounds_toArray, List.set_cons_zero, List.set_cons_succ]
                        refine takeL (i := 15) (v := ?vv12) rfl (by kernel_rfl) (by kernel_rfl) (by kernel_rfl) (fun _ _ _ h => h) (Or.inl ⟨by rfl, ?hy12⟩) hHeld ?rest12
                        case hy12 => (intro w9 hSw; (try dsimp only at hSw); go_simp; (try with_reducible rfl))
                        try simp only [Act.put, List.setIfInBounds_toArray, List.set_cons_zero, List.set_cons_succ]
                        refine takeL (i := 16) (v := ?vv13) rfl (by kernel_rfl) (by kernel_rfl) (by kernel_rfl) (fun _ _ _ h => h) (Or.inl ⟨by rfl, ?hy13⟩) hHeld ?rest13
                        case hy13 => (intro w9 hSw; (try dsimp only at hSw); go_simp; (try with_reducible rfl))
                        try simp only [Act.put, List.setIfInBounds_toArray, List.set_cons_zero, List.set_cons_succ]
                        refine takeL (i := 17) (v := ?vv14) rfl (by kernel_rfl) (by kernel_rfl) (by kernel_rfl) (fun _ _ _ h => h) (Or.inl ⟨by rfl, ?hy14⟩) hHeld ?rest14
                        case hy14 => (intro w9 hSw; (try dsimp only at hSw); go_simp; (try with_reducible rfl))
                        try simp only [Act.put, List.setIfInBounds_toArray, List.set_cons_zero, List.set_cons_succ]
                        refine takeL (i := 18) (v := ?vv15) rfl (by kernel_rfl) (by kernel_rfl) (by kernel_rfl) (fun _ _ _ h => h) (Or.inl ⟨by rfl, ?hy15⟩) hHeld ?rest15
                        case hy15 => (intro w9 hSw; (try dsimp only at hSw); go_simp; (try with_reducible rfl))
                        try simp only [Act.put, List.setIfInBounds_toArray, List.set_cons_zero, List.set_cons_succ]
                        refine takeL (i := 19) (v := ?vv16) rfl (by kernel_rfl) (by kernel_rfl) (by kernel_rfl) (fun _ _ _ h => h) (Or.inl ⟨by rfl, ?hy16⟩) hHeld ?rest16
                        case hy16 => (intro w9 hSw; (try dsimp only at hSw); go_simp; (try with_reducible rfl))
                        try simp only [Act.put, List.setIfInBounds_toArray, List.set_cons_zero, List.set_cons_succ]
                        refine takeL (i := 20) (v := ?vv17) rfl (by kernel_rfl) (by kernel_rfl) (by kernel_rfl) (fun _ _ _ h => h) (Or.inl ⟨by rfl, ?hy17⟩) hHeld ?rest17
                        case hy17 => (intro w9 hSw; (try dsimp only at hSw); go_simp; (try with_reducible rfl))
                        try simp only [Act.put, List.setIfInBounds_toArray, List.set_cons_zero, List.set_cons_succ]
                        refine' takeL (i := 21) (v := _) rfl (by kernel_rfl) (by kernel_rfl) (by kernel_rfl) (fun _ _ _ h => h) (yieldsIf_load_mid (by rfl) 36 _ rfl g13 0 rfl (fc F).toList _ (fun w9 hSw => range_blk (blk_below H13.out hSw)) hu36 rfl (by kernel_rfl)) hHeld ?_
                        try simp only [Act.put, List.setIfInBounds_toArray, List.set_cons_zero, List.set_cons_succ]
                        refine takeL (i := 22) (v := ?vv18) rfl (by kernel_rfl) (by kernel_rfl) (by kernel_rfl) (fun _ _ _ h => h) (Or.inl ⟨by rfl, ?hy18⟩) hHeld ?rest18
                        case hy18 => (intro w9 hSw; (try dsimp only at hSw); go_simp; (try with_reducible rfl))
                        try simp only [Act.put, List.setIfInBounds_toArray, List.set_cons_zero, List.set_cons_succ]
                        refine takeL (i := 23) (v := ?vv19) rfl (by kernel_rfl) (by kernel_rfl) (by kernel_rfl) (fun _ _ _ h => h) (Or.inl ⟨by rfl, ?hy19⟩) hHeld ?rest19
                        case hy19 => (intro w9 hSw; (try dsimp only at hSw); go_simp; (try with_reducible rfl))
                        try simp only [Act.put, List.setIfInBounds_toArray, List.set_cons_zero, List.set_cons_succ]
                        refine takeL (i := 24) (v := ?vv20) rfl (by kernel_rfl) (by kernel_rfl) (by kernel_rfl) (fun _ _ _ h => h) (Or.inl ⟨by rfl, ?hy20⟩) hHeld ?rest20
                        case hy20 => (intro w9 hSw; (try dsimp only at hSw); go_simp; (try with_reducible rfl))
                        try simp only [Act.put, List.setIfInBounds_toArray, List.set_cons_zero, List.set_cons_succ]
                        refine takeL (i := 25) (v := ?vv21) rfl (by kernel_rfl) (by kernel_rfl) (by kernel_rfl) (fun _ _ _ h => h) (Or.inl ⟨by rfl, ?hy21⟩) hHeld ?rest21
                        case hy21 => (intro w9 hSw; (try dsimp only at hSw); have cl := CL.out _ hSw; go_simp; (try with_reducible rfl))
                        try simp only [Act.put, List.setIfInBounds_toArray, List.set_cons_zero, List.set_cons_succ]
                        refine takeL (i := 26) (v := ?vv22) rfl (by kernel_rfl) (by kernel_rfl) (by kernel_rfl) (fun _ _ _ h => h) (Or.inl ⟨by rfl, ?hy22⟩) hHeld ?rest22
                        case hy22 => (intro w9 hSw; (try dsimp only at hSw); go_simp; (try with_reducible rfl))
                        try simp only [Act.put, List.setIfInBounds_toArray, List.set_cons_zero, List.set_cons_succ]
                        refine takeL (i := 27) (v := ?vv23) rfl (by kernel_rfl) (by kernel_rfl) (by kernel_rfl) (fun _ _ _ h => h) (Or.inl ⟨by rfl, ?hy23⟩) hHeld ?rest23
                        case hy23 => (intro w9 hSw; (try dsimp only at hSw); go_simp; (try with_reducible rfl))
                        try simp only [Act.put, List.setIfInBounds_toArray, List.set_cons_zero, List.set_cons_succ]
                        refine takeL (i := 28) (v := ?vv24) rfl (by kernel_rfl) (by kernel_rfl) (by kernel_rfl) (fun _ _ _ h => h) (Or.inl ⟨by rfl, ?hy24⟩) hHeld ?rest24
                        case hy24 => (intro w9 hSw; (try dsimp only at hSw); go_simp; (try with_reducible rfl))
                        try simp only [Act.put, List.setIfInBounds_toArray, List.set_cons_zero, List.set_cons_succ]
                        refine takeL (i := 29) (v := ?vv25) rfl (by kernel_rfl) (by kernel_rfl) (by kernel_rfl) (fun _ _ _ h => h) (Or.inl ⟨by rfl, ?hy25⟩) hHeld ?rest25
                        case hy25 => (intro w9 hSw; (try dsimp only at hSw); go_simp; (try with_reducible rfl))
                        try simp only [Act.put, List.setIfInBounds_toArray, List.set_cons_zero, List.set_cons_succ]
                        refine takeL (i := 30) (v := ?vv26) rfl (by kernel_rfl) (by kernel_rfl) (by kernel_rfl) (fun _ _ _ h => h) (Or.inl ⟨by rfl, ?hy26⟩) hHeld ?rest26
                        case hy26 => (intro w9 hSw; (try dsimp only at hSw); go_simp; (try with_reducible rfl))
                        try simp only [Act.put, List.setIfInBounds_toArray, List.set_cons_zero, List.set_cons_succ]
                        refine takeL (i := 31) (v := ?vv27) rfl (by kernel_rfl) (by kernel_rfl) (by kernel_rfl) (fun _ _ _ h => h) (Or.inl ⟨by rfl, ?hy27⟩) hHeld ?rest27
                        case hy27 => (intro w9 hSw; (try dsimp only at hSw); go_simp; (try with_reducible rfl))
                        try simp only [Act.put, List.setIfInBounds_toArray, List.set_cons_zero, List.set_cons_succ]
                        refine takeL (i := 32) (v := ?vv28) rfl (by kernel_rfl) (by kernel_rfl) (by kernel_rfl) (fun _ _ _ h => h) (Or.inl ⟨by rfl, ?hy28⟩) hHeld ?rest28
                        case hy28 => (intro w9 hSw; (try dsimp only at hSw); go_simp; (try with_reducible rfl))
                        try simp only [Act.put, List.setIfInBounds_toArray, List.set_cons_zero, List.set_cons_succ]
                        refine takeL (i := 33) (v := ?vv29) rfl (by kernel_rfl) (by kernel_rfl) (by kernel_rfl) (fun _ _ _ h => h) (Or.inl ⟨by rfl, ?hy29⟩) hHeld ?rest29
                        case hy29 => (intro w9 hSw; (try dsimp only at hSw); go_simp; (try with_reducible rfl))
                        try simp only [Act.put, List.setIfInBounds_toArray, List.set_cons_zero, List.set_cons_succ]
                        refine takeL (i := 34) (v := ?vv30) rfl (by kernel_rfl) (by kernel_rfl) (by kernel_rfl) (fun _ _ _ h => h) (Or.inl ⟨by rfl, ?hy30⟩) hHeld ?rest30
                        case hy30 => (intro w9 hSw; (try dsimp only at hSw); go_simp; (try with_reducible rfl))
                        try simp only [Act.put, List.setIfInBounds_toArray, List.set_cons_zero, List.set_cons_succ]
                        refine wpAnyH_ready (rs := [35]) (by kernel_rfl) (by simp) (consL rfl (fun K hK => ?_) AllReadyH.nil)
                        go_simp
                        refine (P5.out _ _ _ hHeld).mono ?_; rintro e wx ⟨rfl, bx⟩
                        refine hK.out _ _ bx (fun hHeld => ?_)
                        clear hK K
                        try simp only [Act.put, List.setIfInBounds_toArray, List.set_cons_zero, List.set_cons_succ]
                        refine takeL (i := 36) (v := ?vv31) rfl (by kernel_rfl) (by kernel_rfl) (by kernel_rfl) (fun _ _ _ h => h) (Or.inl ⟨by rfl, ?hy31⟩) hHeld ?rest31
                        case hy31 => (intro w9 hSw; (try dsimp only at hSw); go_simp; (try with_reducible rfl))
                        try simp only [Act.put, List.setIfInBounds_toArray, List.set_cons_zero, List.set_cons_succ]
                        refine takeL (i := 37) (v := ?vv32) rfl (by kernel_rfl) (by kernel_rfl) (by kernel_rfl) (fun _ _ _ h => h) (Or.inl ⟨by rfl, ?hy32⟩) hHeld ?rest32
                        case hy32 => (intro w9 hSw; (try dsimp only at hSw); go_simp; (try with_reducible rfl))
                        try simp only [Act.put, List.setIfInBounds_toArray, List.set_cons_zero, List.set_cons_succ]
                        refine' takeL (i := 38) (v := _) rfl (by kernel_rfl) (by kernel_rfl) (by kernel_rfl) (fun _ _ _ h => h) (yieldsIf_load_mid (by rfl) 36 _ rfl g13 0 rfl (fc F).toList _ (fun w9 hSw => range_blk (blk_below H13.out hSw)) hu36 rfl (by kernel_rfl)) hHeld ?_
                        try simp only [Act.put, List.setIfInBounds_toArray, List.set_cons_zero, List.set_cons_succ]
                        refine takeL (i := 39) (v := ?vv33) rfl (by kernel_rfl) (by kernel_rfl) (by kernel_rfl) (fun _ _ _ h => h) (Or.inl ⟨by rfl, ?hy33⟩) hHeld ?rest33
                        case hy33 => (intro w9 hSw; (try dsimp only at hSw); go_simp; (try with_reducible rfl))
                        try simp only [Act.put, List.setIfInBounds_toArray, List.set_cons_zero, List.set_cons_succ]
                        refine takeL (i := 40) (v := ?vv34) rfl (by kernel_rfl) (by kernel_rfl) (by kernel_rfl) (fun _ _ _ h => h) (Or.inl ⟨by rfl, ?hy34⟩) hHeld ?rest34
                        case hy34 => (intro w9 hSw; (try dsimp only at hSw); go_simp; (try with_reducible rfl))
                        try simp only [Act.put, List.setIfInBounds_toArray, List.set_cons_zero, List.set_cons_succ]
                        refine takeL (i := 41) (v := ?vv35) rfl (by kernel_rfl) (by kernel_rfl) (by kernel_rfl) (fun _ _ _ h => h) (Or.inl ⟨by rfl, ?hy35⟩) hHeld ?rest35
                        case hy35 => (intro w9 hSw; (try dsimp only at hSw); go_simp; (try with_reducible rfl))
                        try simp only [Act.put, List.setIfInBounds_toArray, List.set_cons_zero, List.set_cons_succ]
                        refine takeL (i := 42) (v := ?vv36) rfl (by kernel_rfl) (by kernel_rfl) (by kernel_rfl) (fun _ _ _ h => h) (Or.inl ⟨by rfl, ?hy36⟩) hHeld ?rest36
                        case hy36 => (intro w9 hSw; (try dsimp only at hSw); have cl := CL.out _ hSw; go_simp; (try with_reducible rfl))
                        try simp only [Act.put, List.setIfInBounds_toArray, List.set_cons_zero, List.set_cons_succ]
                        refine takeL (i := 43) (v := ?vv37) rfl (by kernel_rfl) (by kernel_rfl) (by kernel_rfl) (fun _ _ _ h => h) (Or.inl ⟨by rfl, ?hy37⟩) hHeld ?rest37
                        case hy37 => (intro w9 hSw; (try dsimp only at hSw); go_simp; (try with_reducible rfl))
                        try simp only [Act.put, List.setIfInBounds_toArray, List.set_cons_zero, List.set_cons_succ]
                        refine takeL (i := 44) (v := ?vv38) rfl (by kernel_rfl) (by kernel_rfl) (by kernel_rfl) (fun _ _ _ h => h) (Or.inl ⟨by rfl, ?hy38⟩) hHeld ?rest38
                        case hy38 => (intro w9 hSw; (try dsimp only at hSw); go_simp; (try with_reducible rfl))
                        try simp only [Act.put, List.setIfInBounds_toArray, List.set_cons_zero, List.set_cons_succ]
                        refine takeL (i := 45) (v := ?vv39) rfl (by kernel_rfl) (by kernel_rfl) (by kernel_rfl) (fun _ _ _ h => h) (Or.inl ⟨by rfl, ?hy39⟩) hHeld ?rest39
                        case hy39 => (intro w9 hSw; (try dsimp only at hSw); go_simp; (try with_reducible rfl))
                        try simp only [Act.put, List.setIfInBounds_toArray, List.set_cons_zero, List.set_cons_succ]
                        refine takeL (i := 46) (v := ?vv40) rfl (by kernel_rfl) (by kernel_rfl) (by kernel_rfl) (fun _ _ _ h => h) (Or.inl ⟨by rfl, ?hy40⟩) hHeld ?rest40
                        case hy40 => (intro w9 hSw; (try dsimp only at hSw); go_simp; (try with_reducible rfl))
                        try simp only [Act.put, List.setIfInBounds_toArray, List.set_cons_zero, List.set_cons_succ]
                        refine takeL (i := 47) (v := ?vv41) rfl (by kernel_rfl) (by kernel_rfl) (by kernel_rfl) (fun _ _ _ h => h) (Or.inl ⟨by rfl, ?hy41⟩) hHeld ?rest41
                        case hy41 => (intro w9 hSw; (try dsimp only at hSw); go_simp; (try with_reducible rfl))
                        try simp only [Act.put, List.setIfInBounds_toArray, List.set_cons_zero, List.set_cons_succ]
                        refine takeL (i := 48) (v := ?vv42) rfl (by kernel_rfl) (by kernel_rfl) (by kernel_rfl) (fun _ _ _ h => h) (Or.inl ⟨by rfl, ?hy42⟩) hHeld ?rest42
                        case hy42 => (intro w9 hSw; (try dsimp only at hSw); go_simp; (try with_reducible rfl))
                        try simp only [Act.put, List.setIfInBounds_toArray, List.set_cons_zero, List.set_cons_succ]
                        refine takeL (i := 49) (v := ?vv43) rfl (by kernel_rfl) (by kernel_rfl) (by kernel_rfl) (fun _ _ _ h => h) (Or.inl ⟨by rfl, ?hy43⟩) hHeld ?rest43
                        case hy43 => (intro w9 hSw; (try dsimp only at hSw); go_simp; (try with_reducible rfl))
                        try simp only [Act.put, List.setIfInBounds_toArray, List.set_cons_zero, List.set_cons_succ]
                        refine takeL (i := 50) (v := ?vv44) rfl (by kernel_rfl) (by kernel_rfl) (by kernel_rfl) (fun _ _ _ h => h) (Or.inl ⟨by rfl, ?hy44⟩) hHeld ?rest44
                        case hy44 => (intro w9 hSw; (try dsimp only at hSw); go_simp; (try with_reducible rfl))
                        try simp only [Act.put, List.setIfInBounds_toArray, List.set_cons_zero, List.set_cons_succ]
                        refine wpAnyH_ready (rs := [51]) (by kernel_rfl) (by simp) (consL rfl (fun K hK => ?_) AllReadyH.nil)
                        go_simp
                        refine (P6.out _ _ _ hHeld).mono ?_; rintro e wx ⟨rfl, bx⟩
                        refine hK.out _ _ bx (fun hHeld => ?_)
                        clear hK K
                        try simp only [Act.put, List.setIfInBounds_toArray, List.set_cons_zero, List.set_cons_succ]
                        refine takeL (i := 52) (v := ?vv45) rfl (by kernel_rfl) (by kernel_rfl) (by kernel_rfl) (fun _ _ _ h => h) (Or.inl ⟨by rfl, ?hy45⟩) hHeld ?rest45
                        case hy45 => (intro w9 hSw; (try dsimp only at hSw); go_simp; (try with_reducible rfl))
                        try simp only [Act.put, List.setIfInBounds_toArray, List.set_cons_zero, List.set_cons_succ]
                        refine takeL (i := 53) (v := ?vv46) rfl (by kernel_rfl) (by kernel_rfl) (by kernel_rfl) (fun _ _ _ h => h) (Or.inl ⟨by rfl, ?hy46⟩) hHeld ?rest46
                        case hy46 => (intro w9 hSw; (try dsimp only at hSw); go_simp; (try with_reducible rfl))
                        try simp only [Act.put, List.setIfInBounds_toArray, List.set_cons_zero, List.set_cons_succ]
                        refine takeL (i := 54) (v := ?vv47) rfl (by kernel_rfl) (by kernel_rfl) (by kernel_rfl) (fun _ _ _ h => h) (Or.inl ⟨by rfl, ?hy47⟩) hHeld ?rest47
                        case hy47 => (intro w9 hSw; (try dsimp only at hSw); go_simp; (try with_reducible rfl))
                        try simp only [Act.put, List.setIfInBounds_toArray, List.set_cons_zero, List.set_cons_succ]
                        refine takeL (i := 55) (v := ?vv48) rfl (by kernel_rfl) (by kernel_rfl) (by kernel_rfl) (fun _ _ _ h => h) (Or.inl ⟨by rfl, ?hy48⟩) hHeld ?rest48
                        case hy48 => (intro w9 hSw; (try dsimp only at hSw); go_simp; (try with_reducible rfl))
                        try simp only [Act.put, List.setIfInBounds_toArray, List.set_cons_zero, List.set_cons_succ]
                        refine wpAnyH_done (by kernel_rfl) ?_ _
                        go_wp2
                        go_roundw
                        case rel => exact ⟨r + 1, HR.out, by go_num, blk_below HBX13.out hHeld, B13.out.trans (hHeld.mono B13.out.size)⟩
                        case measure => have := HR.out; simp [intOf]; omega
                      · have b7 : ((a7 : Int) == 0) = false := by simpa using z7
                        have b7' : (a7 == 0) = false := by simpa using z7
                        clear z7 ha7
                        refine wp_region_held_drew (S := fun w' => Below w13b.heap.size w13b w') (by kernel_rfl) (Below.refl _ _).drew (fun hHeld => ?_)
                        refine' takeL (i := 0) (v := _) rfl (by kernel_rfl) (by kernel_rfl) (by kernel_rfl) (fun _ _ _ h => h) (yieldsIf_load_mid (by rfl) 36 _ rfl g13 0 rfl (fc F).toList _ (fun w9 hSw => range_blk (blk_below H13.out hSw)) hu36 rfl (by kernel_rfl)) hHeld ?_
                        try simp only [Act.put, List.setIfInBounds_toArray, List.set_cons_zero, List.set_cons_succ]
                        refine takeL (i := 1) (v := ?vv49) rfl (by kernel_rfl) (by kernel_rfl) (by kernel_rfl) (fun _ _ _ h => h) (Or.inl ⟨by rfl, ?hy49⟩) hHeld ?rest49
                        case hy49 => (intro w9 hSw; (try dsimp only at hSw); go_simp; (try with_reducible rfl))
                        try simp only [Act.put, List.setIfInBounds_toArray, List.set_cons_zero, List.set_cons_succ]
                        refine takeL (i := 2) (v := ?vv50) rfl (by kernel_rfl) (by kernel_rfl) (by kernel_rfl) (fun _ _ _ h => h) (Or.inl ⟨by rfl, ?hy50⟩) hHeld ?rest50
                        case hy50 => (intro w9 hSw; (try dsimp only at hSw); go_simp; (try with_reducible rfl))
                        try simp only [Act.put, List.setIfInBounds_toArray, List.set_cons_zero, List.set_cons_succ]
                        refine takeL (i := 3) (v := ?vv51) rfl (by kernel_rfl) (by kernel_rfl) (by kernel_rfl) (fun _ _ _ h => h) (Or.inl ⟨by rfl, ?hy51⟩) hHeld ?rest51
                        case hy51 => (intro w9 hSw; (try dsimp only at hSw); go_simp; (try with_reducible rfl))
                        try simp only [Act.put, List.setIfInBounds_toArray, List.set_cons_zero, List.set_cons_succ]
                        refine takeL (i := 4) (v := ?vv52) rfl (by kernel_rfl) (by kernel_rfl) (by kernel_rfl) (fun _ _ _ h => h) (Or.inl ⟨by rfl, ?hy52⟩) hHeld ?rest52
                        case hy52 => (intro w9 hSw; (try dsimp only at hSw); have cl := CL.out _ hSw; go_simp; (try with_reducible rfl))
                        try simp only [Act.put, List.setIfInBounds_toArray, List.set_cons_zero, List.set_cons_succ]
                        refine wpAnyH_ready (rs := [5]) (by kernel_rfl) (by simp) (consL rfl (fun K hK => ?_) AllReadyH.nil)
                        go_simp
                        refine (P9.out _ hHeld).mono ?_; rintro e wx ⟨rfl, bx⟩
                        refine hK.out _ _ bx (fun hHeld => ?_)
                        clear hK K
                        try simp only [Act.put, List.setIfInBounds_toArray, List.set_cons_zero, List.set_cons_succ]
                        refine takeL (i := 6) (v := ?vv53) rfl (by kernel_rfl) (by kernel_rfl) (by kernel_rfl) (fun _ _ _ h => h) (Or.inl ⟨by rfl, ?hy53⟩) hHeld ?rest53
                        case hy53 => (intro w9 hSw; (try dsimp only at hSw); go_simp; (try with_reducible rfl))
                        try simp only [Act.put, List.setIfInBounds_toArray, List.set_cons_zero, List.set_cons_succ]
                        refine takeL (i := 7) (v := ?vv54) rfl (by kernel_rfl) (by kernel_rfl) (by kernel_rfl) (fun _ _ _ h => h) (Or.inl ⟨by rfl, ?hy54⟩) hHeld ?rest54
                        case hy54 => (intro w9 hSw; (try dsimp only at hSw); go_simp; (try with_reducible rfl))
                        try simp only [Act.put, List.setIfInBounds_toArray, List.set_cons_zero, List.set_cons_succ]
                        refine' takeL (i := 8) (v := _) rfl (by kernel_rfl) (by kernel_rfl) (by kernel_rfl) (fun _ _ _ h => h) (yieldsIf_load_mid (by rfl) 36 _ rfl g13 0 rfl (fc F).toList _ (fun w9 hSw => range_blk (blk_below H13.out hSw)) hu36 rfl (by kernel_rfl)) hHeld ?_
                        try simp only [Act.put, List.setIfInBounds_toArray, List.set_cons_zero, List.set_cons_succ]
                        refine takeL (i := 9) (v := ?vv55) rfl (by kernel_rfl) (by kernel_rfl) (by kernel_rfl) (fun _ _ _ h => h) (Or.inl ⟨by rfl, ?hy55⟩) hHeld ?rest55
                        case hy55 => (intro w9 hSw; (try dsimp only at hSw); go_simp; (try with_reducible rfl))
                        try simp only [Act.put, List.setIfInBounds_toArray, List.set_cons_zero, List.set_cons_succ]
                        refine takeL (i := 10) (v := ?vv56) rfl (by kernel_rfl) (by kernel_rfl) (by kernel_rfl) (fun _ _ _ h => h) (Or.inl ⟨by rfl, ?hy56⟩) hHeld ?rest56
                        case hy56 => (intro w9 hSw; (try dsimp only at hSw); go_simp; (try with_reducible rfl))
                        try simp only [Act.put, List.setIfInBounds_toArray, List.set_cons_zero, List.set_cons_succ]
                        refine takeL (i := 11) (v := ?vv57) rfl (by kernel_rfl) (by kernel_rfl) (by kernel_rfl) (fun _ _ _ h => h) (Or.inl ⟨by rfl, ?hy57⟩) hHeld ?rest57
                        case hy57 => (intro w9 hSw; (try dsimp only at hSw); go_simp; (try with_reducible rfl))
                        try simp only [Act.put, List.setIfInBounds_toArray, List.set_cons_zero, List.set_cons_succ]
                        refine takeL (i := 12) (v := ?vv58) rfl (by kernel_rfl) (by kernel_rfl) (by kernel_rfl) (fun _ _ _ h => h) (Or.inl ⟨by rfl, ?hy58⟩) hHeld ?rest58
                        case hy58 => (intro w9 hSw; (try dsimp only at hSw); have cl := CL.out _ hSw; go_simp; (try with_reducible rfl))
                        try simp only [Act.put, List.setIfInBounds_toArray, List.set_cons_zero, List.set_cons_succ]
                        refine wpAnyH_ready (rs := [13]) (by kernel_rfl) (by simp) (consL rfl (fun K hK => ?_) AllReadyH.nil)
                        go_simp
                        refine (P7.out _ hHeld).mono ?_; rintro e wx ⟨rfl, bx⟩
                        refine hK.out _ _ bx (fun hHeld => ?_)
                        clear hK K
                        try simp only [Act.put, List.setIfInBounds_toArray, List.set_cons_zero, List.set_cons_succ]
                        refine takeL (i := 14) (v := ?vv59) rfl (by kernel_rfl) (by kernel_rfl) (by kernel_rfl) (fun _ _ _ h => h) (Or.inl ⟨by rfl, ?hy59⟩) hHeld ?rest59
                        case hy59 => (intro w9 hSw; (try dsimp only at hSw); go_simp; (try with_reducible rfl))
                        try simp only [Act.put, List.setIfInBounds_toArray, List.set_cons_zero, List.set_cons_succ]
                        refine takeL (i := 15) (v := ?vv60) rfl (by kernel_rfl) (by kernel_rfl) (by kernel_rfl) (fun _ _ _ h => h) (Or.inl ⟨by rfl, ?hy60⟩) hHeld ?rest60
                        case hy60 => (intro w9 hSw; (try dsimp only at hSw); go_simp; (try with_reducible rfl))
                        try simp only [Act.put, List.setIfInBounds_toArray, List.set_cons_zero, List.set_cons_succ]
                        refine takeL (i := 16) (v := ?vv61) rfl (by kernel_rfl) (by kernel_rfl) (by kernel_rfl) (fun _ _ _ h => h) (Or.inl ⟨by rfl, ?hy61⟩) hHeld ?rest61
                        case hy61 => (intro w9 hSw; (try dsimp only at hSw); go_simp; (try with_reducible rfl))
                        try simp only [Act.put, List.setIfInBounds_toArray, List.set_cons_zero, List.set_cons_succ]
                        refine takeL (i := 17) (v := ?vv62) rfl (by kernel_rfl) (by kernel_rfl) (by kernel_rfl) (fun _ _ _ h => h) (Or.inl ⟨by rfl, ?hy62⟩) hHeld ?rest62
                        case hy62 => (intro w9 hSw; (try dsimp only at hSw); go_simp; (try with_reducible rfl))
                        try simp only [Act.put, List.setIfInBounds_toArray, List.set_cons_zero, List.set_cons_succ]
                        refine takeL (i := 18) (v := ?vv63) rfl (by kernel_rfl) (by kernel_rfl) (by kernel_rfl) (fun _ _ _ h => h) (Or.inl ⟨by rfl, ?hy63⟩) hHeld ?rest63
                        case hy63 => (intro w9 hSw; (try dsimp only at hSw); go_simp; (try with_reducible rfl))
                        try simp only [Act.put, List.setIfInBounds_toArray, List.set_cons_zero, List.set_cons_succ]
                        refine takeL (i := 19) (v := ?vv64) rfl (by kernel_rfl) (by kernel_rfl) (by kernel_rfl) (fun _ _ _ h => h) (Or.inl ⟨by rfl, ?hy64⟩) hHeld ?rest64
                        case hy64 => (intro w9 hSw; (try dsimp only at hSw); go_simp; (try with_reducible rfl))
                        try simp only [Act.put, List.setIfInBounds_toArray, List.set_cons_zero, List.set_cons_succ]
                        refine takeL (i := 20) (v := ?vv65) rfl (by kernel_rfl) (by kernel_rfl) (by kernel_rfl) (fun _ _ _ h => h) (Or.inl ⟨by rfl, ?hy65⟩) hHeld ?rest65
                        case hy65 => (intro w9 hSw; (try dsimp only at hSw); go_simp; (try with_reducible rfl))
                        try simp only [Act.put, List.setIfInBounds_toArray, List.set_cons_zero, List.set_cons_succ]
                        refine takeL (i := 21) (v := undef) rfl (by kernel_rfl) (by kernel_rfl) (by kernel_rfl) (fun _ _ _ h => h) (Or.inr ⟨by rfl, rfl⟩) hHeld ?_
                        try simp only [Act.put, List.setIfInBounds_toArray, List.set_cons_zero, List.set_cons_succ]
                        refine takeL (i := 22) (v := undef) rfl (by kernel_rfl) (by kernel_rfl) (by kernel_rfl) (fun _ _ _ h => h) (Or.inr ⟨by rfl, rfl⟩) hHeld ?_
                        try simp only [Act.put, List.setIfInBounds_toArray, List.set_cons_zero, List.set_cons_succ]
                        refine takeL (i := 23) (v := undef) rfl (by kernel_rfl) (by kernel_rfl) (by kernel_rfl) (fun _ _ _ h => h) (Or.inr ⟨by rfl, rfl⟩) hHeld ?_
                        try simp only [Act.put, List.setIfInBounds_toArray, List.set_cons_zero, List.set_cons_succ]
                        refine takeL (i := 24) (v := undef) rfl (by kernel_rfl) (by kernel_rfl) (by kernel_rfl) (fun _ _ _ h => h) (Or.inr ⟨by rfl, rfl⟩) hHeld ?_
                        try simp only [Act.put, List.setIfInBounds_toArray, List.set_cons_zero, List.set_cons_succ]
                        refine takeL (i := 25) (v := undef) rfl (by kernel_rfl) (by kernel_rfl) (by kernel_rfl) (fun _ _ _ h => h) (Or.inr ⟨by rfl, rfl⟩) hHeld ?_
                        try simp only [Act.put, List.setIfInBounds_toArray, List.set_cons_zero, List.set_cons_succ]
                        refine takeL (i := 26) (v := undef) rfl (by kernel_rfl) (by kernel_rfl) (by kernel_rfl) (fun _ _ _ h => h) (Or.inr ⟨by rfl, rfl⟩) hHeld ?_
                        try simp only [Act.put, List.setIfInBounds_toArray, List.set_cons_zero, List.set_cons_succ]
                        refine takeL (i := 27) (v := undef) rfl (by kernel_rfl) (by kernel_rfl) (by kernel_rfl) (fun _ _ _ h => h) (Or.inr ⟨by rfl, rfl⟩) hHeld ?_
                        try simp only [Act.put, List.setIfInBounds_toArray, List.set_cons_zero, List.set_cons_succ]
                        refine takeL (i := 28) (v := undef) rfl (by kernel_rfl) (by kernel_rfl) (by kernel_rfl) (fun _ _ _ h => h) (Or.inr ⟨by rfl, rfl⟩) hHeld ?_
                        try simp only [Act.put, List.setIfInBounds_toArray, List.set_cons_zero, List.set_cons_succ]
                        refine takeL (i := 29) (v := undef) rfl (by kernel_rfl) (by kernel_rfl) (by kernel_rfl) (fun _ _ _ h => h) (Or.inr ⟨by rfl, rfl⟩) hHeld ?_
                        try simp only [Act.put, List.setIfInBounds_toArray, List.set_cons_zero, List.set_cons_succ]
                        refine takeL (i := 30) (v := undef) rfl (by kernel_rfl) (by kernel_rfl) (by kernel_rfl) (fun _ _ _ h => h) (Or.inr ⟨by rfl, rfl⟩) hHeld ?_
                        try simp only [Act.put, List.setIfInBounds_toArray, List.set_cons_zero, List.set_cons_succ]
                        refine takeL (i := 31) (v := undef) rfl (by kernel_rfl) (by kernel_rfl) (by kernel_rfl) (fun _ _ _ h => h) (Or.inr ⟨by rfl, rfl⟩) hHeld ?_
                        try simp only [Act.put, List.setIfInBounds_toArray, List.set_cons_zero, List.set_cons_succ]
                        refine takeL (i := 32) (v := undef) rfl (by kernel_rfl) (by kernel_rfl) (by kernel_rfl) (fun _ _ _ h => h) (Or.inr ⟨by rfl, rfl⟩) hHeld ?_
                        try simp only [Act.put, List.setIfInBounds_toArray, List.set_cons_zero, List.set_cons_succ]
                        refine takeL (i := 33) (v := undef) rfl (by kernel_rfl) (by kernel_rfl) (by kernel_rfl) (fun _ _ _ h => h) (Or.inr ⟨by rfl, rfl⟩) hHeld ?_
                        try simp only [Act.put, List.setIfInBounds_toArray, List.set_cons_zero, List.set_cons_succ]
                        refine takeL (i := 34) (v := undef) rfl (by kernel_rfl) (by kernel_rfl) (by kernel_rfl) (fun _ _ _ h => h) (Or.inr ⟨by rfl, rfl⟩) hHeld ?_
                        try simp only [Act.put, List.setIfInBounds_toArray, List.set_cons_zero, List.set_cons_succ]
                        refine takeL (i := 35) (v := undef) rfl (by kernel_rfl) (by kernel_rfl) (by kernel_rfl) (fun _ _ _ h => h) (Or.inr ⟨by rfl, rfl⟩) hHeld ?_
                        try simp only [Act.put, List.setIfInBounds_toArray, List.set_cons_zero, List.set_cons_succ]
                        refine takeL (i := 36) (v := undef) rfl (by kernel_rfl) (by kernel_rfl) (by kernel_rfl) (fun _ _ _ h => h) (Or.inr ⟨by rfl, rfl⟩) hHeld ?_
                        try simp only [Act.put, List.setIfInBounds_toArray, List.set_cons_zero, List.set_cons_succ]
                        refine takeL (i := 37) (v := undef) rfl (by kernel_rfl) (by kernel_rfl) (by kernel_rfl) (fun _ _ _ h => h) (Or.inr ⟨by rfl, rfl⟩) hHeld ?_
                        try simp only [Act.put, List.setIfInBounds_toArray, List.set_cons_zero, List.set_cons_succ]
                        refine takeL (i := 38) (v := undef) rfl (by kernel_rfl) (by kernel_rfl) (by kernel_rfl) (fun _ _ _ h => h) (Or.inr ⟨by rfl, rfl⟩) hHeld ?_
                        try simp only [Act.put, List.setIfInBounds_toArray, List.set_cons_zero, List.set_cons_succ]
                        refine takeL (i := 39) (v := undef) rfl (by kernel_rfl) (by kernel_rfl) (by kernel_rfl) (fun _ _ _ h => h) (Or.inr ⟨by rfl, rfl⟩) hHeld ?_
                        try simp only [Act.put, List.setIfInBounds_toArray, List.set_cons_zero, List.set_cons_succ]
                        refine takeL (i := 40) (v := undef) rfl (by kernel_rfl) (by kernel_rfl) (by kernel_rfl) (fun _ _ _ h => h) (Or.inr ⟨by rfl, rfl⟩) hHeld ?_
                        try simp only [Act.put, List.setIfInBounds_toArray, List.set_cons_zero, List.set_cons_succ]
                        refine takeL (i := 41) (v := undef) rfl (by kernel_rfl) (by kernel_rfl) (by kernel_rfl) (fun _ _ _ h => h) (Or.inr ⟨by rfl, rfl⟩) hHeld ?_
                        try simp only [Act.put, List.setIfInBounds_toArray, List.set_cons_zero, List.set_cons_succ]
                        refine takeL (i := 42) (v := undef) rfl (by kernel_rfl) (by kernel_rfl) (by kernel_rfl) (fun _ _ _ h => h) (Or.inr ⟨by rfl, rfl⟩) hHeld ?_
                        try simp only [Act.put, List.setIfInBounds_toArray, List.set_cons_zero, List.set_cons_succ]
                        refine takeL (i := 43) (v := undef) rfl (by kernel_rfl) (by kernel_rfl) (by kernel_rfl) (fun _ _ _ h => h) (Or.inr ⟨by rfl, rfl⟩) hHeld ?_
                        try simp only [Act.put, List.setIfInBounds_toArray, List.set_cons_zero, List.set_cons_succ]
                        refine takeL (i := 44) (v := undef) rfl (by kernel_rfl) (by kernel_rfl) (by kernel_rfl) (fun _ _ _ h => h) (Or.inr ⟨by rfl, rfl⟩) hHeld ?_
                        try simp only [Act.put, List.setIfInBounds_toArray, List.set_cons_zero, List.set_cons_succ]
                        refine takeL (i := 45) (v := undef) rfl (by kernel_rfl) (by kernel_rfl) (by kernel_rfl) (fun _ _ _ h => h) (Or.inr ⟨by rfl, rfl⟩) hHeld ?_
                        try simp only [Act.put, List.setIfInBounds_toArray, List.set_cons_zero, List.set_cons_succ]
                        refine takeL (i := 46) (v := undef) rfl (by kernel_rfl) (by kernel_rfl) (by kernel_rfl) (fun _ _ _ h => h) (Or.inr ⟨by rfl, rfl⟩) hHeld ?_
                        try simp only [Act.put, List.setIfInBounds_toArray, List.set_cons_zero, List.set_cons_succ]
                        refine takeL (i := 47) (v := undef) rfl (by kernel_rfl) (by kernel_rfl) (by kernel_rfl) (fun _ _ _ h => h) (Or.inr ⟨by rfl, rfl⟩) hHeld ?_
                        try simp only [Act.put, List.setIfInBounds_toArray, List.set_cons_zero, List.set_cons_succ]
                        refine takeL (i := 48) (v := undef) rfl (by kernel_rfl) (by kernel_rfl) (by kernel_rfl) (fun _ _ _ h => h) (Or.inr ⟨by rfl, rfl⟩) hHeld ?_
                        try simp only [Act.put, List.setIfInBounds_toArray, List.set_cons_zero, List.set_cons_succ]
                        refine takeL (i := 49) (v := undef) rfl (by kernel_rfl) (by kernel_rfl) (by kernel_rfl) (fun _ _ _ h => h) (Or.inr ⟨by rfl, rfl⟩) hHeld ?_
                        try simp only [Act.put, List.setIfInBounds_toArray, List.set_cons_zero, List.set_cons_succ]
                        refine takeL (i := 50) (v := undef) rfl (by kernel_rfl) (by kernel_rfl) (by kernel_rfl) (fun _ _ _ h => h) (Or.inr ⟨by rfl, rfl⟩) hHeld ?_
                        try simp only [Act.put, List.setIfInBounds_toArray, List.set_cons_zero, List.set_cons_succ]
                        refine takeL (i := 51) (v := undef) rfl (by kernel_rfl) (by kernel_rfl) (by kernel_rfl) (fun _ _ _ h => h) (Or.inr ⟨by rfl, rfl⟩) hHeld ?_
                        try simp only [Act.put, List.setIfInBounds_toArray, List.set_cons_zero, List.set_cons_succ]
                        refine takeL (i := 52) (v := undef) rfl (by kernel_rfl) (by kernel_rfl) (by kernel_rfl) (fun _ _ _ h => h) (Or.inr ⟨by rfl, rfl⟩) hHeld ?_
                        try simp only [Act.put, List.setIfInBounds_toArray, List.set_cons_zero, List.set_cons_succ]
                        refine takeL (i := 53) (v := undef) rfl (by kernel_rfl) (by kernel_rfl) (by kernel_rfl) (fun _ _ _ h => h) (Or.inr ⟨by rfl, rfl⟩) hHeld ?_
                        try simp only [Act.put, List.setIfInBounds_toArray, List.set_cons_zero, List.set_cons_succ]
                        refine takeL (i := 54) (v := ?vv99) rfl (by kernel_rfl) (by kernel_rfl) (by kernel_rfl) (fun _ _ _ h => h) (Or.inl ⟨by rfl, ?hy99⟩) hHeld ?rest99
                        case hy99 => (intro w9 hSw; (try dsimp only at hSw); go_simp; (try with_reducible rfl))
                        try simp only [Act.put, List.setIfInBounds_toArray, List.set_cons_zero, List.set_cons_succ]
                        refine takeL (i := 55) (v := ?vv100) rfl (by kernel_rfl) (by kernel_rfl) (by kernel_rfl) (fun _ _ _ h => h) (Or.inl ⟨by rfl, ?hy100⟩) hHeld ?rest100
                        case hy100 => (intro w9 hSw; (try dsimp only at hSw); go_simp; (try with_reducible rfl))
                        try simp only [Act.put, List.setIfInBounds_toArray, List.set_cons_zero, List.set_cons_succ]
                        refine wpAnyH_done (by kernel_rfl) ?_ _
                        go_wp2
                        go_roundw
                        case rel => exact ⟨r + 1, HR.out, by go_num, blk_below HBX13.out hHeld, B13.out.trans (hHeld.mono B13.out.size)⟩
                        case measure => have := HR.out; simp [intOf]; omega
                    · have br : decide ((r : Int) < 4) = false := decide_eq_false (by omega)
                      go_wp2
                      go_roundw
                      case rel => exact ⟨q + 1, by omega, by go_num, HBr.out⟩
                      case measure => simp [intOf]; omega
                · have bq : decide ((q : Int) < 80) = false := decide_eq_false (by omega)
                  go_wp2
                  go_roundw
                  case rel => exact ⟨c + 1, by omega, by go_num, B10.out.trans (HBq.out.mono B10.out.size)⟩
                  case measure => simp [intOf]; omega
            · have bc : decide ((c : Int) < 6) = false := decide_eq_false (by omega)
              go_wp2
              go_roundw
              case rel => exact ⟨t + 1, by omega, by go_num, HBc.out⟩
              case measure => simp [intOf]; omega
        · have bt : decide ((t : Int) < 5) = false := decide_eq_false (by omega)
          have HE := Lib.hid (HBL.out.trans (HBt.out.mono HBL.out.size))
          go_wp2_with (first
            | (go_at_call 10; ((with_reducible refine (nil_start _ _).mono ?_); rintro e wn1 ⟨rfl, bn⟩); have E1 := Lib.hid (HE.out.trans (bn.mono HE.out.size)); clear bn)
            | (go_at_call 11; ((with_reducible refine (nil_stop _ _).mono ?_); rintro e wn2 ⟨rfl, bn⟩); have E2 := Lib.hid ((E1.out.alloc E1.out.size (.cells #[.bool false, .bool false, .bool false, .int .u8 0] 43)).trans (bn.mono (E1.out.alloc E1.out.size (.cells #[.bool false, .bool false, .bool false, .int .u8 0] 43)).size)); clear bn)
            | (go_at_call 12; ((with_reducible refine (nil_exit _ _ _).mono ?_); rintro e wn3 ⟨rfl, bn⟩); have E3 := Lib.hid ((E2.out.alloc E2.out.size (.cells #[.bool false, .bool false, .bool false, .int .u8 0] 43)).trans (bn.mono (E2.out.alloc E2.out.size (.cells #[.bool false, .bool false, .bool false, .int .u8 0] 43)).size)); clear bn)
            | (go_at_call 13; ((with_reducible refine (nil_tick _ _).mono ?_); rintro e wn4 ⟨rfl, bn⟩); have E4 := Lib.hid (E3.out.trans (bn.mono E3.out.size)); clear bn)
            | (go_at_call 14; ((with_reducible refine (nil_state _).mono ?_); rintro e w' ⟨rfl, rfl⟩))
            | (go_at_call 15; ((with_reducible refine (nil_due _).mono ?_); rintro e w' ⟨rfl, rfl⟩))
            | (go_at_call 16; ((with_reducible refine (nil_running _).mono ?_); rintro e w' ⟨rfl, rfl⟩))
            | (go_at_call 17; ((with_reducible refine (nil_copy _).mono ?_); rintro e w' ⟨rfl, rfl⟩))
            | (go_at_call 18; ((with_reducible refine (works_calls _).mono ?_); rintro e ww ⟨rfl, bw⟩); have BW := Lib.hid bw; clear bw))
          go_ret
          exact ⟨rfl, E4.out.trans (BW.out.mono E4.out.size)⟩
end Go.Proofs.Ytngoenbdimlppaa.Svc
