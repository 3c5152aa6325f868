/- The contract of clepsydrakit.Plain: a file, told as the reference's. -/
import Derived.Test.YtngoenbdimlppaaN3
import Derived.Deep.AppendLies
import Derived.Test.YtngoenbdimlppaaN0
namespace Go.Proofs.Ytngoenbdimlppaa.Svc
open Go.RowKit Go.Proofs.YtngoenbdimlppaaW.PrintWords Go.Proofs.YtngoenbdimlppaaW.PrintLast Go.Proofs.YtngoenbdimlppaaW.PrintMore
open Go.Proofs.Ytngoenbdimlppaa.All (S76 k76 rd_T76 at_T76)
set_option linter.unusedVariables false
set_option linter.unusedSimpArgs false
set_option maxRecDepth 100000

def Only (I : Act → World → Prop) : Exit → Act → World → Prop
  | .normal, a, w => I a w
  | _, _, _ => False
theorem wp_cut {P : Program} {c : Code} {I : Act → World → Prop} {Q : Exit → Act → World → Prop} {a : Act} {w : World} (h : c.wp P (Only I) a w) (hk : ∀ a w, I a w → Q .normal a w) : c.wp P Q a w :=
  Code.wp_mono (fun e a w hh => by cases e <;> first | exact hk a w hh | exact (hh : False).elim) h
abbrev uc (F : FV) : Array Value := #[.slice F.x0.a F.x0.n F.x0.c, .slice F.x1.a F.x1.n F.x1.c, .slice F.x2.a F.x2.n F.x2.c, .slice F.x3.a F.x3.n F.x3.c, .slice F.x4.a F.x4.n F.x4.c, .slice F.x5.a F.x5.n F.x5.c, .slice F.x6.a F.x6.n F.x6.c, .bool F.x7, .int .i64 F.x8, .int .i64 F.x9]
abbrev tc (F : FV) : Array Value := #[.slice F.tr.a F.tr.n F.tr.c, .int .i64 F.y1, .int .i64 F.y2, .bool F.y3, .bool F.y4, .bool F.y5, .string F.y6]
theorem three_boxes (w : World) (o1 o2 o3 : Obj) : (((w.alloc o1).alloc o2).alloc o3).heap[w.heap.size]? = some o1 ∧ (((w.alloc o1).alloc o2).alloc o3).heap[w.heap.size + 1]? = some o2 ∧ (((w.alloc o1).alloc o2).alloc o3).heap[w.heap.size + 1 + 1]? = some o3 := by
  refine ⟨blk_alloc (two_boxes w o1 o2).1 _, blk_alloc (two_boxes w o1 o2).2 _, ?_⟩
  have e1 : ((w.alloc o1).alloc o2).heap.size = w.heap.size + 1 + 1 := by rw [World.size_alloc, World.size_alloc]
  rw [← e1]; exact blk_new _ _
def zr : Array Value := #[.int .i64 0, .slice none 0 0, .slice none 0 0, .slice none 0 0, .slice none 0 0, .slice none 0 0, .slice none 0 0, .slice none 0 0, .bool false, .int .i64 0, .int .i64 0, .int .i64 0, .bool false, .int .i64 0, .int .i64 0, .int .i64 0, .int .i64 0, .slice none 0 0, .slice none 0 0, .int .i64 0, .int .i64 0, .bool false, .bool false, .bool false, .string ⟨#[]⟩]
/-- What the first statement leaves: the file's three parts in boxes of their own. -/
def Parts (F : FV) (g1 g2 : Nat) (W : World) (a : Act) (w : World) : Prop := ∃ b3 b4 b5, a = { tmps := #[.agg (fc F), .pointer (some ⟨g1, 0, none⟩), .pointer (some ⟨g2, 0, none⟩), .pointer (some ⟨b3, 0, none⟩), .pointer (some ⟨b4, 0, none⟩), .pointer (some ⟨b5, 0, none⟩), undef, undef, .pointer (some ⟨g1, 1, none⟩), .agg (uc F), .pointer (some ⟨g1, 11, none⟩), .agg (sc F), .pointer (some ⟨g1, 18, none⟩), .agg (tc F), undef, undef, undef, undef, undef, undef, undef, undef, undef, undef, undef, undef, undef, undef, undef, undef, undef, undef, undef, undef, undef, undef, undef, undef, undef, undef, undef, undef, undef, undef, undef, undef, undef, undef, undef, undef, undef, undef, undef, undef, undef, undef, undef, undef, undef, undef, undef, undef, undef, undef, undef, undef, undef, undef, undef, undef, undef, undef, undef, undef, undef, undef, undef, undef, undef, undef, undef, undef, undef, undef, undef, undef, undef, undef, undef, undef, undef, undef, undef, undef, undef, undef, undef, undef, undef, undef], defers := [] } ∧
  w.heap[b3]? = some (.cells (uc F) 29 (0, 0)) ∧ w.heap[b4]? = some (.cells (sc F) 31 (0, 0)) ∧ w.heap[b5]? = some (.cells (tc F) 34 (0, 0)) ∧ Below W.heap.size W w
theorem parts_S {F : FV} {g1 : Nat} {w' : World} (h : w'.heap[g1]? = some (.cells (fc F) 36 (0, 0))) : w'.cell? ⟨g1, 1, none⟩ = some (.slice F.x0.a F.x0.n F.x0.c) ∧ w'.cell? ⟨g1, 2, none⟩ = some (.slice F.x1.a F.x1.n F.x1.c) ∧ w'.cell? ⟨g1, 3, none⟩ = some (.slice F.x2.a F.x2.n F.x2.c) ∧ w'.cell? ⟨g1, 4, none⟩ = some (.slice F.x3.a F.x3.n F.x3.c) ∧ w'.cell? ⟨g1, 5, none⟩ = some (.slice F.x4.a F.x4.n F.x4.c) ∧ w'.cell? ⟨g1, 6, none⟩ = some (.slice F.x5.a F.x5.n F.x5.c) ∧ w'.cell? ⟨g1, 7, none⟩ = some (.slice F.x6.a F.x6.n F.x6.c) ∧ w'.cell? ⟨g1, 8, none⟩ = some (.bool F.x7) ∧ w'.cell? ⟨g1, 9, none⟩ = some (.int .i64 F.x8) ∧ w'.cell? ⟨g1, 10, none⟩ = some (.int .i64 F.x9) ∧ w'.cell? ⟨g1, 11, none⟩ = some (.int .u8 F.typ) ∧ w'.cell? ⟨g1, 12, none⟩ = some (.bool F.rem) ∧ w'.cell? ⟨g1, 13, none⟩ = some (.int .u8 F.rst) ∧ w'.cell? ⟨g1, 14, none⟩ = some (.int .i64 F.agn) ∧ w'.cell? ⟨g1, 15, none⟩ = some (.int .i64 F.up) ∧ w'.cell? ⟨g1, 16, none⟩ = some (.int .i64 F.dn) ∧ w'.cell? ⟨g1, 17, none⟩ = some (.slice F.ex.a F.ex.n F.ex.c) ∧ w'.cell? ⟨g1, 18, none⟩ = some (.slice F.tr.a F.tr.n F.tr.c) ∧ w'.cell? ⟨g1, 19, none⟩ = some (.int .i64 F.y1) ∧ w'.cell? ⟨g1, 20, none⟩ = some (.int .i64 F.y2) ∧ w'.cell? ⟨g1, 21, none⟩ = some (.bool F.y3) ∧ w'.cell? ⟨g1, 22, none⟩ = some (.bool F.y4) ∧ w'.cell? ⟨g1, 23, none⟩ = some (.bool F.y5) ∧ w'.cell? ⟨g1, 24, none⟩ = some (.string F.y6) :=
  ⟨(blk_cell h 1).trans rfl, (blk_cell h 2).trans rfl, (blk_cell h 3).trans rfl, (blk_cell h 4).trans rfl, (blk_cell h 5).trans rfl, (blk_cell h 6).trans rfl, (blk_cell h 7).trans rfl, (blk_cell h 8).trans rfl, (blk_cell h 9).trans rfl, (blk_cell h 10).trans rfl, (blk_cell h 11).trans rfl, (blk_cell h 12).trans rfl, (blk_cell h 13).trans rfl, (blk_cell h 14).trans rfl, (blk_cell h 15).trans rfl, (blk_cell h 16).trans rfl, (blk_cell h 17).trans rfl, (blk_cell h 18).trans rfl, (blk_cell h 19).trans rfl, (blk_cell h 20).trans rfl, (blk_cell h 21).trans rfl, (blk_cell h 22).trans rfl, (blk_cell h 23).trans rfl, (blk_cell h 24).trans rfl⟩
/-- What the round's reads lean on. -/
abbrev SP (F : FV) (b5 : Nat) (ad : Addr) (k : Nat) (q0 q1 : Int) (q2 : ByteArray) (w' : World) : Prop :=
  w'.cell? ⟨b5, 0, none⟩ = some (.slice (some ad) F.tr.n F.tr.c) ∧ w'.cell? (ad.add (k * 3)) = some (.int .u8 q0) ∧ w'.cell? ⟨(ad.add (k * 3)).block, (ad.add (k * 3)).off + 1, none⟩ = some (.int .i64 q1) ∧ w'.cell? ⟨(ad.add (k * 3)).block, (ad.add (k * 3)).off + 2, none⟩ = some (.string q2)
theorem SP.keep {F : FV} {b5 : Nat} {ad : Addr} {k : Nat} {q0 q1 : Int} {q2 : ByteArray} {W W' : World} (h : SP F b5 ad k q0 q1 q2 W) (h5 : W'.heap[b5]? = W.heap[b5]?) (he : W'.heap[(ad.add (k * 3)).block]? = W.heap[(ad.add (k * 3)).block]?) : SP F b5 ad k q0 q1 q2 W' :=
  ⟨(World.cell?_of_block (a := ⟨b5, 0, none⟩) h5).trans h.1, (World.cell?_of_block he).trans h.2.1, (World.cell?_of_block (a := ⟨(ad.add (k * 3)).block, (ad.add (k * 3)).off + 1, none⟩) he).trans h.2.2.1, (World.cell?_of_block (a := ⟨(ad.add (k * 3)).block, (ad.add (k * 3)).off + 2, none⟩) he).trans h.2.2.2⟩
theorem rfc_one (F : FV) : (rfc F).all (·.oneCell') = true := by simp [rfc, Value.oneCell']
theorem info78 : (Try.prog.info? 78).map (fun i => (i.zero, i.size, i.bytes)) = some (some (.agg #[.int .i64 0, .int .i64 0, .string ⟨#[]⟩]), 3, 32) := by kernel_rfl

set_option maxHeartbeats 4000000 in
theorem plain_calls (F : FV) (xs : List S76) (w : World) (hk : 0 ≤ F.kind ∧ F.kind ≤ 255) (ht : 0 ≤ F.typ ∧ F.typ ≤ 255) (hr : 0 ≤ F.rst ∧ F.rst ≤ 255) (hC : Kd.C k76 w F.tr.a F.tr.n xs) (hn : F.tr.n = xs.length) (hb : xs.length * 32 ≤ 140737488355328) :
    Calls Try.prog 22 #[.agg (fc F)] w fun e w' => ∃ z, e = .returned (.agg (rfc (ff F z))) ∧ Below w.heap.size w w' := by
  have hu29 := Try.underlying29
  have hu31 := Try.underlying31
  have hu34 := Try.underlying34
  have hu36 := Try.underlying36
  have hu61 := Try.underlying61
  obtain ⟨hk1, hk2⟩ := hk
  obtain ⟨ht1, ht2⟩ := ht
  obtain ⟨hr1, hr2⟩ := hr
  have HC := Lib.hid hC
  have HN := Lib.hid hn
  have HBD := Lib.hid hb
  clear hC hn hb
  go_enter Try.func22, Try.ntmps22
  go_wp2_with (first
    | ((with_reducible refine gate_dst (N := 1) rfl ?_); refine box_event ?hg (N := 1) ?hd (cs := fc F) (t := 36) ?hr ?_; (case hd => rfl); (case hg => rfl); (case hr => first | (go_simp; done) | (go_simp; rfl)); intro g1 e1 w1 h1 b1; have H1 := Lib.hid h1; have B1 := Lib.hid b1; clear e1 h1 b1)
    | ((with_reducible refine gate_dst (N := 2) rfl ?_); refine box_event ?hg (N := 2) ?hd (cs := zr) (t := 61) ?hr ?_; (case hd => rfl); (case hg => rfl); (case hr => first | (go_simp; done) | (go_simp; rfl)); intro g2 e2 w2 h2 b2; have l2 := blk_lt h2; have h12 := blk_below H1.out b2; have B2 := Lib.hid (B1.out.trans (b2.mono B1.out.size)); have H2 := Lib.hid h2; have H12 := Lib.hid h12; have G2 := Lib.hid (show w.heap.size ≤ g2 by rw [e2]; exact B1.out.size); clear e2 h2 b2 h12))
  refine wp_cut (I := Parts F g1 g2 w2) ?_ ?_
  · have c1 : w2.cell? ⟨g1, 1, none⟩ = some (.slice F.x0.a F.x0.n F.x0.c) := (blk_cell H12.out 1).trans rfl
    have c2 : w2.cell? ⟨g1, 2, none⟩ = some (.slice F.x1.a F.x1.n F.x1.c) := (blk_cell H12.out 2).trans rfl
    have c3 : w2.cell? ⟨g1, 3, none⟩ = some (.slice F.x2.a F.x2.n F.x2.c) := (blk_cell H12.out 3).trans rfl
    have c4 : w2.cell? ⟨g1, 4, none⟩ = some (.slice F.x3.a F.x3.n F.x3.c) := (blk_cell H12.out 4).trans rfl
    have c5 : w2.cell? ⟨g1, 5, none⟩ = some (.slice F.x4.a F.x4.n F.x4.c) := (blk_cell H12.out 5).trans rfl
    have c6 : w2.cell? ⟨g1, 6, none⟩ = some (.slice F.x5.a F.x5.n F.x5.c) := (blk_cell H12.out 6).trans rfl
    have c7 : w2.cell? ⟨g1, 7, none⟩ = some (.slice F.x6.a F.x6.n F.x6.c) := (blk_cell H12.out 7).trans rfl
    have c8 : w2.cell? ⟨g1, 8, none⟩ = some (.bool F.x7) := (blk_cell H12.out 8).trans rfl
    have c9 : w2.cell? ⟨g1, 9, none⟩ = some (.int .i64 F.x8) := (blk_cell H12.out 9).trans rfl
    have c10 : w2.cell? ⟨g1, 10, none⟩ = some (.int .i64 F.x9) := (blk_cell H12.out 10).trans rfl
    have c11 : w2.cell? ⟨g1, 11, none⟩ = some (.int .u8 F.typ) := (blk_cell H12.out 11).trans rfl
    have c12 : w2.cell? ⟨g1, 12, none⟩ = some (.bool F.rem) := (blk_cell H12.out 12).trans rfl
    have c13 : w2.cell? ⟨g1, 13, none⟩ = some (.int .u8 F.rst) := (blk_cell H12.out 13).trans rfl
    have c14 : w2.cell? ⟨g1, 14, none⟩ = some (.int .i64 F.agn) := (blk_cell H12.out 14).trans rfl
    have c15 : w2.cell? ⟨g1, 15, none⟩ = some (.int .i64 F.up) := (blk_cell H12.out 15).trans rfl
    have c16 : w2.cell? ⟨g1, 16, none⟩ = some (.int .i64 F.dn) := (blk_cell H12.out 16).trans rfl
    have c17 : w2.cell? ⟨g1, 17, none⟩ = some (.slice F.ex.a F.ex.n F.ex.c) := (blk_cell H12.out 17).trans rfl
    have c18 : w2.cell? ⟨g1, 18, none⟩ = some (.slice F.tr.a F.tr.n F.tr.c) := (blk_cell H12.out 18).trans rfl
    have c19 : w2.cell? ⟨g1, 19, none⟩ = some (.int .i64 F.y1) := (blk_cell H12.out 19).trans rfl
    have c20 : w2.cell? ⟨g1, 20, none⟩ = some (.int .i64 F.y2) := (blk_cell H12.out 20).trans rfl
    have c21 : w2.cell? ⟨g1, 21, none⟩ = some (.bool F.y3) := (blk_cell H12.out 21).trans rfl
    have c22 : w2.cell? ⟨g1, 22, none⟩ = some (.bool F.y4) := (blk_cell H12.out 22).trans rfl
    have c23 : w2.cell? ⟨g1, 23, none⟩ = some (.bool F.y5) := (blk_cell H12.out 23).trans rfl
    have c24 : w2.cell? ⟨g1, 24, none⟩ = some (.string F.y6) := (blk_cell H12.out 24).trans rfl
    have l1 := blk_lt H12.out
    have HD := Lib.hid (show w2.drew.heap[g1]? = some (.cells (fc F) 36 (0, 0)) from H12.out)
    have hHeld := parts_S HD.out
    go_region_held3 (fun w' => w'.cell? ⟨g1, 1, none⟩ = some (.slice F.x0.a F.x0.n F.x0.c) ∧ w'.cell? ⟨g1, 2, none⟩ = some (.slice F.x1.a F.x1.n F.x1.c) ∧ w'.cell? ⟨g1, 3, none⟩ = some (.slice F.x2.a F.x2.n F.x2.c) ∧ w'.cell? ⟨g1, 4, none⟩ = some (.slice F.x3.a F.x3.n F.x3.c) ∧ w'.cell? ⟨g1, 5, none⟩ = some (.slice F.x4.a F.x4.n F.x4.c) ∧ w'.cell? ⟨g1, 6, none⟩ = some (.slice F.x5.a F.x5.n F.x5.c) ∧ w'.cell? ⟨g1, 7, none⟩ = some (.slice F.x6.a F.x6.n F.x6.c) ∧ w'.cell? ⟨g1, 8, none⟩ = some (.bool F.x7) ∧ w'.cell? ⟨g1, 9, none⟩ = some (.int .i64 F.x8) ∧ w'.cell? ⟨g1, 10, none⟩ = some (.int .i64 F.x9) ∧ w'.cell? ⟨g1, 11, none⟩ = some (.int .u8 F.typ) ∧ w'.cell? ⟨g1, 12, none⟩ = some (.bool F.rem) ∧ w'.cell? ⟨g1, 13, none⟩ = some (.int .u8 F.rst) ∧ w'.cell? ⟨g1, 14, none⟩ = some (.int .i64 F.agn) ∧ w'.cell? ⟨g1, 15, none⟩ = some (.int .i64 F.up) ∧ w'.cell? ⟨g1, 16, none⟩ = some (.int .i64 F.dn) ∧ w'.cell? ⟨g1, 17, none⟩ = some (.slice F.ex.a F.ex.n F.ex.c) ∧ w'.cell? ⟨g1, 18, none⟩ = some (.slice F.tr.a F.tr.n F.tr.c) ∧ w'.cell? ⟨g1, 19, none⟩ = some (.int .i64 F.y1) ∧ w'.cell? ⟨g1, 20, none⟩ = some (.int .i64 F.y2) ∧ w'.cell? ⟨g1, 21, none⟩ = some (.bool F.y3) ∧ w'.cell? ⟨g1, 22, none⟩ = some (.bool F.y4) ∧ w'.cell? ⟨g1, 23, none⟩ = some (.bool F.y5) ∧ w'.cell? ⟨g1, 24, none⟩ = some (.string F.y6)) (((try dsimp only); (with_reducible refine parts_S ?_); with_reducible repeat (first | exact H12.out | refine blk_drew ?_ | refine blk_alloc ?_ _))) (fail)
    all_goals
      show Parts F g1 g2 w2 _ _
      unfold Parts
      have hBe := fun (o1 o2 o3 : Obj) => (below_alloc (below_alloc (below_alloc (Below.refl w2.heap.size w2) o1) o2) o3).drew
      first
        | exact ⟨_, _, _, rfl, (three_boxes w2 _ _ _).1, (three_boxes w2 _ _ _).2.1, (three_boxes w2 _ _ _).2.2, hBe _ _ _⟩
        | exact ⟨_, _, _, rfl, (three_boxes w2 _ _ _).1, (three_boxes w2 _ _ _).2.2, (three_boxes w2 _ _ _).2.1, hBe _ _ _⟩
        | exact ⟨_, _, _, rfl, (three_boxes w2 _ _ _).2.1, (three_boxes w2 _ _ _).1, (three_boxes w2 _ _ _).2.2, hBe _ _ _⟩
        | exact ⟨_, _, _, rfl, (three_boxes w2 _ _ _).2.1, (three_boxes w2 _ _ _).2.2, (three_boxes w2 _ _ _).1, hBe _ _ _⟩
        | exact ⟨_, _, _, rfl, (three_boxes w2 _ _ _).2.2, (three_boxes w2 _ _ _).1, (three_boxes w2 _ _ _).2.1, hBe _ _ _⟩
        | exact ⟨_, _, _, rfl, (three_boxes w2 _ _ _).2.2, (three_boxes w2 _ _ _).2.1, (three_boxes w2 _ _ _).1, hBe _ _ _⟩
  · intro a' w' hp
    obtain ⟨b3, b4, b5, rfl, h3, h4, h5, hB⟩ := hp
    have hk0 : w'.cell? ⟨g1, 0, none⟩ = some (.int .u8 F.kind) := (blk_cell (blk_below H12.out hB) 0).trans rfl
    have u0 : w'.cell? ⟨b3, 0, none⟩ = some (.slice F.x0.a F.x0.n F.x0.c) := (blk_cell h3 0).trans rfl
    have u1 : w'.cell? ⟨b3, 1, none⟩ = some (.slice F.x1.a F.x1.n F.x1.c) := (blk_cell h3 1).trans rfl
    have u2 : w'.cell? ⟨b3, 2, none⟩ = some (.slice F.x2.a F.x2.n F.x2.c) := (blk_cell h3 2).trans rfl
    have u3 : w'.cell? ⟨b3, 3, none⟩ = some (.slice F.x3.a F.x3.n F.x3.c) := (blk_cell h3 3).trans rfl
    have u4 : w'.cell? ⟨b3, 4, none⟩ = some (.slice F.x4.a F.x4.n F.x4.c) := (blk_cell h3 4).trans rfl
    have u5 : w'.cell? ⟨b3, 5, none⟩ = some (.slice F.x5.a F.x5.n F.x5.c) := (blk_cell h3 5).trans rfl
    have u6 : w'.cell? ⟨b3, 6, none⟩ = some (.slice F.x6.a F.x6.n F.x6.c) := (blk_cell h3 6).trans rfl
    have u7 : w'.cell? ⟨b3, 7, none⟩ = some (.bool F.x7) := (blk_cell h3 7).trans rfl
    have u8 : w'.cell? ⟨b3, 8, none⟩ = some (.int .i64 F.x8) := (blk_cell h3 8).trans rfl
    have u9 : w'.cell? ⟨b3, 9, none⟩ = some (.int .i64 F.x9) := (blk_cell h3 9).trans rfl
    have s0 : w'.cell? ⟨b4, 0, none⟩ = some (.int .u8 F.typ) := (blk_cell h4 0).trans rfl
    have s1 : w'.cell? ⟨b4, 1, none⟩ = some (.bool F.rem) := (blk_cell h4 1).trans rfl
    have s2 : w'.cell? ⟨b4, 2, none⟩ = some (.int .u8 F.rst) := (blk_cell h4 2).trans rfl
    have s3 : w'.cell? ⟨b4, 3, none⟩ = some (.int .i64 F.agn) := (blk_cell h4 3).trans rfl
    have s4 : w'.cell? ⟨b4, 4, none⟩ = some (.int .i64 F.up) := (blk_cell h4 4).trans rfl
    have s5 : w'.cell? ⟨b4, 5, none⟩ = some (.int .i64 F.dn) := (blk_cell h4 5).trans rfl
    have s6 : w'.cell? ⟨b4, 6, none⟩ = some (.slice F.ex.a F.ex.n F.ex.c) := (blk_cell h4 6).trans rfl
    have t0 : w'.cell? ⟨b5, 0, none⟩ = some (.slice F.tr.a F.tr.n F.tr.c) := (blk_cell h5 0).trans rfl
    have t1 : w'.cell? ⟨b5, 1, none⟩ = some (.int .i64 F.y1) := (blk_cell h5 1).trans rfl
    have t2 : w'.cell? ⟨b5, 2, none⟩ = some (.int .i64 F.y2) := (blk_cell h5 2).trans rfl
    have t3 : w'.cell? ⟨b5, 3, none⟩ = some (.bool F.y3) := (blk_cell h5 3).trans rfl
    have t4 : w'.cell? ⟨b5, 4, none⟩ = some (.bool F.y4) := (blk_cell h5 4).trans rfl
    have t5 : w'.cell? ⟨b5, 5, none⟩ = some (.bool F.y5) := (blk_cell h5 5).trans rfl
    have t6 : w'.cell? ⟨b5, 6, none⟩ = some (.string F.y6) := (blk_cell h5 6).trans rfl
    have l5 := blk_lt h5
    have H5 := Lib.hid h5
    have H2' := Lib.hid (blk_below H2.out hB)
    have HB := Lib.hid (B2.out.trans (hB.mono B2.out.size))
    clear h3 h4 h5 hB
    go_wp2_with (first
      | ((with_reducible refine gate_dst (N := 6) rfl ?_); refine box_event ?hg (N := 6) ?hd (cs := zr) (t := 61) ?hr ?_; (case hd => rfl); (case hg => rfl); (case hr => first | (go_simp; done) | (go_simp; rfl)); intro g6 e6 w6 h6 b6; have H6 := Lib.hid h6; have H56 := Lib.hid (blk_below H5.out b6); have H26 := Lib.hid (blk_below H2'.out b6); have HB6 := Lib.hid (HB.out.trans (b6.mono HB.out.size)); have G6 := Lib.hid (show w.heap.size ≤ g6 by rw [e6]; exact HB.out.size); have N56 := Lib.hid (show b5 ≠ g6 by rw [e6]; exact Nat.ne_of_lt l5); have N26 := Lib.hid (show g2 ≠ g6 by rw [e6]; exact Nat.ne_of_lt (blk_lt H2'.out)); clear e6 h6 b6)
      | ((with_reducible refine gate_store (t := 61) (p := 6) rfl ?_); refine wpList_store_all rfl 61 _ _ rfl g6 zr (rfc (ff F ⟨none, 0, 0⟩)) 61 rfl rfl H6.out rfl (by kernel_rfl) (rfc_one _) ?_; intro w7 h7 s7; have H7 := Lib.hid h7; have H57 := Lib.hid (s7.blk H56.out N56.out); have H27 := Lib.hid (s7.blk H26.out N26.out); have HB7 := Lib.hid (HB6.out.trans (s7.below G6.out HB6.out.size)); clear h7 s7))
    go_loopw [7] (fun i wr => ∃ (k : Nat) (z : SV) (ys : List Value), k ≤ xs.length ∧ i = .int .i64 k ∧ wr.heap[g6]? = some (.cells (rfc (ff F z)) 61 (0, 0)) ∧ wr.ownsRow w.heap.size 78 3 (.slice z.a z.n z.c) k ys ∧
        wr.heap[b5]? = some (.cells (tc F) 34 (0, 0)) ∧ wr.heap[g2]? = some (.cells zr 61 (0, 0)) ∧ Below w.heap.size w wr)
      (fun i _ => xs.length - (intOf i).toNat)
    case atStart => exact ⟨0, ⟨none, 0, 0⟩, [], Nat.zero_le _, rfl, H7.out, ⟨rfl, .inl ⟨rfl, rfl⟩⟩, H57.out, H27.out, HB7.out⟩
    case round =>
      obtain ⟨k, z, ys, hk, rfl, h6, hO, h5, h2, hB⟩ := hrel
      by_cases hlt : k < xs.length
      · have hlb : decide ((k : Int) < (F.tr.n : Int)) = true := decide_eq_true (by rw [HN.out]; omega)
        have hlb' : decide (k < F.tr.n) = true := decide_eq_true (by rw [HN.out]; omega)
        obtain ⟨ad, hA, x0, x1, x2⟩ := at_T76 HC.out (k : Int) (by omega) (by rw [HN.out]; omega)
        simp only [Int.toNat_natCast] at x0 x1 x2
        have eb0 := World.block_lt_of_cell? w _ x0
        have eb1 := World.block_lt_of_cell? w _ x1
        have eb2 := World.block_lt_of_cell? w _ x2
        replace x0 := (hB.cell eb0).trans x0
        replace x1 := (hB.cell eb1).trans x1
        replace x2 := (hB.cell eb2).trans x2
        obtain ⟨q0, hq0⟩ : ∃ q, q = (rd_T76 xs k).f0 := ⟨_, rfl⟩
        obtain ⟨q1, hq1⟩ : ∃ q, q = (rd_T76 xs k).f1 := ⟨_, rfl⟩
        obtain ⟨q2, hq2⟩ : ∃ q, q = (rd_T76 xs k).f2 := ⟨_, rfl⟩
        rw [← hq0] at x0; rw [← hq1] at x1; rw [← hq2] at x2
        have y0 : wr.cell? ⟨b5, 0, none⟩ = some (.slice (some ad) F.tr.n F.tr.c) := by rw [← hA]; exact (blk_cell h5 0).trans rfl
        have y18 : wr.cell? ⟨g6, 18, none⟩ = some (.slice z.a z.n z.c) := (blk_cell h6 18).trans rfl
        have l5 := blk_lt h5
        have l6 := blk_lt h6
        have hsz := hB.size
        have hk0 : (0 : Int) ≤ (k : Int) := Int.natCast_nonneg _
        have hk1 : (k : Int) < (F.tr.n : Int) := by rw [HN.out]; omega
        have H6 := Lib.hid h6
        have HO := Lib.hid hO
        have H5 := Lib.hid h5
        have H2r := Lib.hid h2
        have HBr := Lib.hid hB
        clear h6 hO h5 h2 hB hq0 hq1 hq2
        obtain ⟨i0, hi0, hz0, hz1, hz2⟩ := info_parts info78
        have hebr : (ad.add (k * 3)).block < wr.heap.size := by omega
        have hs0 : SP F b5 ad k q0 q1 q2 wr := ⟨y0, x0, x1, x2⟩
        have hsA : ∀ X, SP F b5 ad k q0 q1 q2 (wr.alloc X) := fun X => hs0.keep (Below.heap_alloc wr X _ l5) (Below.heap_alloc wr X _ hebr)
        have HS0 := Lib.hid hs0
        have HSA := Lib.hid hsA
        have n5 := own_ne HO.out H5.out (by decide)
        have n6 := own_ne HO.out H6.out (by decide)
        have n2 := own_ne HO.out H2r.out (by decide)
        have nE : some (ad.add (k * 3)).block ≠ (Value.slice z.a z.n z.c).ownBlock := fun hh => by
          have := own_base HO.out _ hh.symm
          omega
        have N5 := Lib.hid n5
        have N6 := Lib.hid n6
        have N2 := Lib.hid n2
        have NE := Lib.hid nE
        have HNA := Lib.hid (fun (X : Obj) => (show (wr.alloc X).drew.heap[wr.heap.size]? = some X from heap_alloc_new wr X))
        have HLT := Lib.hid hlt
        have hkb : k ≤ 4398046511104 := by have := HBD.out; omega
        have hbd : (k + 1) * 32 ≤ 140737488355328 := by have := HBD.out; omega
        have HBK := Lib.hid hbd
        have n56 : b5 ≠ g6 := blk_ne H5.out H6.out (by decide)
        have n26 : g2 ≠ g6 := N26.out
        have neg6 : (ad.add (k * 3)).block ≠ g6 := by have := G6.out; omega
        clear n5 n6 n2 nE hbd hs0 hsA
        go_wp2
        refine wp_region_pop (S := fun w' => w'.cell? ⟨g6, 18, none⟩ = some (.slice z.a z.n z.c) ∧ w'.cell? ⟨b5, 0, none⟩ = some (.slice (some ad) F.tr.n F.tr.c) ∧ w'.cell? (ad.add (k * 3)) = some (.int .u8 q0) ∧ w'.cell? ⟨(ad.add (k * 3)).block, (ad.add (k * 3)).off + 1, none⟩ = some (.int .i64 q1) ∧ w'.cell? ⟨(ad.add (k * 3)).block, (ad.add (k * 3)).off + 2, none⟩ = some (.string q2)) rfl (by kernel_rfl) (by kernel_rfl) (by kernel_rfl) ?_ (fun hHeld => ?_)
        · exact ⟨y18, HS0.out⟩
        simp only [List.pop_toArray, List.dropLast_cons_cons, List.dropLast_singleton]
        refine wpAnyH_take (i := 0) (v := ?vv0) rfl (by kernel_rfl) (by kernel_rfl) (by kernel_rfl) (fun _ _ _ h => h) (Or.inl ⟨by rfl, ?hy0⟩) hHeld ?rest0
        case hy0 => (intro w9 hSw; (try dsimp only at hSw); go_simp; (try with_reducible rfl))
        simp only [Act.put, List.setIfInBounds_toArray, List.set_cons_zero, List.set_cons_succ]
        refine wpAnyH_take (i := 1) (v := ?vv1) rfl (by kernel_rfl) (by kernel_rfl) (by kernel_rfl) (fun _ _ _ h => h) (Or.inl ⟨by rfl, ?hy1⟩) hHeld ?rest1
        case hy1 => (intro w9 hSw; (try dsimp only at hSw); go_simp; (try with_reducible rfl))
        simp only [Act.put, List.setIfInBounds_toArray, List.set_cons_zero, List.set_cons_succ]
        refine wpAnyH_take (i := 2) (v := ?vv2) rfl (by kernel_rfl) (by kernel_rfl) (by kernel_rfl) (fun _ _ _ h => h) (Or.inl ⟨by rfl, ?hy2⟩) hHeld ?rest2
        case hy2 => (intro w9 hSw; (try dsimp only at hSw); go_simp; (try with_reducible rfl))
        simp only [Act.put, List.setIfInBounds_toArray, List.set_cons_zero, List.set_cons_succ]
        refine wpAnyH_take (i := 3) (v := ?vv3) rfl (by kernel_rfl) (by kernel_rfl) (by kernel_rfl) (fun _ _ _ h => h) (Or.inl ⟨by rfl, ?hy3⟩) hHeld ?rest3
        case hy3 => (intro w9 hSw; (try dsimp only at hSw); go_simp; (try with_reducible rfl))
        simp only [Act.put, List.setIfInBounds_toArray, List.set_cons_zero, List.set_cons_succ]
        refine wpAnyH_take (i := 4) (v := ?vv4) rfl (by kernel_rfl) (by kernel_rfl) (by kernel_rfl) (fun _ _ _ h => h) (Or.inl ⟨by rfl, ?hy4⟩) hHeld ?rest4
        case hy4 => (intro w9 hSw; (try dsimp only at hSw); go_simp; (try with_reducible rfl))
        simp only [Act.put, List.setIfInBounds_toArray, List.set_cons_zero, List.set_cons_succ]
        refine wpAnyH_take (i := 5) (v := ?vv5) rfl (by kernel_rfl) (by kernel_rfl) (by kernel_rfl) (fun _ _ _ h => h) (Or.inl ⟨by rfl, ?hy5⟩) hHeld ?rest5
        case hy5 => (intro w9 hSw; (try dsimp only at hSw); go_simp; (try with_reducible rfl))
        simp only [Act.put, List.setIfInBounds_toArray, List.set_cons_zero, List.set_cons_succ]
        refine wpAnyH_take (i := 6) (v := ?vv6) rfl (by kernel_rfl) (by kernel_rfl) (by kernel_rfl) (fun _ _ _ h => h) (Or.inl ⟨by rfl, ?hy6⟩) hHeld ?rest6
        case hy6 => (intro w9 hSw; (try dsimp only at hSw); go_simp; (try with_reducible rfl))
        simp only [Act.put, List.setIfInBounds_toArray, List.set_cons_zero, List.set_cons_succ]
        refine wpAnyH_take (i := 7) (v := ?vv7) rfl (by kernel_rfl) (by kernel_rfl) (by kernel_rfl) (fun _ _ _ h => h) (Or.inl ⟨by rfl, ?hy7⟩) hHeld ?rest7
        case hy7 => (intro w9 hSw; (try dsimp only at hSw); go_simp; (try with_reducible rfl))
        simp only [Act.put, List.setIfInBounds_toArray, List.set_cons_zero, List.set_cons_succ]
        refine wpAnyH_take (i := 8) (v := ?vv8) rfl (by kernel_rfl) (by kernel_rfl) (by kernel_rfl) (fun _ _ _ h => h) (Or.inl ⟨by rfl, ?hy8⟩) hHeld ?rest8
        case hy8 => (intro w9 hSw; (try dsimp only at hSw); go_simp; (try with_reducible rfl))
        simp only [Act.put, List.setIfInBounds_toArray, List.set_cons_zero, List.set_cons_succ]
        refine wpAnyH_take (i := 9) (v := ?vv9) rfl (by kernel_rfl) (by kernel_rfl) (by kernel_rfl) (fun _ _ _ h => h) (Or.inl ⟨by rfl, ?hy9⟩) hHeld ?rest9
        case hy9 => (intro w9 hSw; (try dsimp only at hSw); go_simp; (try with_reducible rfl))
        simp only [Act.put, List.setIfInBounds_toArray, List.set_cons_zero, List.set_cons_succ]
        refine wpAnyH_take (i := 10) (v := ?vv10) rfl (by kernel_rfl) (by kernel_rfl) (by kernel_rfl) (fun _ _ _ h => h) (Or.inl ⟨by rfl, ?hy10⟩) hHeld ?rest10
        case hy10 => (intro w9 hSw; (try dsimp only at hSw); go_simp; (try with_reducible rfl))
        simp only [Act.put, List.setIfInBounds_toArray, List.set_cons_zero, List.set_cons_succ]
        refine wpAnyH_take (i := 11) (v := ?vv11) rfl (by kernel_rfl) (by kernel_rfl) (by kernel_rfl) (fun _ _ _ h => h) (Or.inl ⟨by rfl, ?hy11⟩) hHeld ?rest11
        case hy11 => (intro w9 hSw; (try dsimp only at hSw); go_simp; (try with_reducible rfl))
        simp only [Act.put, List.setIfInBounds_toArray, List.set_cons_zero, List.set_cons_succ]
        refine wpAnyH_take (i := 12) (v := ?vv12) rfl (by kernel_rfl) (by kernel_rfl) (by kernel_rfl) (fun _ _ _ h => h) (Or.inl ⟨by rfl, ?hy12⟩) hHeld ?rest12
        case hy12 => (intro w9 hSw; (try dsimp only at hSw); go_simp; (try with_reducible rfl))
        simp only [Act.put, List.setIfInBounds_toArray, List.set_cons_zero, List.set_cons_succ]
        refine wpAnyH_take (i := 13) (v := ?vv13) rfl (by kernel_rfl) (by kernel_rfl) (by kernel_rfl) (fun _ _ _ h => h) (Or.inl ⟨by rfl, ?hy13⟩) hHeld ?rest13
        case hy13 => (intro w9 hSw; (try dsimp only at hSw); go_simp; (try with_reducible rfl))
        simp only [Act.put, List.setIfInBounds_toArray, List.set_cons_zero, List.set_cons_succ]
        refine wpAnyH_take (i := 14) (v := ?vv14) rfl (by kernel_rfl) (by kernel_rfl) (by kernel_rfl) (fun _ _ _ h => h) (Or.inl ⟨by rfl, ?hy14⟩) hHeld ?rest14
        case hy14 => (intro w9 hSw; (try dsimp only at hSw); go_simp; (try with_reducible rfl))
        simp only [Act.put, List.setIfInBounds_toArray, List.set_cons_zero, List.set_cons_succ]
        refine wpAnyH_take (i := 15) (v := ?vv15) rfl (by kernel_rfl) (by kernel_rfl) (by kernel_rfl) (fun _ _ _ h => h) (Or.inl ⟨by rfl, ?hy15⟩) hHeld ?rest15
        case hy15 => (intro w9 hSw; (try dsimp only at hSw); go_simp; (try with_reducible rfl))
        simp only [Act.put, List.setIfInBounds_toArray, List.set_cons_zero, List.set_cons_succ]
        refine wpAnyH_take (i := 16) (v := ?vv16) rfl (by kernel_rfl) (by kernel_rfl) (by kernel_rfl) (fun _ _ _ h => h) (Or.inl ⟨by rfl, ?hy16⟩) hHeld ?rest16
        case hy16 => (intro w9 hSw; (try dsimp only at hSw); go_simp; (try with_reducible rfl))
        simp only [Act.put, List.setIfInBounds_toArray, List.set_cons_zero, List.set_cons_succ]
        refine wpAnyH_take (i := 17) (v := ?vv17) rfl (by kernel_rfl) (by kernel_rfl) (by kernel_rfl) (fun _ _ _ h => h) (Or.inl ⟨by rfl, ?hy17⟩) hHeld ?rest17
        case hy17 => (intro w9 hSw; (try dsimp only at hSw); go_simp; (try with_reducible rfl))
        simp only [Act.put, List.setIfInBounds_toArray, List.set_cons_zero, List.set_cons_succ]
        refine wpAnyH_take (i := 18) (v := ?vv18) rfl (by kernel_rfl) (by kernel_rfl) (by kernel_rfl) (fun _ _ _ h => h) (Or.inl ⟨by rfl, ?hy18⟩) hHeld ?rest18
        case hy18 => (intro w9 hSw; (try dsimp only at hSw); go_simp; (try with_reducible rfl))
        simp only [Act.put, List.setIfInBounds_toArray, List.set_cons_zero, List.set_cons_succ]
        refine wpAnyH_take (i := 19) (v := ?vv19) rfl (by kernel_rfl) (by kernel_rfl) (by kernel_rfl) (fun _ _ _ h => h) (Or.inl ⟨by rfl, ?hy19⟩) hHeld ?rest19
        case hy19 => (intro w9 hSw; (try dsimp only at hSw); go_simp; (try with_reducible rfl))
        simp only [Act.put, List.setIfInBounds_toArray, List.set_cons_zero, List.set_cons_succ]
        refine wpAnyH_take (i := 20) (v := ?vv20) rfl (by kernel_rfl) (by kernel_rfl) (by kernel_rfl) (fun _ _ _ h => h) (Or.inl ⟨by rfl, ?hy20⟩) hHeld ?rest20
        case hy20 => (intro w9 hSw; (try dsimp only at hSw); go_simp; (try with_reducible rfl))
        simp only [Act.put, List.setIfInBounds_toArray, List.set_cons_zero, List.set_cons_succ]
        refine wpAnyH_take (i := 21) (v := ?vv21) rfl (by kernel_rfl) (by kernel_rfl) (by kernel_rfl) (fun _ _ _ h => h) (Or.inl ⟨by rfl, ?hy21⟩) hHeld ?rest21
        case hy21 => (intro w9 hSw; (try dsimp only at hSw); go_simp; (try with_reducible rfl))
        simp only [Act.put, List.setIfInBounds_toArray, List.set_cons_zero, List.set_cons_succ]
        refine wpAnyH_ready (rs := [22]) (by kernel_rfl) (by simp) (AllReadyH.cons rfl (fun K hK => ?_) AllReadyH.nil)
        go_simp
        refine hK.out _ _ ?_ (fun hHeld => ?_)
        · exact ⟨(blk_cell (blk_alloc H6.out _) 18).trans rfl, HSA.out _⟩
        clear hK K
        try simp only [Act.put, List.setIfInBounds_toArray, List.set_cons_zero, List.set_cons_succ]
        refine wpAnyH_ready (rs := [23]) (by kernel_rfl) (by simp) (AllReadyH.cons rfl (fun K hK => ?_) AllReadyH.nil)
        (refine step_append_lies _ (by rfl) _ _ _ (by rfl) w.heap.size 78 i0 _ 3 32 Try.underlying59 hi0 hz0 hz1 hz2 rfl (by omega) (.slice z.a z.n z.c) k ys (by rfl) ((HO.out.alloc _).drew) ⟨wr.heap.size, 0, none⟩ 1 1 [.int .i64 (IntKind.i64.wrap q0), .int .i64 q1, .string q2] (by rfl) (by rfl) (World.news_of_block (cs := #[.int .i64 (IntKind.i64.wrap q0), .int .i64 q1, .string q2]) (t := 78) (fr := (0, 0)) (HNA.out _)) (by simp [Value.oneCell']) (by omega) (by have := HBK.out; unfold maxLen; omega) HBK.out (by simp; omega) (wr.heap.size + 1) (by simp) ?_; intro gg cap w1 hown1 hgrow hat hlt1; have hs1 : SP F b5 ad k q0 q1 q2 w1 := (HSA.out _).keep (hgrow.block _ (by simp; omega) N5.out) (hgrow.block _ (by simp; omega) NE.out); have h61 : w1.heap[g6]? = some (.cells (rfc (ff F z)) 61 (0, 0)) := (hgrow.block _ (by simp; omega) N6.out).trans (blk_alloc H6.out _); have y181 : w1.cell? ⟨g6, 18, none⟩ = some (.slice z.a z.n z.c) := (blk_cell h61 18).trans rfl; have f181 := blk_frozen h61 18)
        refine hK.out _ _ ?_ (fun hHeld => ?_)
        · exact ⟨y181, hs1⟩
        clear hK K
        try simp only [Act.put, List.setIfInBounds_toArray, List.set_cons_zero, List.set_cons_succ]
        refine wpAnyH_take (i := 24) (v := ?vv24) rfl (by kernel_rfl) (by kernel_rfl) (by kernel_rfl) (fun _ _ _ h => h) (Or.inl ⟨by rfl, ?hy24⟩) hHeld ?rest24
        case hy24 => (intro w9 hSw; (try dsimp only at hSw); go_simp; (try with_reducible rfl))
        simp only [Act.put, List.setIfInBounds_toArray, List.set_cons_zero, List.set_cons_succ]
        refine wpAnyH_done (by kernel_rfl) ?_ _
        show Oper.wp _ _ _ _ _ _
        go_simp
        all_goals
          have h51 : w1.heap[b5]? = some (.cells (tc F) 34 (0, 0)) := (hgrow.block _ (by simp; omega) N5.out).trans (blk_alloc H5.out _)
          have l2r := blk_lt H2r.out
          have h21 : w1.heap[g2]? = some (.cells zr 61 (0, 0)) := (hgrow.block _ (by simp; omega) N2.out).trans (blk_alloc H2r.out _)
          have hb1 := ((HBr.out.alloc HBr.out.size _).drew).grown hgrow (by simp; omega) (own_base HO.out)
          have H61 := Lib.hid h61
          have H51 := Lib.hid h51
          have H21 := Lib.hid h21
          have HB1 := Lib.hid hb1
          have HO1 := Lib.hid hown1
          clear h61 h51 h21 hb1 hown1 hgrow hat hs1
          go_wp2
          go_roundw
          case rel => exact ⟨k + 1, ⟨some ⟨gg, 0, none⟩, k + 1, cap⟩, _, HLT.out, by go_num, blk_put H61.out 18 _ rfl, own_setCell HO1.out (own_ne HO1.out H61.out (by decide)) _, blk_far H51.out (by simpa using n56) _, blk_far H21.out (by simpa using n26) _, HB1.out.setCell (by simp only []; exact G6.out) _⟩
          case measure => have := HLT.out; simp [intOf]; omega
      · have hlb : decide ((k : Int) < (F.tr.n : Int)) = false := decide_eq_false (by rw [HN.out]; omega)
        have hlb' : decide (k < F.tr.n) = false := decide_eq_false (by rw [HN.out]; omega)
        have y0 : wr.cell? ⟨b5, 0, none⟩ = some (.slice F.tr.a F.tr.n F.tr.c) := (blk_cell h5 0).trans rfl
        have H6 := Lib.hid h6
        have HBr := Lib.hid hB
        have H2r := Lib.hid h2
        clear h6 hO h5 h2 hB
        go_wp2_with (first
          | ((with_reducible refine gate_dst (N := 99) rfl ?_); refine wpList_load_mid rfl 61 _ rfl g6 0 rfl (rfc (ff F z)).toList _ (range_blk H6.out) hu61 rfl (by kernel_rfl) ?_)
          | ((with_reducible refine gate_store (t := 61) (p := 2) rfl ?_); refine wpList_store_all rfl 61 _ _ rfl g2 zr (rfc (ff F z)) 61 rfl rfl H2r.out rfl (by kernel_rfl) (rfc_one _) ?_; intro w8 h8 s8; have H8 := Lib.hid h8; have HB8 := Lib.hid (HBr.out.trans (s8.below G2.out HBr.out.size)); clear h8 s8))
        refine bodyPost_ret (results_cell_row rfl _ _ g2 61 _ (0, 0) _ rfl H8.out Try.underlying61 rfl (by kernel_rfl)) rfl ?_
        exact ⟨z, rfl, HB8.out⟩
end Go.Proofs.Ytngoenbdimlppaa.Svc
