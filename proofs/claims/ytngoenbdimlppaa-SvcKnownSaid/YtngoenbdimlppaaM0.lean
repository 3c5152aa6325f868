/- The machine's block and the pure functions that its methods compute. -/
import Derived.Test.YtngoenbdimlppaaProg
import Derived.Below
import Derived.Deep.Draws
import Derived.OwnWalk
import Derived.Tactics
import Derived.WalkKit
import Derived.KernelRfl
import Derived.RowKit3
import Derived.Deep.LoopGhost
import Derived.Deep.QuietTactic
import Derived.BigQuiet
import Derived.WideLaws
import Derived.Deep.DeepCutAuto
import Derived.Deep.CutBlock
import Derived.Deep.RegionHeld3
import Derived.Laws.Rows
import Derived.OrdersHeld
import Derived.Laws.BitsLemmas
import Derived.RowKit
import Derived.WalkSpells
import Derived.Lib.Hide
import Derived.Test.YtngoenbdimlppaaWWords
import Derived.Test.YtngoenbdimlppaaWLast
import Derived.Test.YtngoenbdimlppaaWMore
namespace Go.Proofs.Ytngoenbdimlppaa.Svc
open Go.RowKit Go.Proofs.YtngoenbdimlppaaW.PrintWords Go.Proofs.YtngoenbdimlppaaW.PrintLast Go.Proofs.YtngoenbdimlppaaW.PrintMore
set_option linter.unusedVariables false
set_option linter.unusedSimpArgs false

/-- A slice's three parts. -/
structure SV where
  a : Option Addr
  n : Nat
  c : Nat
/-- What a file's cells hold. -/
structure FV where
  kind : Int
  x0 : SV
  x1 : SV
  x2 : SV
  x3 : SV
  x4 : SV
  x5 : SV
  x6 : SV
  x7 : Bool
  x8 : Int
  x9 : Int
  typ : Int
  rem : Bool
  rst : Int
  agn : Int
  up : Int
  dn : Int
  ex : SV
  tr : SV
  y1 : Int
  y2 : Int
  y3 : Bool
  y4 : Bool
  y5 : Bool
  y6 : ByteArray
/-- A machine's state. -/
structure MS where
  st : Int
  runs : Bool
  due : Int
  late : Bool
/-- What a machine asks for. -/
structure OV where
  sp : Bool
  ki : Bool
  ag : Bool
  re : Int

abbrev fc (F : FV) : Array Value := #[.int .u8 F.kind, .slice F.x0.a F.x0.n F.x0.c, .slice F.x1.a F.x1.n F.x1.c, .slice F.x2.a F.x2.n F.x2.c, .slice F.x3.a F.x3.n F.x3.c, .slice F.x4.a F.x4.n F.x4.c, .slice F.x5.a F.x5.n F.x5.c, .slice F.x6.a F.x6.n F.x6.c, .bool F.x7, .int .i64 F.x8, .int .i64 F.x9, .int .u8 F.typ, .bool F.rem, .int .u8 F.rst, .int .i64 F.agn, .int .i64 F.up, .int .i64 F.dn, .slice F.ex.a F.ex.n F.ex.c, .slice F.tr.a F.tr.n F.tr.c, .int .i64 F.y1, .int .i64 F.y2, .bool F.y3, .bool F.y4, .bool F.y5, .string F.y6]
def mc (F : FV) (s : MS) : Array Value := #[.int .u8 F.kind, .slice F.x0.a F.x0.n F.x0.c, .slice F.x1.a F.x1.n F.x1.c, .slice F.x2.a F.x2.n F.x2.c, .slice F.x3.a F.x3.n F.x3.c, .slice F.x4.a F.x4.n F.x4.c, .slice F.x5.a F.x5.n F.x5.c, .slice F.x6.a F.x6.n F.x6.c, .bool F.x7, .int .i64 F.x8, .int .i64 F.x9, .int .u8 F.typ, .bool F.rem, .int .u8 F.rst, .int .i64 F.agn, .int .i64 F.up, .int .i64 F.dn, .slice F.ex.a F.ex.n F.ex.c, .slice F.tr.a F.tr.n F.tr.c, .int .i64 F.y1, .int .i64 F.y2, .bool F.y3, .bool F.y4, .bool F.y5, .string F.y6, .int .u8 s.st, .bool s.runs, .int .i64 s.due, .bool s.late]
abbrev OV.v (o : OV) : Value := .agg #[.bool o.sp, .bool o.ki, .bool o.ag, .int .u8 o.re]

/-- Block g is a machine of the file F in the state s. -/
def MB (w : World) (g : Nat) (F : FV) (s : MS) : Prop := w.heap[g]? = some (.cells (mc F s) 67 (0, 0))

section
variable {w w' : World} {g : Nat} {F : FV} {s : MS}
theorem MB.c0 (h : MB w g F s) : w.cell? ⟨g, 0, none⟩ = some (.int .u8 F.kind) := (blk_cell h 0).trans rfl
theorem MB.c11 (h : MB w g F s) : w.cell? ⟨g, 11, none⟩ = some (.int .u8 F.typ) := (blk_cell h 11).trans rfl
theorem MB.c12 (h : MB w g F s) : w.cell? ⟨g, 12, none⟩ = some (.bool F.rem) := (blk_cell h 12).trans rfl
theorem MB.c13 (h : MB w g F s) : w.cell? ⟨g, 13, none⟩ = some (.int .u8 F.rst) := (blk_cell h 13).trans rfl
theorem MB.c14 (h : MB w g F s) : w.cell? ⟨g, 14, none⟩ = some (.int .i64 F.agn) := (blk_cell h 14).trans rfl
theorem MB.c15 (h : MB w g F s) : w.cell? ⟨g, 15, none⟩ = some (.int .i64 F.up) := (blk_cell h 15).trans rfl
theorem MB.c16 (h : MB w g F s) : w.cell? ⟨g, 16, none⟩ = some (.int .i64 F.dn) := (blk_cell h 16).trans rfl
theorem MB.c17 (h : MB w g F s) : w.cell? ⟨g, 17, none⟩ = some (.slice F.ex.a F.ex.n F.ex.c) := (blk_cell h 17).trans rfl
theorem MB.c25 (h : MB w g F s) : w.cell? ⟨g, 25, none⟩ = some (.int .u8 s.st) := (blk_cell h 25).trans rfl
theorem MB.c26 (h : MB w g F s) : w.cell? ⟨g, 26, none⟩ = some (.bool s.runs) := (blk_cell h 26).trans rfl
theorem MB.c27 (h : MB w g F s) : w.cell? ⟨g, 27, none⟩ = some (.int .i64 s.due) := (blk_cell h 27).trans rfl
theorem MB.c28 (h : MB w g F s) : w.cell? ⟨g, 28, none⟩ = some (.bool s.late) := (blk_cell h 28).trans rfl
theorem MB.fz (h : MB w g F s) (i : Nat) : w.frozen? ⟨g, i, none⟩ = false := blk_frozen h i
theorem MB.lt (h : MB w g F s) : g < w.heap.size := blk_lt h
theorem MB.s25 (h : MB w g F s) (x : Int) : MB (w.setCell ⟨g, 25, none⟩ (.int .u8 x)) g F { s with st := x } := blk_put h 25 _ rfl
theorem MB.s26 (h : MB w g F s) (x : Bool) : MB (w.setCell ⟨g, 26, none⟩ (.bool x)) g F { s with runs := x } := blk_put h 26 _ rfl
theorem MB.s27 (h : MB w g F s) (x : Int) : MB (w.setCell ⟨g, 27, none⟩ (.int .i64 x)) g F { s with due := x } := blk_put h 27 _ rfl
theorem MB.s28 (h : MB w g F s) (x : Bool) : MB (w.setCell ⟨g, 28, none⟩ (.bool x)) g F { s with late := x } := blk_put h 28 _ rfl
theorem MB.alloc (h : MB w g F s) (o : Obj) : MB (w.alloc o) g F s := blk_alloc h o
theorem MB.drew (h : MB w g F s) (n : Nat) : MB (w.drewN n) g F s := h
theorem MB.far (h : MB w g F s) {p : Addr} (hp : g ≠ p.block) (v : Value) : MB (w.setCell p v) g F s := blk_far h hp v
end

def INF : Int := 9223372036854775807

/-- A time and a span. -/
def later (t span : Int) : Int := if t = INF ∨ span = INF ∨ INF < t + (if span < 0 then 0 else span) then INF else t + (if span < 0 then 0 else span)
def toS (s : MS) (st : Int) : MS := ⟨st, s.runs, 9223372036854775807, false⟩

/-- What a call on the machine at g keeps: all that is not at g. -/
structure Stp (g : Nat) (w w' : World) : Prop where
  os : w'.os = w.os
  tape : w'.tape = w.tape
  output : w'.output = w.output
  size : w.heap.size ≤ w'.heap.size
  block : ∀ k, k < w.heap.size → k ≠ g → w'.heap[k]? = w.heap[k]?

theorem Stp.refl (g : Nat) (w : World) : Stp g w w := ⟨rfl, rfl, rfl, Nat.le_refl _, fun _ _ _ => rfl⟩
theorem Stp.trans {g : Nat} {a b c : World} (h : Stp g a b) (k : Stp g b c) : Stp g a c :=
  ⟨k.os.trans h.os, k.tape.trans h.tape, k.output.trans h.output, Nat.le_trans h.size k.size, fun i hi hg => (k.block i (Nat.lt_of_lt_of_le hi h.size) hg).trans (h.block i hi hg)⟩
theorem Stp.of_below {g : Nat} {a b : World} (h : Below a.heap.size a b) : Stp g a b := ⟨h.os, h.tape, h.output, h.size, fun k hk _ => h.block k hk⟩
theorem Stp.below {g n : Nat} {a b : World} (h : Stp g a b) (hg : n ≤ g) (hn : n ≤ a.heap.size) : Below n a b :=
  ⟨h.os, h.tape, h.output, h.size, fun k hk => h.block k (by omega) (by omega)⟩
theorem Stp.blk {g b : Nat} {a w : World} {o : Obj} (h : Stp g a w) (hb : a.heap[b]? = some o) (hg : b ≠ g) : w.heap[b]? = some o := (h.block b (blk_lt hb) hg).trans hb
theorem Stp.set {g j : Nat} {a w : World} (h : Stp g a w) (u : Value) : Stp g a (w.setCell ⟨g, j, none⟩ u) :=
  ⟨h.os, h.tape, h.output, by rw [World.size_setCell]; exact h.size, fun k hk hg => (Below.heap_setCell w ⟨g, j, none⟩ u k (by simpa using hg)).trans (h.block k hk hg)⟩
theorem Stp.box {g b j : Nat} {a w : World} (h : Stp g a w) (hb : a.heap.size ≤ b) (u : Value) : Stp g a (w.setCell ⟨b, j, none⟩ u) :=
  ⟨h.os, h.tape, h.output, by rw [World.size_setCell]; exact h.size, fun k hk hg => (Below.heap_setCell w ⟨b, j, none⟩ u k (by simp only []; omega)).trans (h.block k hk hg)⟩
theorem Stp.alloc {g : Nat} {a w : World} (h : Stp g a w) (o : Obj) : Stp g a (w.alloc o) :=
  ⟨h.os, h.tape, h.output, by rw [World.size_alloc]; have := h.size; omega, fun k hk hg => (Below.heap_alloc w o k (Nat.lt_of_lt_of_le hk h.size)).trans (h.block k hk hg)⟩
theorem Stp.drewN {g : Nat} {a w : World} (h : Stp g a w) (n : Nat) : Stp g a (w.drewN n) := ⟨h.os, h.tape, h.output, h.size, h.block⟩

theorem MB.below {w w' : World} {g : Nat} {F : FV} {s : MS} (h : MB w g F s) (hb : Below w.heap.size w w') : MB w' g F s := blk_below h hb
theorem MB.stp {w w' : World} {g g' : Nat} {F : FV} {s : MS} (h : MB w g F s) (hb : Stp g' w w') (hg : g ≠ g') : MB w' g F s := hb.blk h hg
theorem put4 {w : World} {b : Nat} {t : TypeId} {a0 a1 a2 a3 : Value} (h : w.heap[b]? = some (.cells #[a0, a1, a2, a3] t (0, 0))) (x0 x1 x2 x3 : Value) :
    ((((w.setCell ⟨b, 0, none⟩ x0).setCell ⟨b, 1, none⟩ x1).setCell ⟨b, 2, none⟩ x2).setCell ⟨b, 3, none⟩ x3).heap[b]? = some (.cells #[x0, x1, x2, x3] t (0, 0)) :=
  blk_put (blk_put (blk_put (blk_put h 0 x0 rfl) 1 x1 rfl) 2 x2 rfl) 3 x3 rfl
theorem MB.far4 {w : World} {g b : Nat} {F : FV} {s : MS} (h : MB w g F s) (hp : g ≠ b) (x0 x1 x2 x3 : Value) :
    MB ((((w.setCell ⟨b, 0, none⟩ x0).setCell ⟨b, 1, none⟩ x1).setCell ⟨b, 2, none⟩ x2).setCell ⟨b, 3, none⟩ x3) g F s := (((h.far hp _).far hp _).far hp _).far hp _
theorem Stp.box4 {g b : Nat} {a w : World} (h : Stp g a w) (hb : a.heap.size ≤ b) (x0 x1 x2 x3 : Value) :
    Stp g a ((((w.setCell ⟨b, 0, none⟩ x0).setCell ⟨b, 1, none⟩ x1).setCell ⟨b, 2, none⟩ x2).setCell ⟨b, 3, none⟩ x3) := (((h.box hb _).box hb _).box hb _).box hb _
theorem Stp.pre {g : Nat} {w w' : World} (o : Obj) (h : Stp g (w.alloc o) w') : Stp g w w' := ((Stp.refl g w).alloc o).trans h
theorem Stp.pre2 {g : Nat} {w w' : World} (o o' : Obj) (h : Stp g ((w.alloc o).alloc o') w') : Stp g w w' := (((Stp.refl g w).alloc o).alloc o').trans h
theorem Stp.other {g b : Nat} {a w w' : World} (h : Stp g a w) (k : Stp b w w') (hb : a.heap.size ≤ b) : Stp g a w' :=
  ⟨k.os.trans h.os, k.tape.trans h.tape, k.output.trans h.output, Nat.le_trans h.size k.size, fun i hi hg => (k.block i (Nat.lt_of_lt_of_le hi h.size) (by omega)).trans (h.block i hi hg)⟩

theorem to_calls (g : Nat) (F : FV) (s : MS) (st : Int) (w : World) (h : MB w g F s) :
    Calls Try.prog 26 #[.pointer (some ⟨g, 0, none⟩), .int .u8 st] w fun e w' => e = .returned (.tuple #[]) ∧ MB w' g F (toS s st) ∧ Stp g w w' := by
  have h25 := h.c25
  have h27 := h.c27
  have h28 := h.c28
  have f25 := h.fz 25
  have f27 := h.fz 27
  have f28 := h.fz 28
  have H := Lib.hid h
  clear h
  go_enter Try.func26, Try.ntmps26
  go_wp2
  go_end0
  exact ⟨rfl, ((H.out.s25 _).s27 _).s28 _, (((Stp.refl g w).set _).set _).set _⟩
end Go.Proofs.Ytngoenbdimlppaa.Svc
