/- The chapter's examples: the contracts of oneshot and works. -/
import Derived.Test.YtngoenbdimlppaaM8
import Derived.Test.YtngoenbdimlppaaWEqStruct
namespace Go.Proofs.Ytngoenbdimlppaa.Svc
open Go.RowKit Go.Proofs.YtngoenbdimlppaaW.PrintWords Go.Proofs.YtngoenbdimlppaaW.PrintLast Go.Proofs.YtngoenbdimlppaaW.PrintMore
set_option linter.unusedVariables false
set_option linter.unusedSimpArgs false
set_option maxRecDepth 100000

theorem eqA43 (d : Nat) (w : World) (x0 y0 : Bool) (x1 y1 : Bool) (x2 y2 : Bool) (x3 y3 : Int) :
    (Op.equalIn (d + 2) 43 (.agg #[.bool x0, .bool x1, .bool x2, .int .u8 x3]) (.agg #[.bool y0, .bool y1, .bool y2, .int .u8 y3])).run Try.prog w = .ok (x0 == y0 && (x1 == y1 && (x2 == y2 && (x3 == y3)))) w := by
  refine eqA_of Try.underlying43 (by kernel_rfl) ?_
  refine eqf_cons (by rfl) (by go_simp; rfl) (by go_simp; rfl) (by go_simp) ?_
  refine eqf_cons (by rfl) (by go_simp; rfl) (by go_simp; rfl) (by go_simp) ?_
  refine eqf_cons (by rfl) (by go_simp; rfl) (by go_simp; rfl) (by go_simp) ?_
  exact eqf_last (by rfl) (by go_simp; rfl) (by go_simp; rfl) (by go_simp)

theorem stp_setCells {g : Nat} {a : World} : ∀ (vs : List Value) (o : Nat) {w : World}, Stp g a w → Stp g a (w.setCells g o vs)
  | [], _, _, h => h
  | v :: r, o, _, h => stp_setCells r (o + 1) (h.set v)
section
variable {P : Program} {ops : Array Oper} {rest : List Oper} {op : Oper} {a : Act} {w : World} {Q : Exit → Act → World → Prop}
/-- A whole variable is read, where the operation's guard says so. -/
theorem wpList_load_if (hw : Region.wanted op (yielded ops a.tmps) = true) (ty : TypeId) (x : Operand) (ho : op.op = .load ty x)
    (b o : Nat) (hx : a.eval x = .pointer (some ⟨b, o, none⟩)) (cs : List Value) (d : TypeDesc) (hc : w.rangeAt b o cs)
    (hu : P.underlying ty = some d) (hd : d.isRow = true) (hi : (P.info? ty).map (·.size) = some cs.length)
    (h : wpList P ops Q rest (a.put op.dst (.agg cs.toArray)) w) : wpList P ops Q (op :: rest) a w :=
  wpList_step fun K hK => by simp only [hw, if_true]; exact wp_load_mid ty x ho b o hx cs d hc hu hd hi (hK _ _ h)
/-- A whole variable is written. -/
theorem wpList_store_all (hgd : op.guard = none) (ty : TypeId) (x y : Operand) (ho : op.op = .store ty x y) (g : Nat) (old cells : Array Value) (t : TypeId)
    (hx : a.eval x = .pointer (some ⟨g, 0, none⟩)) (hy : a.eval y = .agg cells) (hb : w.heap[g]? = some (.cells old t (0, 0))) (hl : old.size = cells.size)
    (hi : (P.info? ty).map (·.size) = some cells.size) (h1 : cells.all (·.oneCell') = true)
    (h : ∀ w', w'.heap[g]? = some (.cells cells t (0, 0)) → Stp g w w' → wpList P ops Q rest (a.put op.dst undef) w') : wpList P ops Q (op :: rest) a w :=
  wpList_store_mid hgd ty x y ho g 0 cells hx hy (there_blk hb (Nat.le_of_eq hl.symm)) hi h1
    (h _ (by have := setCells_blk cells.toList [] 0 w old hb (by simp [hl]) rfl; simpa using this) (stp_setCells _ _ (Stp.refl _ _)))
end

/-- A oneshot service with words. -/
structure IsOne (F : FV) (rem : Bool) (rst : Int) : Prop where
  kind : F.kind = 1
  typ : F.typ = 2
  rem : F.rem = rem
  rst : F.rst = rst
  agn : F.agn = 100
  up : F.up = 1000
  dn : F.dn = 50
  ex : F.ex.n = 1
def oneF (rem : Bool) (rst : Int) (a : Option Addr) : FV :=
  ⟨1, ⟨none, 0, 0⟩, ⟨none, 0, 0⟩, ⟨none, 0, 0⟩, ⟨none, 0, 0⟩, ⟨none, 0, 0⟩, ⟨none, 0, 0⟩, ⟨none, 0, 0⟩, false, 0, 0, 2, rem, rst, 100, 1000, 50, ⟨a, 1, 1⟩, ⟨none, 0, 0⟩, 0, 0, false, false, false, ⟨#[]⟩⟩
def zf : Array Value := #[.int .u8 0, .slice none 0 0, .slice none 0 0, .slice none 0 0, .slice none 0 0, .slice none 0 0, .slice none 0 0, .slice none 0 0, .bool false, .int .i64 0, .int .i64 0, .int .u8 0, .bool false, .int .u8 0, .int .i64 0, .int .i64 0, .int .i64 0, .slice none 0 0, .slice none 0 0, .int .i64 0, .int .i64 0, .bool false, .bool false, .bool false, .string ⟨#[]⟩]
theorem fc_one (F : FV) : (fc F).all (·.oneCell') = true := by simp [fc, Value.oneCell']
theorem oneshot_calls (rem : Bool) (rst : Int) (w : World) :
    Calls Try.prog 8 #[.bool rem, .int .u8 rst] w fun e w' => ∃ F, e = .returned (.agg (fc F)) ∧ IsOne F rem rst ∧ Below w.heap.size w w' := by
  have hu36 := Try.underlying36
  have hu31 := Try.underlying31
  go_enter Try.func8, Try.ntmps8
  go_wp2_with (first
    | ((with_reducible refine gate_dst (N := 4) rfl ?_); refine box_event ?hg (N := 4) ?hd (cs := zf) (t := 36) ?hr ?_; (case hd => rfl); (case hg => rfl); (case hr => first | (go_simp; done) | (go_simp; rfl)); intro g1 e1 w1 h1 b1; have E1 := Lib.hid e1; have H1 := Lib.hid h1; have B1 := Lib.hid b1; clear e1 h1 b1)
    | ((with_reducible refine gate_store (t := 36) (p := 4) rfl ?_); refine wpList_store_all rfl 36 _ _ rfl g1 zf (fc (oneF rem rst (some ⟨w1.heap.size, 0, none⟩))) 36 rfl rfl (blk_alloc H1.out _) rfl (by kernel_rfl) (fc_one _) ?_; intro w2 h2 s2; have H2 := Lib.hid h2; have S2 := Lib.hid s2; clear h2 s2))
  refine bodyPost_ret (results_cell_row rfl _ _ g1 36 _ (0, 0) _ rfl H2.out Try.underlying36 rfl (by kernel_rfl)) rfl ?_
  exact ⟨_, rfl, ⟨rfl, rfl, rfl, rfl, rfl, rfl, rfl, rfl⟩, (B1.out.alloc B1.out.size _).trans (S2.out.below (Nat.le_of_eq E1.out.symm) (by rw [World.size_alloc]; have := B1.out.size; omega))⟩

/-! ### the values that the examples come to -/
theorem one_start (F : FV) (h : IsOne F false 1) : startV F newS 5 = ((⟨true, false, false, 0⟩, 0), ⟨2, true, 1005, false⟩) := by
  simp [startV, beginV, newS, later, INF, h.kind, h.typ, h.ex, h.up]
theorem one_exit (F : FV) (h : IsOne F false 1) : exitV F ⟨2, true, 1005, false⟩ 0 9 = (⟨false, false, false, 1⟩, ⟨1, false, 9223372036854775807, false⟩) := by
  simp [exitV, failsV, toS, h.typ, h.rem]
def simpF (F : FV) : FV := { F with typ := 1 }
theorem two_start (F : FV) (h : IsOne F false 2) : startV (simpF F) newS 0 = ((⟨true, false, false, 1⟩, 0), ⟨3, true, 9223372036854775807, false⟩) := by
  simp [startV, beginV, newS, simpF, h.kind]
theorem two_exit (F : FV) (h : IsOne F false 2) : exitV (simpF F) ⟨3, true, 9223372036854775807, false⟩ 1 7 = (⟨false, false, false, 0⟩, ⟨5, false, 107, false⟩) := by
  simp [exitV, endS, endSt, endAg, later, INF, simpF, h.rst, h.agn]
theorem r64 {x : Int} (h : -9223372036854775808 ≤ x) (h' : x ≤ 9223372036854775807) : R64 x := ⟨h, h'⟩
theorem one_start_c (g : Nat) (F : FV) (h : IsOne F false 1) (w : World) (hm : MB w g F newS) : Calls Try.prog 10 #[.pointer (some ⟨g, 0, none⟩), .int .i64 5] w fun e w' =>
    e = .returned (.tuple #[.agg #[.bool true, .bool false, .bool false, .int .u8 0], .int .i64 0]) ∧ MB w' g F ⟨2, true, 1005, false⟩ ∧ Stp g w w' := by
  have := start_calls g F newS 5 w hm (r64 (by omega) (by omega)) (by rw [h.up]; exact r64 (by omega) (by omega))
  rw [one_start F h] at this; exact this
theorem one_exit_c (g : Nat) (F : FV) (h : IsOne F false 1) (w : World) (hm : MB w g F ⟨2, true, 1005, false⟩) : Calls Try.prog 12 #[.pointer (some ⟨g, 0, none⟩), .int .i64 0, .int .i64 9] w fun e w' =>
    e = .returned (.agg #[.bool false, .bool false, .bool false, .int .u8 1]) ∧ MB w' g F ⟨1, false, 9223372036854775807, false⟩ ∧ Stp g w w' := by
  have := exit_calls g F ⟨2, true, 1005, false⟩ 0 9 w hm (r64 (by omega) (by omega)) (by rw [h.agn]; exact r64 (by omega) (by omega)) (fun _ => .inl rfl)
  rw [one_exit F h] at this; exact this
theorem two_start_c (g : Nat) (F : FV) (h : IsOne F false 2) (w : World) (hm : MB w g (simpF F) newS) : Calls Try.prog 10 #[.pointer (some ⟨g, 0, none⟩), .int .i64 0] w fun e w' =>
    e = .returned (.tuple #[.agg #[.bool true, .bool false, .bool false, .int .u8 1], .int .i64 0]) ∧ MB w' g (simpF F) ⟨3, true, 9223372036854775807, false⟩ ∧ Stp g w w' := by
  have := start_calls g (simpF F) newS 0 w hm (r64 (by omega) (by omega)) (by rw [show (simpF F).up = F.up from rfl, h.up]; exact r64 (by omega) (by omega))
  rw [two_start F h] at this; exact this
theorem two_exit_c (g : Nat) (F : FV) (h : IsOne F false 2) (w : World) (hm : MB w g (simpF F) ⟨3, true, 9223372036854775807, false⟩) : Calls Try.prog 12 #[.pointer (some ⟨g, 0, none⟩), .int .i64 1, .int .i64 7] w fun e w' =>
    e = .returned (.agg #[.bool false, .bool false, .bool false, .int .u8 0]) ∧ MB w' g (simpF F) ⟨5, false, 107, false⟩ ∧ Stp g w w' := by
  have := exit_calls g (simpF F) ⟨3, true, 9223372036854775807, false⟩ 1 7 w hm (r64 (by omega) (by omega)) (by rw [show (simpF F).agn = F.agn from rfl, h.agn]; exact r64 (by omega) (by omega)) (fun _ => .inr (.inl rfl))
  rw [two_exit F h] at this; exact this
end Go.Proofs.Ytngoenbdimlppaa.Svc
