/- Plain arithmetic: the reference's functions on whole numbers. -/
import Derived.Test.YtbegglmcbcepeaaPureA
import Derived.Test.YtbegglmcbcepeaaB4
namespace Go.Proofs.Ytbegglmcbcepeaa.All
open Go.RowKit Go.Proofs.YtbegglmcbcepeaaW.PrintWords Go.Proofs.YtbegglmcbcepeaaW.PrintLast Go.Proofs.YtbegglmcbcepeaaW.PrintMore
set_option linter.unusedVariables false
set_option linter.unusedSimpArgs false

abbrev BigT := Bool × Int × Int × Int × Int × Int
def dgs (t : BigT) : Nat → Int := dig t.2.1 t.2.2.1 t.2.2.2.1 t.2.2.2.2.1 t.2.2.2.2.2
def IsBig (t : BigT) (v : Int) : Prop := (∀ k, Dg (dgs t k)) ∧ v = if t.1 = true then -mag (dgs t) else mag (dgs t)
theorem mag_dig (o : Nat → Int) : mag (dig (o 0) (o 1) (o 2) (o 3) (o 4)) = mag o := rfl
theorem dig_Dg {a b c d e : Int} (ha : Dg a) (hb : Dg b) (hc : Dg c) (hd : Dg d) (he : Dg e) : ∀ k, Dg (dig a b c d e k)
  | 0 => ha
  | 1 => hb
  | 2 => hc
  | 3 => hd
  | _ + 4 => he
theorem isBig_of {m : Bool} {o : Nat → Int} {v : Int} (ho : ∀ k, Dg (o k)) (hv : v = if m = true then -mag o else mag o) : IsBig (m, o 0, o 1, o 2, o 3, o 4) v :=
  ⟨dig_Dg (ho 0) (ho 1) (ho 2) (ho 3) (ho 4), hv⟩
theorem zero_Dg : Dg 0 := ⟨by decide, by decide⟩

theorem absU_eq {n : Int} (h0 : -9223372036854775808 ≤ n) (h1 : n ≤ 9223372036854775807) : absU n = if n < 0 then -n else n := by
  unfold absU
  rw [IntKind.wrap_u64, IntKind.wrap_u64]
  split <;> omega
theorem Of_is {n : Int} (h0 : -9223372036854775808 ≤ n) (h1 : n ≤ 9223372036854775807) :
    ∃ lo hi, clepsydraref01_Of.f n = some (decide (n < 0), lo, hi, 0, 0, 0) ∧ Dg lo ∧ Dg hi ∧ lo + hi * 4294967296 = if n < 0 then -n else n := by
  refine ⟨_, _, rfl, ?_⟩
  have e := absU_eq h0 h1
  have hr : 0 ≤ absU n ∧ absU n < 18446744073709551616 := by rw [e]; split <;> omega
  rw [mask32 hr]
  unfold Dg
  split at e <;> omega
theorem Of_big {n : Int} (h0 : -9223372036854775808 ≤ n) (h1 : n ≤ 9223372036854775807) : ∃ t, clepsydraref01_Of.f n = some t ∧ IsBig t n := by
  obtain ⟨lo, hi, e, hl, hh, hs⟩ := Of_is h0 h1
  refine ⟨_, e, dig_Dg hl hh zero_Dg zero_Dg zero_Dg, ?_⟩
  show n = if decide (n < 0) = true then -mag (dig lo hi 0 0 0) else mag (dig lo hi 0 0 0)
  have hm : mag (dig lo hi 0 0 0) = lo + hi * 4294967296 := by
    show lo + hi * 4294967296 + 0 * _ + 0 * _ + 0 * _ = _
    omega
  rw [hm, hs]
  by_cases c : n < 0
  · rw [if_pos c, decide_eq_true c, if_pos rfl]; omega
  · rw [if_neg c, decide_eq_false c, if_neg (by decide)]

theorem Neg_big {t : BigT} {v : Int} (h : IsBig t v) : ∃ u, clepsydraref01_Neg.f t.1 t.2.1 t.2.2.1 t.2.2.2.1 t.2.2.2.2.1 t.2.2.2.2.2 = some u ∧ IsBig u (-v) := by
  refine ⟨_, rfl, h.1, ?_⟩
  obtain ⟨hd, hv⟩ := h
  show -v = if (!t.1) = true then -mag (dgs t) else mag (dgs t)
  cases ht : t.1
  · rw [ht, if_neg (by decide)] at hv
    rw [if_pos (by decide), hv]
  · rw [ht, if_pos rfl] at hv
    rw [if_neg (by decide), hv]; omega

def Small (v : Int) : Prop := -1267650600228229401496703205376 < v ∧ v < 1267650600228229401496703205376
theorem Add_big {x y : BigT} {v w : Int} (hx : IsBig x v) (hy : IsBig y w) (sv : Small v) (sw : Small w) :
    ∃ t, clepsydraref01_Add.f x.1 x.2.1 x.2.2.1 x.2.2.2.1 x.2.2.2.2.1 x.2.2.2.2.2 y.1 y.2.1 y.2.2.1 y.2.2.2.1 y.2.2.2.2.1 y.2.2.2.2.2 = some t ∧ IsBig t (v + w) := by
  obtain ⟨dx, ex⟩ := hx
  obtain ⟨dy, ey⟩ := hy
  have rx := mag_range dx
  have ry := mag_range dy
  unfold Small at sv sw
  unfold clepsydraref01_Add.f
  by_cases hs : (x.1 == y.1) = true
  · rw [if_pos hs]
    have hp := plus_mag dx dy
    have hc := cP_le dx dy 5
    have hd : ∀ k, Dg (oP (dgs x) (dgs y) k) := fun k => (oP_eq dx dy k).2
    have ro := mag_range hd
    refine ⟨(x.1, oP (dgs x) (dgs y) 0, oP (dgs x) (dgs y) 1, oP (dgs x) (dgs y) 2, oP (dgs x) (dgs y) 3, oP (dgs x) (dgs y) 4), rfl, isBig_of hd ?_⟩
    have he : x.1 = y.1 := by simpa using hs
    rw [← he] at ey
    split at ex <;> rename_i hm
    · rw [if_pos hm] at ey ⊢
      clear hd
      generalize mag (oP (dgs x) (dgs y)) = mo at *
      generalize cP (dgs x) (dgs y) 5 = c5 at *
      omega
    · rw [if_neg hm] at ey ⊢
      clear hd
      generalize mag (oP (dgs x) (dgs y)) = mo at *
      generalize cP (dgs x) (dgs y) 5 = c5 at *
      omega
  · rw [if_neg hs]
    have hne : x.1 ≠ y.1 := fun h => hs (by simp [h])
    have hz : clepsydraref01_Size.f x.1 x.2.1 x.2.2.1 x.2.2.2.1 x.2.2.2.2.1 x.2.2.2.2.2 y.1 y.2.1 y.2.2.1 y.2.2.2.1 y.2.2.2.2.1 y.2.2.2.2.2 = some (sizeF (dgs x) (dgs y) 5) := rfl
    rw [hz, bindS]
    by_cases hg : sizeF (dgs x) (dgs y) 5 ≥ 0
    · rw [if_pos hg]
      rw [size_mag dx dy] at hg
      have hp := less_mag dx dy
      have hc := cL_le dx dy 5
      have hd : ∀ k, Dg (oL (dgs x) (dgs y) k) := fun k => (oL_eq dx dy k).2
      have ro := mag_range hd
      refine ⟨(x.1, oL (dgs x) (dgs y) 0, oL (dgs x) (dgs y) 1, oL (dgs x) (dgs y) 2, oL (dgs x) (dgs y) 3, oL (dgs x) (dgs y) 4), rfl, isBig_of hd ?_⟩
      clear hd
      generalize mag (oL (dgs x) (dgs y)) = mo at *
      generalize cL (dgs x) (dgs y) 5 = c5 at *
      cases h1 : x.1 <;> cases h2 : y.1 <;> simp_all <;> omega
    · rw [if_neg hg]
      rw [size_mag dx dy] at hg
      have hp := less_mag dy dx
      have hc := cL_le dy dx 5
      have hd : ∀ k, Dg (oL (dgs y) (dgs x) k) := fun k => (oL_eq dy dx k).2
      have ro := mag_range hd
      refine ⟨(y.1, oL (dgs y) (dgs x) 0, oL (dgs y) (dgs x) 1, oL (dgs y) (dgs x) 2, oL (dgs y) (dgs x) 3, oL (dgs y) (dgs x) 4), rfl, isBig_of hd ?_⟩
      clear hd
      generalize mag (oL (dgs y) (dgs x)) = mo at *
      generalize cL (dgs y) (dgs x) 5 = c5 at *
      cases h1 : x.1 <;> cases h2 : y.1 <;> simp_all <;> omega

theorem Fits_big_is {t : BigT} {v : Int} (h : IsBig t v) : clepsydraref01_Fits.f t.1 t.2.1 t.2.2.1 t.2.2.2.1 t.2.2.2.2.1 t.2.2.2.2.2 = some (if -9223372036854775808 ≤ v ∧ v ≤ 9223372036854775807 then (v, true) else (0, false)) := by
  obtain ⟨hd, hv⟩ := h
  unfold clepsydraref01_Fits.f
  congr 1
  obtain ⟨m, d0, d1, d2, d3, d4⟩ := t
  have h0 : Dg d0 := hd 0
  have h1 : Dg d1 := hd 1
  have h2 : Dg d2 := hd 2
  have h3 : Dg d3 := hd 3
  have h4 : Dg d4 := hd 4
  have hm : mag (dgs (m, d0, d1, d2, d3, d4)) = d0 + d1 * 4294967296 + d2 * 18446744073709551616 + d3 * 79228162514264337593543950336 + d4 * 340282366920938463463374607431768211456 := rfl
  rw [hm] at hv
  clear hd hm
  dsimp only at hv ⊢
  unfold Dg at *
  have hu : uF d0 d1 = d1 * 4294967296 + d0 := by
    unfold uF; rw [wu (x := d1 * 4294967296) (by omega), wu (by omega)]
  unfold fitsR
  rw [hu]
  by_cases c : 0 < d2 ∨ 0 < d3 ∨ 0 < d4
  · rw [if_pos c, if_neg]
    cases m
    · rw [if_neg (by decide)] at hv; omega
    · rw [if_pos rfl] at hv; omega
  · rw [if_neg c]
    cases m
    · rw [if_neg (by decide)] at hv ⊢
      by_cases c2 : d1 * 4294967296 + d0 < 9223372036854775808
      · rw [if_pos c2, if_pos (by omega)]
        have e : wrap64 (d1 * 4294967296 + d0) = v := by unfold wrap64; omega
        rw [e]
      · rw [if_neg c2, if_neg (by omega)]
    · rw [if_pos rfl] at hv ⊢
      by_cases c2 : d1 * 4294967296 + d0 ≤ 9223372036854775808
      · rw [if_pos c2, if_pos (by omega)]
        have e : wrap64 (IntKind.u64.wrap (-(d1 * 4294967296 + d0))) = v := by rw [IntKind.wrap_u64]; unfold wrap64; omega
        rw [e]
      · rw [if_neg c2, if_neg (by omega)]
end Go.Proofs.Ytbegglmcbcepeaa.All
