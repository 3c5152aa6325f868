/- The contracts of the times: usec.Later and the reference's later. -/
import Derived.Test.YtngoenbdimlppaaM0
namespace Go.Proofs.Ytngoenbdimlppaa.Svc
open Go.RowKit Go.Proofs.YtngoenbdimlppaaW.PrintWords Go.Proofs.YtngoenbdimlppaaW.PrintLast Go.Proofs.YtngoenbdimlppaaW.PrintMore
attribute [local go_sem] max2_int min2_int max_two min_two
set_option linter.unusedVariables false
set_option linter.unusedSimpArgs false

/-- A number of 64 bits. -/
def R64 (x : Int) : Prop := -9223372036854775808 ≤ x ∧ x ≤ 9223372036854775807
theorem ret_int {k : IntKind} {a b : Int} (h : a = b) : Ending.returned (.int k a) = .returned (.int k b) := by rw [h]
theorem ret_ib {k : IntKind} {a b : Int} {c d : Bool} (h : a = b) (h' : c = d) : Ending.returned (.tuple #[.int k a, .bool c]) = .returned (.tuple #[.int k b, .bool d]) := by rw [h, h']

def mi (a : Int) : Int := if a < 0 then 1 else 0
theorem minus_calls (a : Int) (ha : R64 a) (w : World) : Calls Try.prog 48 #[.int .i64 a] w fun e w' => e = .returned (.int .u64 (mi a)) ∧ w = w' := by
  obtain ⟨h1, h2⟩ := ha
  have H1 := Lib.hid h1
  have H2 := Lib.hid h2
  clear h1 h2
  go_enter Try.func48, Try.ntmps48
  go_wp2
  go_ret
  refine ⟨ret_int ?_, rfl⟩
  have h1 := H1.out
  have h2 := H2.out
  unfold mi
  show a % 18446744073709551616 / 9223372036854775808 = _
  split <;> omega
theorem told_calls (a : Int) (b : Bool) (w : World) : Calls Try.prog 47 #[.int .i64 a, .bool b] w fun e w' => e = .returned (.tuple #[.int .i64 (if b = true then a else 0), .bool b]) ∧ w = w' := by
  cases b
  · go_enter Try.func47, Try.ntmps47
    go_wp2
    go_ret2
    exact ⟨rfl, rfl⟩
  · go_enter Try.func47, Try.ntmps47
    go_wp2
    go_ret2
    exact ⟨rfl, rfl⟩
theorem R_wrap (x : Int) : R64 (wrap64 x) := by unfold R64 wrap64; omega
def addOk (a b : Int) : Bool := mi a != mi b || mi (wrap64 (a + b)) == mi a
theorem add_calls (a b : Int) (ha : R64 a) (hb : R64 b) (w : World) : Calls Try.prog 45 #[.int .i64 a, .int .i64 b] w fun e w' => e = .returned (.tuple #[.int .i64 (if addOk a b = true then wrap64 (a + b) else 0), .bool (addOk a b)]) ∧ w = w' := by
  have HA := Lib.hid ha
  have HB := Lib.hid hb
  clear ha hb
  obtain ⟨x, hx⟩ : ∃ x, x = mi a := ⟨_, rfl⟩
  obtain ⟨y, hy⟩ : ∃ y, y = mi b := ⟨_, rfl⟩
  obtain ⟨z, hz⟩ : ∃ z, z = mi (wrap64 (a + b)) := ⟨_, rfl⟩
  have hc := minus_calls a HA.out
  have hd := minus_calls b HB.out
  have he := minus_calls (wrap64 (a + b)) (R_wrap _)
  rw [← hx] at hc; rw [← hy] at hd; rw [← hz] at he
  have HC := Lib.hid hc
  have HD := Lib.hid hd
  have HE := Lib.hid he
  have hk : addOk a b = (x != y || z == x) := by rw [hx, hy, hz]; rfl
  have HK := Lib.hid hk
  clear hx hy hz hc hd he hk
  by_cases c : x = y
  · have c0 : (x == y) = true := by simpa using c
    have c1 : (x != y) = false := by simpa using c
    by_cases d : z = x
    · have d0 : (z == x) = true := by simpa using d
      rw [HK.out, c1, d0]
      clear c d
      go_enter Try.func45, Try.ntmps45
      go_wp2_with (first | (go_at_call 48; ((with_reducible refine (HC.out _).mono ?_); rintro e w' ⟨rfl, rfl⟩)) | (go_at_call 48; ((with_reducible refine (HD.out _).mono ?_); rintro e w' ⟨rfl, rfl⟩)) | (go_at_call 48; ((with_reducible refine (HE.out _).mono ?_); rintro e w' ⟨rfl, rfl⟩)) | (go_at_call 47; ((with_reducible refine (told_calls _ _ _).mono ?_); rintro e w' ⟨rfl, rfl⟩)))
      go_ret2
      exact ⟨rfl, rfl⟩
    · have d0 : (z == x) = false := by simpa using d
      rw [HK.out, c1, d0]
      clear c d
      go_enter Try.func45, Try.ntmps45
      go_wp2_with (first | (go_at_call 48; ((with_reducible refine (HC.out _).mono ?_); rintro e w' ⟨rfl, rfl⟩)) | (go_at_call 48; ((with_reducible refine (HD.out _).mono ?_); rintro e w' ⟨rfl, rfl⟩)) | (go_at_call 48; ((with_reducible refine (HE.out _).mono ?_); rintro e w' ⟨rfl, rfl⟩)) | (go_at_call 47; ((with_reducible refine (told_calls _ _ _).mono ?_); rintro e w' ⟨rfl, rfl⟩)))
      go_ret2
      exact ⟨rfl, rfl⟩
  · have c0 : (x == y) = false := by simpa using c
    have c1 : (x != y) = true := by simpa using c
    rw [HK.out, c1]
    clear c
    go_enter Try.func45, Try.ntmps45
    go_wp2_with (first | (go_at_call 48; ((with_reducible refine (HC.out _).mono ?_); rintro e w' ⟨rfl, rfl⟩)) | (go_at_call 48; ((with_reducible refine (HD.out _).mono ?_); rintro e w' ⟨rfl, rfl⟩)) | (go_at_call 48; ((with_reducible refine (HE.out _).mono ?_); rintro e w' ⟨rfl, rfl⟩)) | (go_at_call 47; ((with_reducible refine (told_calls _ _ _).mono ?_); rintro e w' ⟨rfl, rfl⟩)))
    go_ret2
    exact ⟨rfl, rfl⟩
theorem add_fits (a b : Int) (ha : R64 a) (hb : 0 ≤ b) (hb' : b ≤ 9223372036854775807) : addOk a b = decide (a + b ≤ 9223372036854775807) := by
  unfold R64 at ha
  by_cases c : a + b ≤ 9223372036854775807
  · have : wrap64 (a + b) = a + b := by unfold wrap64; omega
    unfold addOk mi
    rw [this, decide_eq_true c]
    simp
    repeat' split
    all_goals omega
  · have : wrap64 (a + b) = a + b - 18446744073709551616 := by unfold wrap64; omega
    unfold addOk mi
    rw [this, decide_eq_false c]
    simp
    repeat' split
    all_goals omega

theorem later_calls (t sp : Int) (ht : R64 t) (hs : R64 sp) (w : World) : Calls Try.prog 35 #[.int .i64 t, .int .i64 sp] w fun e w' => e = .returned (.int .i64 (later t sp)) ∧ Below w.heap.size w w' := by
  obtain ⟨m, hm⟩ : ∃ m : Int, (if 0 < sp then sp else 0) = m := ⟨_, rfl⟩
  have hm' : (if sp < 0 then 0 else sp) = m := by rw [← hm]; (repeat' split) <;> omega
  have hm0 : 0 ≤ m := by rw [← hm]; (repeat' split) <;> omega
  have hm1 : m ≤ 9223372036854775807 := by have := hs.2; rw [← hm]; (repeat' split) <;> omega
  have ha := add_calls t m ht ⟨by omega, hm1⟩
  rw [add_fits t m ht hm0 hm1] at ha
  unfold later INF
  rw [hm']
  have HA := Lib.hid ha
  have HT := Lib.hid ht
  have HS := Lib.hid hs
  have HM := Lib.hid hm
  clear ha hm' hm0 hm1 ht hs
  by_cases c : t + m ≤ 9223372036854775807
  · have cb : decide (t + m ≤ 9223372036854775807) = true := decide_eq_true c
    have hw : wrap64 (t + m) = t + m := by have := HT.out; unfold R64 at this; unfold wrap64; have h0 : 0 ≤ m := by rw [← hm]; (repeat' split) <;> omega
                                           omega
    rw [cb, hw, if_pos rfl] at HA
    by_cases c1 : t = 9223372036854775807
    · rw [if_pos (.inl c1)]
      have b1 : (t == 9223372036854775807) = true := by simpa using c1
      clear c c1 cb hw
      go_enter Try.func35, Try.ntmps35
      go_wp2_with (first | (go_at_call 45; ((with_reducible refine (HA.out _).mono ?_); rintro e w' ⟨rfl, rfl⟩)))
      go_ret
      exact ⟨rfl, Below.refl _ _⟩
    · have b1 : (t == 9223372036854775807) = false := by simpa using c1
      by_cases c2 : sp = 9223372036854775807
      · rw [if_pos (.inr (.inl c2))]
        have b2 : (sp == 9223372036854775807) = true := by simpa using c2
        clear c c1 cb hw c2
        go_enter Try.func35, Try.ntmps35
        go_wp2_with (first | (go_at_call 45; ((with_reducible refine (HA.out _).mono ?_); rintro e w' ⟨rfl, rfl⟩)))
        go_ret
        exact ⟨rfl, Below.refl _ _⟩
      · have b2 : (sp == 9223372036854775807) = false := by simpa using c2
        rw [if_neg (by omega)]
        clear c c1 cb hw c2
        go_enter Try.func35, Try.ntmps35
        go_wp2_with (first | (go_at_call 45; ((with_reducible refine (HA.out _).mono ?_); rintro e w' ⟨rfl, rfl⟩)))
        go_ret
        exact ⟨rfl, Below.refl _ _⟩
  · have cb : decide (t + m ≤ 9223372036854775807) = false := decide_eq_false c
    rw [cb, if_neg (by decide)] at HA
    rw [if_pos (.inr (.inr (by omega)))]
    clear c cb
    go_enter Try.func35, Try.ntmps35
    go_wp2_with (first | (go_at_call 45; ((with_reducible refine (HA.out _).mono ?_); rintro e w' ⟨rfl, rfl⟩)))
    go_ret
    exact ⟨rfl, Below.refl _ _⟩

theorem rlater_calls (t sp : Int) (ht : R64 t) (hs : R64 sp) (w : World) : Calls Try.prog 43 #[.int .i64 t, .int .i64 sp] w fun e w' => e = .returned (.int .i64 (later t sp)) ∧ Below w.heap.size w w' := by
  have h1 := ht.1
  have h2 := ht.2
  have h3 := hs.1
  have h4 := hs.2
  unfold later INF
  by_cases c : sp < 0
  · rw [if_pos c]
    by_cases c1 : t = 9223372036854775807
    · rw [if_pos (.inl c1)]
      have b1 : (t == 9223372036854775807) = true := by simpa using c1
      clear c1 ht hs
      go_enter Try.func43, Try.ntmps43
      go_wp2
      go_ret
      exact ⟨rfl, Below.refl _ _⟩
    · rw [if_neg (by omega)]
      have b1 : (t == 9223372036854775807) = false := by simpa using c1
      have b3 : decide ((9223372036854775807 : Int) < t) = false := by simp; omega
      clear c1 ht hs
      go_enter Try.func43, Try.ntmps43
      go_wp2
      go_ret
      exact ⟨ret_int (by omega), Below.refl _ _⟩
  · rw [if_neg c]
    have b0 : decide (sp < 0) = false := by simp; omega
    by_cases c1 : t = 9223372036854775807
    · rw [if_pos (.inl c1)]
      have b1 : (t == 9223372036854775807) = true := by simpa using c1
      clear c1 ht hs
      go_enter Try.func43, Try.ntmps43
      go_wp2
      go_ret
      exact ⟨rfl, Below.refl _ _⟩
    · have b1 : (t == 9223372036854775807) = false := by simpa using c1
      by_cases c2 : sp = 9223372036854775807
      · rw [if_pos (.inr (.inl c2))]
        have b2 : (sp == 9223372036854775807) = true := by simpa using c2
        clear c1 ht hs c2
        go_enter Try.func43, Try.ntmps43
        go_wp2
        go_ret
        exact ⟨rfl, Below.refl _ _⟩
      · have b2 : (sp == 9223372036854775807) = false := by simpa using c2
        have hw : wrap64 (9223372036854775807 - sp) = 9223372036854775807 - sp := by unfold wrap64; omega
        by_cases c3 : 9223372036854775807 < t + sp
        · rw [if_pos (.inr (.inr c3))]
          have b3 : decide ((9223372036854775807 : Int) - sp < t) = true := by simp; omega
          have HW := Lib.hid hw
          clear c1 ht hs c2 c3 hw
          go_enter Try.func43, Try.ntmps43
          go_wp2
          go_ret
          exact ⟨rfl, Below.refl _ _⟩
        · rw [if_neg (by omega)]
          have b3 : decide ((9223372036854775807 : Int) - sp < t) = false := by simp; omega
          have HW := Lib.hid hw
          clear c1 ht hs c2 hw
          go_enter Try.func43, Try.ntmps43
          go_wp2
          go_ret
          exact ⟨ret_int (by omega), Below.refl _ _⟩
end Go.Proofs.Ytngoenbdimlppaa.Svc
