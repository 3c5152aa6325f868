/- The closed law of the wake-ups: windows about the bounds of numbers. -/
import Derived.Test.YtifeepkknlglbaaPureL
import Derived.Test.YtifeepkknlglbaaA5
import Derived.Lib.Hide
namespace Go.Proofs.Ytifeepkknlglbaa.All
open Go.RowKit Go.Proofs.YtifeepkknlglbaaW.PrintWords Go.Proofs.YtifeepkknlglbaaW.PrintLast Go.Proofs.YtifeepkknlglbaaW.PrintMore
open Go.Proofs.Ytifeepkknlglbaa.Ends

theorem ask_k (k : Nat) (hk : 400 ≤ k) (l : List S34) (a b : Int) : clepsydralaw30_WakeAsk.f k l a b = some true := by
  obtain ⟨d, rfl⟩ : ∃ d, k = 400 + d := ⟨k - 400, by omega⟩
  clear hk
  induction d with
  | zero => exact ask_true l a b
  | succ d ih => exact clepsydralaw30_WakeAsk.mono _ _ _ _ _ ih
theorem serves_k (k : Nat) (hk : 400 ≤ k) (xs : List S34) (real : Bool) (now later : Int) (hnow : -9223372036854775808 ≤ now ∧ now ≤ 9223372036854775807) (hl : 0 ≤ later ∧ later < 4294967296) (hfit : ∀ x ∈ xs, Fit x) : clepsydralaw30_WakeServes.f k xs real now later = some true := by
  obtain ⟨d, rfl⟩ : ∃ d, k = 400 + d := ⟨k - 400, by omega⟩
  clear hk
  induction d with
  | zero => exact serves_true xs real now later hnow hl hfit
  | succ d ih => exact clepsydralaw30_WakeServes.mono _ _ _ _ _ _ ih
theorem order_k (k : Nat) (hk : 400 ≤ k) (xs : List S34) (m0 : Bool) (m1 m2 re mo turn : Int) (ht : 0 ≤ turn ∧ turn < 256) (hr : re ≤ 9223372036854775807) (hm : mo ≤ 9223372036854775807) : clepsydralaw30_WakeOrder.f k xs m0 m1 m2 re mo turn = some true := by
  obtain ⟨d, rfl⟩ : ∃ d, k = 400 + d := ⟨k - 400, by omega⟩
  clear hk
  induction d with
  | zero => exact order_true xs m0 m1 m2 re mo turn ht hr hm
  | succ d ih => exact clepsydralaw30_WakeOrder.mono _ _ _ _ _ _ _ _ _ ih

def FitN (N : List Int) : Prop := ∀ x ∈ N, -9223372036854775808 ≤ x ∧ x ≤ 9223372036854775807
theorem rd_fit {N : List Int} (h : FitN N) (i : Nat) (hi : i < N.length) : -9223372036854775808 ≤ rd N (i : Int) ∧ rd N (i : Int) ≤ 9223372036854775807 := by
  have : rd N (i : Int) = N[i] := by simp [rd, List.getD_eq_getElem?_getD, List.getElem?_eq_getElem hi]
  rw [this]; exact h _ (List.getElem_mem hi)
theorem fit_drop {l : List S34} (h : ∀ x ∈ l, Fit x) (n : Nat) : ∀ x ∈ l.drop n, Fit x := fun x hx => h x (List.mem_of_mem_drop hx)
theorem known_idx {i : Nat} (h : i ≤ 1000) : wrap64 ((i : Int) + 1) = ((i + 1 : Nat) : Int) := by unfold wrap64; omega
theorem half {n : Nat} (h : n ≤ 100000) : wrap64 ((n : Int) / 2) = ((n / 2 : Nat) : Int) := by unfold wrap64; omega
theorem less1 {n : Nat} (h : n ≤ 100000) (h0 : 0 < n) : wrap64 ((n : Int) - 1) = ((n - 1 : Nat) : Int) := by unfold wrap64; omega

theorem known1_end (k : Nat) (N : List Int) (l : List S34) (i j : Int) (hj : ¬ j < (N.length : Int)) : clepsydralaw30_WakeKnown.l1 (k + 1) N l i j = clepsydralaw30_WakeKnown.l0 k N l (wrap64 (i + 1)) := by
  rw [clepsydralaw30_WakeKnown.l1]
  rw [if_neg hj]
theorem pair_fit {a b : Int} (r : Bool) (b1 : -9223372036854775808 ≤ a ∧ a ≤ 9223372036854775807) (b2 : -9223372036854775808 ≤ b ∧ b ≤ 9223372036854775807) : Fit (⟨r, (⟨mn a b, mx a b⟩ : S32)⟩ : S34) := by
  unfold Fit mn mx
  dsimp only
  refine ⟨?_, ?_⟩ <;> split <;> omega
theorem add_fit {l : List S34} {w : S34} (h : ∀ x ∈ l, Fit x) (hw : Fit w) : ∀ x ∈ l ++ [w], Fit x := fun x hx => by
  rcases List.mem_append.1 hx with h1 | h1
  · exact h x h1
  · rw [List.mem_singleton.1 h1]; exact hw
structure KnownB (n i j ll : Nat) : Prop where
  c1 : (j : Int) < (n : Int)
  c2 : (0 : Int) ≤ (i : Int)
  c3 : (i : Int) < (n : Int)
  c4 : (0 : Int) ≤ (j : Int)
  c5 : ll < 5864062014805
  d1 : (0 : Int) ≤ (((ll + 1) / 2 : Nat) : Int)
  d2 : (((ll + 1) / 2 : Nat) : Int) ≤ ((ll + 1 : Nat) : Int)
  d3 : (0 : Int) < ((ll + 1 : Nat) : Int)
  d4 : (0 : Int) ≤ ((ll + 1 - 1 : Nat) : Int)
  d5 : ((ll + 1 - 1 : Nat) : Int) ≤ ((ll + 1 : Nat) : Int)
  d6 : ((ll + 1 - 1 : Nat) : Int) < ((ll + 1 : Nat) : Int)
  j0 : 0 ≤ (j : Int) % 4294967296 ∧ (j : Int) % 4294967296 < 4294967296
  j1 : 0 ≤ (j : Int) % 256 ∧ (j : Int) % 256 < 256
theorem knownB {n i j ll : Nat} (hn : n ≤ 100) (hi : i < n) (hj : j < n) (hl : ll ≤ 100 * i + j) : KnownB n i j ll := by
  constructor <;> omega
theorem bindS {α β : Type} (a : α) (f : α → Option β) : (some a).bind f = f a := Eq.trans (Option.bind_some _ _) rfl
theorem known1_step (k : Nat) (N : List Int) (l : List S34) (i j : Nat) (hN : FitN N) (hn : N.length ≤ 100) (hi : i < N.length) (hj : j < N.length) (hl : l.length ≤ 100 * i + j) (hf : ∀ x ∈ l, Fit x) (k400 : 400 ≤ k) :
    ∃ w : S34, Fit w ∧ clepsydralaw30_WakeKnown.l1 (k + 1) N l (i : Int) (j : Int) = clepsydralaw30_WakeKnown.l1 k N (l ++ [w]) (i : Int) ((j + 1 : Nat) : Int) := by
  have b1 := rd_fit hN i hi
  have b2 := rd_fit hN j hj
  have E3 := known_idx (i := j) (by omega)
  have B := knownB hn hi hj hl
  have E1 := half (n := l.length + 1) (by omega)
  have E2 := less1 (n := l.length + 1) (by omega) (by omega)
  clear hN hn hi hj hl
  refine ⟨⟨((Int.tmod (wrap64 ((i : Int) + (j : Int))) 3) == 0), (⟨mn (rd N (i : Int)) (rd N (j : Int)), mx (rd N (i : Int)) (rd N (j : Int))⟩ : S32)⟩, pair_fit _ b1 b2, ?_⟩
  rw [clepsydralaw30_WakeKnown.l1]
  generalize rd N (i : Int) = a at *
  generalize rd N (j : Int) = b at *
  generalize hw : (⟨((Int.tmod (wrap64 ((i : Int) + (j : Int))) 3) == 0), (⟨mn a b, mx a b⟩ : S32)⟩ : S34) = w
  have hwf : Fit w := hw ▸ pair_fit _ b1 b2
  have hLf := add_fit hf hwf
  have hLl : (l ++ [w]).length = l.length + 1 := by simp
  clear hw hwf hf
  rw [if_pos B.c1, if_pos B.c2, if_pos B.c3, if_pos B.c4, if_pos B.c5]
  generalize l ++ [w] = L at *
  rw [bindS]
  rw [hLl, E1, if_pos B.d1, if_pos B.d2, ask_k k k400, serves_k k k400 _ _ a _ b1 B.j0 (fit_drop hLf _)]
  rw [bindS]
  rw [if_pos rfl, bindS, if_pos rfl, if_pos B.d3, order_k k k400 _ _ _ _ _ _ _ B.j1 b2.2 b1.2]
  rw [bindS]
  rw [if_pos rfl, E2, if_pos B.d4, if_pos B.d5, if_pos B.d6, serves_k k k400 _ _ b 0 b2 ⟨by decide, by decide⟩ (fit_drop hLf _)]
  rw [bindS]
  rw [if_pos rfl, E3]
theorem known1 (N : List Int) (hN : FitN N) (hl : N.length ≤ 100) (i : Nat) (hi : i < N.length) (d : Nat) : ∀ (k j : Nat) (l : List S34), j ≤ N.length → N.length - j = d → d + 500 < k → l.length ≤ 100 * i + j → (∀ x ∈ l, Fit x) →
    ∃ l', l'.length ≤ 100 * (i + 1) ∧ (∀ x ∈ l', Fit x) ∧ clepsydralaw30_WakeKnown.l1 k N l (i : Int) (j : Int) = clepsydralaw30_WakeKnown.l0 (k - (d + 1)) N l' (wrap64 ((i : Int) + 1)) := by
  induction d with
  | zero =>
    intro k j l hj hd hk hll hf
    obtain ⟨k, rfl⟩ : ∃ m, k = m + 1 := ⟨k - 1, by omega⟩
    refine ⟨l, by omega, hf, ?_⟩
    rw [known1_end k N l _ _ (by omega), show k + 1 - (0 + 1) = k by omega]
  | succ d ih =>
    intro k j l hj hd hk hll hf
    obtain ⟨k, rfl⟩ : ∃ m, k = m + 1 := ⟨k - 1, by omega⟩
    obtain ⟨w, hw, e⟩ := known1_step k N l i j hN hl hi (by omega) hll hf (by omega)
    have hL : (l ++ [w]).length = l.length + 1 := by simp
    obtain ⟨l', h1, h2, h3⟩ := ih k (j + 1) (l ++ [w]) (by omega) (by omega) (by omega) (by omega) (add_fit hf hw)
    refine ⟨l', h1, h2, ?_⟩
    rw [e, h3, show k - (d + 1) = k + 1 - (d + 1 + 1) by omega]
theorem known0 (N : List Int) (hN : FitN N) (hl : N.length ≤ 100) (d : Nat) : ∀ (k i : Nat) (l : List S34), i ≤ N.length → N.length - i = d → 102 * d + 700 < k → l.length ≤ 100 * i → (∀ x ∈ l, Fit x) →
    clepsydralaw30_WakeKnown.l0 k N l (i : Int) = some true := by
  induction d with
  | zero =>
    intro k i l hi hd hk hll hf
    obtain ⟨k, rfl⟩ : ∃ m, k = m + 1 := ⟨k - 1, by omega⟩
    simp only [clepsydralaw30_WakeKnown.l0]
    rw [if_neg (by omega), ask_k k (by omega), serves_k k (by omega) [] true 5 0 ⟨by omega, by omega⟩ ⟨by omega, by omega⟩ (by simp), works_true]
    rfl
  | succ d ih =>
    intro k i l hi hd hk hll hf
    obtain ⟨k, rfl⟩ : ∃ m, k = m + 1 := ⟨k - 1, by omega⟩
    have hlt : i < N.length := by omega
    have E3 := Lib.hid (known_idx (i := i) (by omega))
    obtain ⟨l', h1, h2, h3⟩ := known1 N hN hl i hlt N.length k 0 l (by omega) (by omega) (by omega) (by omega) hf
    simp only [clepsydralaw30_WakeKnown.l0]
    rw [if_pos (by omega)]
    have h3' : clepsydralaw30_WakeKnown.l1 k N l (i : Int) 0 = _ := h3
    rw [h3', E3.out]
    exact ih _ (i + 1) l' (by omega) (by omega) (by omega) h1 h2
def knownN : List Int := [(-9223372036854775808), (-1), 0, 1, 20, 30, 9223372036854775807 - 1, 9223372036854775807]
theorem knownN_fit : FitN knownN := by
  unfold FitN knownN
  intro x hx
  simp only [List.mem_cons, List.not_mem_nil, or_false] at hx
  rcases hx with rfl | rfl | rfl | rfl | rfl | rfl | rfl | rfl <;> omega
theorem known_true (k : Nat) (hk : 2000 < k) : clepsydralaw30_WakeKnown.f k = some true := by
  unfold clepsydralaw30_WakeKnown.f
  exact known0 knownN knownN_fit (by decide) 8 k 0 [] (by omega) (by decide) (by omega) (by simp) (by simp)
end Go.Proofs.Ytifeepkknlglbaa.All
namespace Go.Proofs.Ytifeepkknlglbaa.Pure
theorem WakeKnown : All.clepsydralaw30_WakeKnown.Pure := ⟨2001, All.known_true 2001 (by omega)⟩
end Go.Proofs.Ytifeepkknlglbaa.Pure
