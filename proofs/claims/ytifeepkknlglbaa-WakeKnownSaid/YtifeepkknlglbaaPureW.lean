/- The plain facts on the wake-ups: the best one depends on the ends alone. -/
import Derived.Test.YtifeepkknlglbaaXBest
namespace Go.Proofs.Ytifeepkknlglbaa.Ends
open Go.Proofs.Ytifeepkknlglbaa.All (S34 S32 rd_T34 z34)

theorem minW_mem : ∀ (l : List Int) (a : Int), l.foldl (fun s v => if v < s then v else s) a = a ∨ l.foldl (fun s v => if v < s then v else s) a ∈ l
  | [], _ => .inl rfl
  | x :: l, a => by
    rw [List.foldl_cons]
    rcases minW_mem l (if x < a then x else a) with h | h
    · by_cases hx : x < a
      · rw [if_pos hx] at h ⊢; rw [h]; exact .inr (List.mem_cons_self)
      · rw [if_neg hx] at h ⊢; exact .inl h
    · exact .inr (List.mem_cons_of_mem _ h)
theorem minW_le : ∀ (l : List Int) (a : Int), l.foldl (fun s v => if v < s then v else s) a ≤ a ∧ ∀ x ∈ l, l.foldl (fun s v => if v < s then v else s) a ≤ x
  | [], a => ⟨Int.le_refl a, fun _ h => absurd h (by simp)⟩
  | y :: l, a => by
    rw [List.foldl_cons]
    obtain ⟨h1, h2⟩ := minW_le l (if y < a then y else a)
    by_cases hx : y < a
    · rw [if_pos hx] at h1 h2 ⊢
      exact ⟨by omega, fun x hm => by rcases List.mem_cons.1 hm with rfl | hm; exact h1; exact h2 x hm⟩
    · rw [if_neg hx] at h1 h2 ⊢
      exact ⟨h1, fun x hm => by rcases List.mem_cons.1 hm with rfl | hm; omega; exact h2 x hm⟩
theorem minW_ge_of (l : List Int) (m : Int) (hm : m ≤ 9223372036854775807) (h : ∀ x ∈ l, m ≤ x) : m ≤ minW l := by
  rcases minW_mem l 9223372036854775807 with e | e
  · unfold minW; rw [e]; exact hm
  · exact h _ e
theorem minW_le_top (l : List Int) : minW l ≤ 9223372036854775807 := (minW_le l _).1
theorem minW_le_mem {l : List Int} {x : Int} (h : x ∈ l) : minW l ≤ x := (minW_le l _).2 x h
theorem minW_in {l : List Int} (h : l ≠ []) (hr : ∀ x ∈ l, x ≤ 9223372036854775807) : minW l ∈ l := by
  rcases minW_mem l 9223372036854775807 with e | e
  · cases l with
    | nil => exact absurd rfl h
    | cons y t =>
      have h1 := minW_le_mem (l := y :: t) (x := y) List.mem_cons_self
      have h2 := hr y List.mem_cons_self
      have h3 : minW (y :: t) = 9223372036854775807 := e
      have : y = minW (y :: t) := by omega
      rw [← this]; exact List.mem_cons_self
  · exact e

theorem ends_mem {xs : List S34} {real : Bool} {t : Int} : t ∈ endsOf xs real ↔ ∃ x ∈ xs, x.f0 = real ∧ x.f1.f1 = t := by
  unfold endsOf
  rw [List.mem_map]
  constructor
  · rintro ⟨x, hx, rfl⟩
    obtain ⟨h1, h2⟩ := List.mem_filter.1 hx
    exact ⟨x, h1, by simpa using h2, rfl⟩
  · rintro ⟨x, h1, h2, rfl⟩
    exact ⟨x, List.mem_filter.2 ⟨h1, by simp [h2]⟩, rfl⟩
theorem minW_eq {a b : List Int} (h : ∀ t, t ∈ a ↔ t ∈ b) : minW a = minW b := by
  apply Int.le_antisymm
  · exact minW_ge_of _ _ (minW_le_top _) (fun x hx => minW_le_mem ((h x).2 hx))
  · exact minW_ge_of _ _ (minW_le_top _) (fun x hx => minW_le_mem ((h x).1 hx))
theorem nil_iff_of_mem {a b : List Int} (h : ∀ t, t ∈ a ↔ t ∈ b) : a = [] ↔ b = [] := by
  rw [List.eq_nil_iff_forall_not_mem, List.eq_nil_iff_forall_not_mem]
  exact ⟨fun k x hx => k x ((h x).2 hx), fun k x hx => k x ((h x).1 hx)⟩
theorem bestOf_eq {xs ys : List S34} {real : Bool} {now : Int} (h : ∀ t, t ∈ endsOf xs real ↔ t ∈ endsOf ys real) : bestOf xs real now = bestOf ys real now := by
  unfold bestOf
  rw [minW_eq h]
  by_cases e : endsOf xs real = []
  · rw [if_pos e, if_pos ((nil_iff_of_mem h).1 e)]
  · rw [if_neg e, if_neg (fun k => e ((nil_iff_of_mem h).2 k))]
theorem bestOf_perm {xs ys : List S34} {real : Bool} {now : Int} (h : ∀ x, x ∈ xs ↔ x ∈ ys) : bestOf xs real now = bestOf ys real now :=
  bestOf_eq fun t => by
    rw [ends_mem, ends_mem]
    exact ⟨fun ⟨x, a, b⟩ => ⟨x, (h x).1 a, b⟩, fun ⟨x, a, b⟩ => ⟨x, (h x).2 a, b⟩⟩
theorem bestOf_top (xs : List S34) (real : Bool) (now : Int) (hn : now ≤ 9223372036854775807) : bestOf xs real now ≤ 9223372036854775807 := by
  unfold bestOf
  have := minW_le_top (endsOf xs real)
  split
  · omega
  · split <;> omega
theorem bestOf_now (xs : List S34) (real : Bool) (now : Int) (hn : now ≤ 9223372036854775807) : now ≤ bestOf xs real now := by
  unfold bestOf
  split
  · omega
  · split <;> omega
/-- With more windows it is no later. -/
theorem bestOf_more {xs ys : List S34} {real : Bool} {now : Int} (hn : now ≤ 9223372036854775807) (h : ∀ x, x ∈ xs → x ∈ ys) : bestOf ys real now ≤ bestOf xs real now := by
  have hm : ∀ t, t ∈ endsOf xs real → t ∈ endsOf ys real := fun t ht => by
    rw [ends_mem] at ht ⊢
    obtain ⟨x, a, b⟩ := ht
    exact ⟨x, h x a, b⟩
  by_cases e : endsOf xs real = []
  · have : bestOf xs real now = 9223372036854775807 := by unfold bestOf; rw [if_pos e]
    rw [this]; exact bestOf_top _ _ _ hn
  · have e2 : endsOf ys real ≠ [] := fun k => e (by
      rw [List.eq_nil_iff_forall_not_mem] at k ⊢
      exact fun x hx => k x (hm x hx))
    have hmin : minW (endsOf ys real) ≤ minW (endsOf xs real) := minW_ge_of _ _ (minW_le_top _) (fun x hx => minW_le_mem (hm x hx))
    unfold bestOf
    rw [if_neg e, if_neg e2]
    split <;> split <;> omega
theorem ends_append (a b : List S34) (real : Bool) : endsOf (a ++ b) real = endsOf a real ++ endsOf b real := by
  unfold endsOf; rw [List.filter_append, List.map_append]
theorem minW_append (a b : List Int) : minW (a ++ b) = if minW b < minW a then minW b else minW a := by
  have h1 : minW (a ++ b) ≤ minW a := minW_ge_of _ _ (minW_le_top _) (fun x hx => minW_le_mem (List.mem_append.2 (.inl hx)))
  have h2 : minW (a ++ b) ≤ minW b := minW_ge_of _ _ (minW_le_top _) (fun x hx => minW_le_mem (List.mem_append.2 (.inr hx)))
  have h3 : (if minW b < minW a then minW b else minW a) ≤ minW (a ++ b) := by
    refine minW_ge_of _ _ ?_ (fun x hx => ?_)
    · have := minW_le_top a; have := minW_le_top b; split <;> omega
    · rcases List.mem_append.1 hx with h | h
      · have := minW_le_mem h; split <;> omega
      · have := minW_le_mem h; split <;> omega
  revert h3
  split <;> intro h3 <;> omega
theorem bestOf_both (a b : List S34) (real : Bool) (now : Int) (hn : now ≤ 9223372036854775807) : bestOf (a ++ b) real now = if bestOf b real now < bestOf a real now then bestOf b real now else bestOf a real now := by
  have ha := minW_le_top (endsOf a real)
  have hb := minW_le_top (endsOf b real)
  have hab := minW_append (endsOf a real) (endsOf b real)
  rw [← ends_append] at hab
  have hm0 : minW [] = 9223372036854775807 := rfl
  by_cases e1 : endsOf a real = []
  · by_cases e2 : endsOf b real = []
    · have e3 : endsOf (a ++ b) real = [] := by rw [ends_append, e1, e2]; rfl
      unfold bestOf; rw [if_pos e1, if_pos e2, if_pos e3]; simp
    · have e3 : endsOf (a ++ b) real ≠ [] := by rw [ends_append]; simp [e2]
      rw [e1, hm0] at hab
      unfold bestOf; rw [if_pos e1, if_neg e2, if_neg e3, hab]
      split <;> split <;> (try split) <;> (try split) <;> omega
  · have e3 : endsOf (a ++ b) real ≠ [] := by rw [ends_append]; simp [e1]
    by_cases e2 : endsOf b real = []
    · rw [e2, hm0] at hab
      unfold bestOf; rw [if_neg e1, if_pos e2, if_neg e3, hab]
      split <;> split <;> (try split) <;> (try split) <;> omega
    · unfold bestOf; rw [if_neg e1, if_neg e2, if_neg e3, hab]
      split <;> split <;> (try split) <;> (try split) <;> (try split) <;> omega
end Go.Proofs.Ytifeepkknlglbaa.Ends
