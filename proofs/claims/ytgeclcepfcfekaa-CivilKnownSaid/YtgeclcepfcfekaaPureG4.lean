/- A law of the calendar. -/
import Derived.Test.YtgeclcepfcfekaaPureG
import Derived.Test.YtgeclcepfcfekaaA8
namespace Go.Proofs.Ytgeclcepfcfekaa.All
open Go.RowKit Go.Proofs.YtgeclcepfcfekaaW.PrintWords Go.Proofs.YtgeclcepfcfekaaW.PrintLast Go.Proofs.YtgeclcepfcfekaaW.PrintMore
open Go.Proofs.Ytgeclcepfcfekaa.Cal Go.Proofs.Ytgeclcepfcfekaa.LongP

/-! ### CivilMicro -/
theorem micro_back (N h mi s us : Int) (ht : TimeR h mi s us) : (N * 86400000000 + ((h * 60 + mi) * 60 + s) * 1000000 + us) / 86400000000 = N ∧
    (N * 86400000000 + ((h * 60 + mi) * 60 + s) * 1000000 + us) % 86400000000 = ((h * 60 + mi) * 60 + s) * 1000000 + us := by
  unfold TimeR at ht
  constructor <;> omega
theorem micro_law (k : Nat) (hk : 20000 < k) (y m d h mi s us : Int) : clepsydralaw03_CivilMicro.f k y m d h mi s us = some true := by
  obtain ⟨k, rfl⟩ : ∃ m, k = m + 2 := ⟨k - 2, by omega⟩
  have hw := works_at (k + 1) (by omega)
  unfold clepsydralaw03_CivilMicro.f
  by_cases hc : Right y m d ∧ TimeR h mi s us
  · obtain ⟨hd, ht⟩ := hc
    obtain ⟨b1, b2⟩ := micro_back (dnum y m d) h mi s us ht
    obtain ⟨o1, o2, o3⟩ := of_num hd
    have hr := right_first hd
    have hr2 : TimeR h mi s us := ht
    unfold TimeR at hr2
    rw [Micro_yes hd ht, bindS, plain_at, bindS]
    dsimp only
    rw [rright_at, bindS, if_pos (decide_eq_true hd), if_pos (by omega), if_pos (by omega), if_pos (by omega), if_pos (by omega), if_pos (by omega), if_pos (by omega), if_pos (by omega), decide_eq_true (by omega), clepsydralaw03_CivilMicro.j0, if_pos rfl, rdays_at (k + 1) (by omega) hd, bindS, From_yes k (by rw [b1]; omega) (by rw [b1]; omega), b1, b2, bindS, if_pos rfl, o1, o2, o3]
    clear b1 b2 o1 o2 o3 hd ht
    generalize dnum y m d = N at *
    rw [if_pos (by simp (disch := omega) only [wr]; omega), if_pos rfl]
    dsimp only
    have t1 : (((h * 60 + mi) * 60 + s) * 1000000 + us) / 1000000 / 3600 = h := by omega
    have t2 : (((h * 60 + mi) * 60 + s) * 1000000 + us) / 1000000 / 60 % 60 = mi := by omega
    have t3 : (((h * 60 + mi) * 60 + s) * 1000000 + us) / 1000000 % 60 = s := by omega
    have t4 : (((h * 60 + mi) * 60 + s) * 1000000 + us) % 1000000 = us := by omega
    rw [t1, t2, t3, t4, if_pos (by simp), hw, bindS]
  · rw [Micro_no hc, bindS, plain_at, bindS]
    dsimp only
    rw [rright_at, bindS]
    have hj : ∀ b : Bool, clepsydralaw03_CivilMicro.j0 (k + 2) 0 30 false y m d h mi s us y m d = some true := fun b => by
      rw [clepsydralaw03_CivilMicro.j0, if_neg (by decide), if_pos rfl, if_pos rfl, hw, bindS]
    have hj := hj true
    by_cases hd : Right y m d
    · have ht : ¬ TimeR h mi s us := fun t => hc ⟨hd, t⟩
      unfold TimeR at ht
      rw [if_pos (decide_eq_true hd)]
      by_cases c1 : h ≥ 0
      · rw [if_pos c1]
        by_cases c2 : h ≤ 23
        · rw [if_pos c2]
          by_cases c3 : mi ≥ 0
          · rw [if_pos c3]
            by_cases c4 : mi ≤ 59
            · rw [if_pos c4]
              by_cases c5 : s ≥ 0
              · rw [if_pos c5]
                by_cases c6 : s ≤ 59
                · rw [if_pos c6]
                  by_cases c7 : us ≥ 0
                  · rw [if_pos c7, decide_eq_false (by omega)]; exact hj
                  · rw [if_neg c7]; exact hj
                · rw [if_neg c6]; exact hj
              · rw [if_neg c5]; exact hj
            · rw [if_neg c4]; exact hj
          · rw [if_neg c3]; exact hj
        · rw [if_neg c2]; exact hj
      · rw [if_neg c1]; exact hj
    · rw [if_neg (by rw [decide_eq_true_iff]; exact hd)]; exact hj
end Go.Proofs.Ytgeclcepfcfekaa.All
