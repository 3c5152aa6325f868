/- A law of the calendar. -/
import Derived.Test.YtgeclcepfcfekaaPureG
import Derived.Test.YtgeclcepfcfekaaA4
namespace Go.Proofs.Ytgeclcepfcfekaa.All
open Go.RowKit Go.Proofs.YtgeclcepfcfekaaW.PrintWords Go.Proofs.YtgeclcepfcfekaaW.PrintLast Go.Proofs.YtgeclcepfcfekaaW.PrintMore
open Go.Proofs.Ytgeclcepfcfekaa.Cal Go.Proofs.Ytgeclcepfcfekaa.LongP

/-! ### CivilDays -/
theorem days_law (k : Nat) (hk : 20000 < k) (y m d : Int) : clepsydralaw03_CivilDays.f k y m d = some true := by
  obtain ⟨k, rfl⟩ : ∃ m, k = m + 2 := ⟨k - 2, by omega⟩
  have hw := works_at (k + 1) (by omega)
  unfold clepsydralaw03_CivilDays.f
  rw [plain_at, bindS]
  dsimp only
  rw [right_at, rright_at, long_at, rlong_at]
  by_cases h : Right y m d
  · have hr := right_first h
    rw [Days_yes h, bindS, bindS, bindS, if_neg (by rw [bne_self_eq_false]; decide), bindS, bindS, bne_self_eq_false, clepsydralaw03_CivilDays.j0, if_neg (by decide), rright_at, bindS, if_pos (decide_eq_true h), rdays_at (k + 1) (by omega) h, bindS, if_pos rfl, if_pos rfl, Week_yes _ h, bindS, rweek_at (by omega) (by omega), bindS, if_pos rfl, hw, bindS]
  · rw [Days_no h, bindS, bindS, bindS, if_neg (by rw [bne_self_eq_false]; decide), bindS, bindS, bne_self_eq_false, clepsydralaw03_CivilDays.j0, if_neg (by decide), rright_at, bindS, if_neg (by rw [decide_eq_true_iff]; exact h), if_pos rfl, if_pos rfl, Week_no _ h, bindS, if_pos rfl, hw, bindS]
end Go.Proofs.Ytgeclcepfcfekaa.All
