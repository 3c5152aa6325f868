/- The chapter's examples. -/
import Derived.Test.YtgeclcepfcfekaaPureF
namespace Go.Proofs.Ytgeclcepfcfekaa.All
open Go.RowKit Go.Proofs.YtgeclcepfcfekaaW.PrintWords Go.Proofs.YtgeclcepfcfekaaW.PrintLast Go.Proofs.YtgeclcepfcfekaaW.PrintMore
open Go.Proofs.Ytgeclcepfcfekaa.Cal Go.Proofs.Ytgeclcepfcfekaa.LongP

theorem works_at (k : Nat) (hk : 2 < k) : clepsydralaw03_works.f k = some true := by
  obtain ⟨k, rfl⟩ : ∃ m, k = m + 1 := ⟨k - 1, by omega⟩
  have h1 : civil_Days.f 2000 2 29 = some (11016, 0) := by decide +kernel
  have h2 : civil_FromMicro.f (k + 1) (-1) = some (1969, 12, 31, 23, 59, 59, 999999, 0) := by
    rw [From_yes k (by decide) (by decide)]
    have e : ∀ {a b c d e f g h a2 b2 c2 d2 e2 f2 g2 h2 : Int}, (a = a2 ∧ b = b2 ∧ c = c2 ∧ d = d2 ∧ e = e2 ∧ f = f2 ∧ g = g2 ∧ h = h2) → some (a, b, c, d, e, f, g, h) = some (a2, b2, c2, d2, e2, f2, g2, h2) := by
      intro a b c d e f g h a2 b2 c2 d2 e2 f2 g2 h2 ⟨p0, p1, p2, p3, p4, p5, p6, p7⟩
      rw [p0, p1, p2, p3, p4, p5, p6, p7]
    exact e (by decide +kernel)
  have h3 : civil_Weekday.f (k + 1) 2000 2 29 = some 2 := by
    rw [Week_yes k (by decide +kernel)]
    decide +kernel
  have h4 : civil_Right.f 1900 2 29 = some false := by decide +kernel
  unfold clepsydralaw03_works.f
  rw [h1, bindS, h2, bindS, if_pos rfl, if_pos rfl, h3, bindS, if_pos rfl, h4, bindS, if_neg (by decide), if_pos rfl]
  decide
theorem plain_at (y m d : Int) : clepsydralaw03_plain.f y m d = some (y, m, d) := rfl
end Go.Proofs.Ytgeclcepfcfekaa.All
