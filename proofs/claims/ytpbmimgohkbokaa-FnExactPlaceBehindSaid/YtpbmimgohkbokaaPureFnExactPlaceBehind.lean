/- For every two sides and every place the program's PlaceBehind answers what the reference's does. -/
import Derived.Test.YtpbmimgohkbokaaPFnExactPlaceBehindx1
import Derived.Test.YtpbmimgohkbokaaBase
namespace Go.Proofs.Ytpbmimgohkbokaa.Pure
open Go.RowKit Go.Proofs.Ytpbmimgohkbokaa.PFnExactPlaceBehind Go.Proofs.Ytpbmimgohkbokaa.Base Go.Proofs.YtpbmimgohkbokaaW.PrintWords Go.Proofs.YtpbmimgohkbokaaW.PrintLast Go.Proofs.YtpbmimgohkbokaaW.PrintMore
set_option linter.unusedVariables false
set_option linter.unusedSimpArgs false

/-! within -/
theorem within_eq (a b c : Int) : impl_within.f a b c = some (decide (b ≤ a ∧ a ≤ c)) := by
  unfold impl_within.f
  by_cases h : b ≤ a
  · simp [h, ge_iff_le]
  · simp [h, ge_iff_le]

/-! l00In -/
theorem l00In_eq (a b c : Int) : spec_l00In.f a b c = some (decide (b ≤ a ∧ a ≤ c)) := by
  unfold spec_l00In.f
  by_cases h : b ≤ a
  · simp [h, ge_iff_le]
  · simp [h, ge_iff_le]

theorem FnExactPlaceBehind : laws_FnExactPlaceBehind.Pure := by
  intro a b c ha hb hc
  unfold laws_FnExactPlaceBehind.f spec_PlaceBehind.f impl_PlaceBehind.f spec_l08Block.f impl_areSides.f impl_behindPlace.f
  simp only [l00In_eq, within_eq, Option.bind_some]
  by_cases h1 : 1 ≤ a ∧ a ≤ 20
  · by_cases h2 : 1 ≤ b ∧ b ≤ 20
    · by_cases h3 : 0 ≤ c ∧ c ≤ wrap64 (wrap64 (a * b) - 1)
      · have h4 : ¬ b = 0 := by omega
        simp [h1, h2, h3, h4]
      · simp [h1, h2, h3]
    · simp [h1, h2]
  · simp [h1]

end Go.Proofs.Ytpbmimgohkbokaa.Pure
