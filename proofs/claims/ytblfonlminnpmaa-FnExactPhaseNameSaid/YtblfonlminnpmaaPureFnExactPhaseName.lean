/- The law FnExactPhaseName answers true at every int: both bodies read the same list at the same place. -/
import Derived.Test.YtblfonlminnpmaaPFnExactPhaseNamex1
namespace Go.Proofs.Ytblfonlminnpmaa.Pure
open Go.RowKit Go.Proofs.Ytblfonlminnpmaa.PFnExactPhaseName Go.Proofs.YtblfonlminnpmaaW.PrintWords Go.Proofs.YtblfonlminnpmaaW.PrintLast

theorem FnExactPhaseName : laws_FnExactPhaseName.Pure := by
  intro a0 _
  unfold laws_FnExactPhaseName.f spec_PhaseName.f impl_PhaseName.f spec_l1In.f impl_within.f
  by_cases hge : a0 ≥ 0
  · by_cases hle : a0 ≤ 7
    · have hd : decide (a0 ≤ 7) = true := decide_eq_true hle
      have hlt : a0 < 8 := by omega
      simp [hge, hd, hlt]
    · have hd : decide (a0 ≤ 7) = false := decide_eq_false hle
      simp [hge, hd]
  · simp [hge]

end Go.Proofs.Ytblfonlminnpmaa.Pure
