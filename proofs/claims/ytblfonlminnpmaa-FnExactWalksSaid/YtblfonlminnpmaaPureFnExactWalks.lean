/- The law FnExactWalks answers true at every int: both bodies are the same tests. -/
import Derived.Test.YtblfonlminnpmaaPFnExactWalksx1
namespace Go.Proofs.Ytblfonlminnpmaa.Pure
open Go.RowKit Go.Proofs.Ytblfonlminnpmaa.PFnExactWalks Go.Proofs.YtblfonlminnpmaaW.PrintWords Go.Proofs.YtblfonlminnpmaaW.PrintLast

theorem FnExactWalks : laws_FnExactWalks.Pure := by
  intro a0 _
  unfold laws_FnExactWalks.f spec_Walks.f impl_Walks.f spec_l1In.f
  by_cases h2 : a0 = 2
  · subst h2; rfl
  by_cases h3 : a0 = 3
  · subst h3; rfl
  by_cases h4 : a0 = 4
  · subst h4; rfl
  rw [if_neg h2, if_neg h3, if_neg h4]
  by_cases hge : a0 ≥ 2
  · rw [if_pos hge]
    have hd : decide (a0 ≤ 4) = false := decide_eq_false (by omega)
    simp [hd]
  · rw [if_neg hge]
    simp

end Go.Proofs.Ytblfonlminnpmaa.Pure
