/- The law FnExactNextOk answers true at every two ints: both bodies are the same tests. -/
import Derived.Test.YtblfonlminnpmaaPFnExactNextOkx1
namespace Go.Proofs.Ytblfonlminnpmaa.Pure
open Go.RowKit Go.Proofs.Ytblfonlminnpmaa.PFnExactNextOk Go.Proofs.YtblfonlminnpmaaW.PrintWords Go.Proofs.YtblfonlminnpmaaW.PrintLast

theorem nextOk_same (k : Nat) (a b : Int) : impl_NextOk.f (k + 1) a b = spec_NextOk.f (k + 1) a b := rfl
theorem nextOk_some (k : Nat) (a b : Int) : ∃ r, spec_NextOk.f (k + 1) a b = some r := by
  unfold spec_NextOk.f
  simp only [spec_NextOk.j0, spec_l1In.f]
  repeat' (first | exact ⟨_, rfl⟩ | split | simp only [Option.bind_some])
theorem FnExactNextOk : laws_FnExactNextOk.Pure := by
  intro a0 a1 _ _
  refine ⟨1, ?_⟩
  unfold laws_FnExactNextOk.f
  rw [nextOk_same 0]
  obtain ⟨r, hr⟩ := nextOk_some 0 a0 a1
  rw [hr]
  simp

end Go.Proofs.Ytblfonlminnpmaa.Pure
