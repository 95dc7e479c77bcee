/- What the functions tell. -/
import Derived.Test.YtpkgdepnmdnihaaCd
import Derived.Test.YtpkgdepnmdnihaaProg
set_option linter.unusedVariables false
set_option linter.unusedSimpArgs false
namespace Go.X
open Go.Proofs
theorem hmix : Try.prog.follows .mixedOrders = true := by kernel_rfl
theorem t_i_within : C_i_within (Tells Try.prog Kept.nothing) := fun n a b => tells hmix (x := x_i_within) (by kernel_rfl) (r_i_within n a b)
theorem t_s_l1In : C_s_l1In (Tells Try.prog Kept.nothing) := fun n a b => tells hmix (x := x_s_l1In) (by kernel_rfl) (r_s_l1In n a b)
theorem t_i_Walks : C_i_Walks (Tells Try.prog Kept.nothing) := fun p => tells hmix (x := x_i_Walks) (by kernel_rfl) (r_i_Walks p)
theorem t_s_Walks : C_s_Walks (Tells Try.prog Kept.nothing) := fun p => tells hmix (x := x_s_Walks) (by kernel_rfl) (r_s_Walks t_s_l1In p)
theorem t_i_Final : C_i_Final (Tells Try.prog Kept.nothing) := fun p => tells hmix (x := x_i_Final) (by kernel_rfl) (r_i_Final p)
theorem t_s_Final : C_s_Final (Tells Try.prog Kept.nothing) := fun p => tells hmix (x := x_s_Final) (by kernel_rfl) (r_s_Final p)
theorem t_l_big : C_l_big (Tells Try.prog Kept.nothing) := fun l => tells hmix (x := x_l_big) (by kernel_rfl) (r_l_big l)
theorem t_l_at : C_l_at (Tells Try.prog Kept.nothing) := by
  intro l i hi hl
  obtain ⟨r0, ⟨r, hP, rfl⟩, hr⟩ := r_l_at l i hi hl
  exact ⟨r, hP, tells hmix (x := x_l_at) (by kernel_rfl) hr⟩
theorem t_s_l1New : C_s_l1New (Tells Try.prog Kept.nothing) := by
  intro l hl
  obtain ⟨r0, ⟨c, hP, rfl⟩, hr⟩ := r_s_l1New l hl
  exact ⟨c, hP, tellsP hmix (x := x_s_l1New) (by kernel_rfl) hr⟩
theorem t_s_l1Byte : C_s_l1Byte (Tells Try.prog Kept.nothing) := by
  intro c hc
  obtain ⟨r0, ⟨r, d, hP, rfl⟩, hr⟩ := r_s_l1Byte c hc
  exact ⟨r, d, hP, tells hmix (x := x_s_l1Byte) (by kernel_rfl) hr⟩
theorem t_s_l1Below : C_s_l1Below (Tells Try.prog Kept.nothing) := by
  intro c n hc
  obtain ⟨r0, ⟨r, d, hP, rfl⟩, hr⟩ := r_s_l1Below t_s_l1Byte c n hc
  exact ⟨r, d, hP, tells hmix (x := x_s_l1Below) (by kernel_rfl) hr⟩
theorem t_s_l1Str : C_s_l1Str (Tells Try.prog Kept.nothing) := by
  intro c l hc hl
  obtain ⟨r0, ⟨r, d, hP, rfl⟩, hr⟩ := r_s_l1Str t_s_l1Below c l hc hl
  exact ⟨r, d, hP, tells hmix (x := x_s_l1Str) (by kernel_rfl) hr⟩
theorem t_s_l14Draw : C_s_l14Draw (Tells Try.prog Kept.nothing) := by
  intro c hc
  obtain ⟨r0, ⟨r, d, hP, rfl⟩, hr⟩ := r_s_l14Draw t_s_l1Below c hc
  exact ⟨r, d, hP, tells hmix (x := x_s_l14Draw) (by kernel_rfl) hr⟩
theorem t_s_DrawNextOk : C_s_DrawNextOk (Tells Try.prog Kept.nothing) := by
  intro l hl
  obtain ⟨r0, ⟨a, b, hP, rfl⟩, hr⟩ := r_s_DrawNextOk t_s_l1New t_s_l14Draw l hl
  exact ⟨a, b, hP, tells hmix (x := x_s_DrawNextOk) (by kernel_rfl) hr⟩
theorem t_s_DrawReaches : C_s_DrawReaches (Tells Try.prog Kept.nothing) := by
  intro l hl
  obtain ⟨r0, ⟨a, b, hP, rfl⟩, hr⟩ := r_s_DrawReaches t_s_DrawNextOk l hl
  exact ⟨a, b, hP, tells hmix (x := x_s_DrawReaches) (by kernel_rfl) hr⟩
theorem t_s_DrawFinal : C_s_DrawFinal (Tells Try.prog Kept.nothing) := by
  intro l hl
  obtain ⟨r0, ⟨a, hP, rfl⟩, hr⟩ := r_s_DrawFinal t_s_l1New t_s_l14Draw l hl
  exact ⟨a, hP, tells hmix (x := x_s_DrawFinal) (by kernel_rfl) hr⟩
theorem t_s_DrawWalks : C_s_DrawWalks (Tells Try.prog Kept.nothing) := by
  intro l hl
  obtain ⟨r0, ⟨a, hP, rfl⟩, hr⟩ := r_s_DrawWalks t_s_l1New t_s_l14Draw l hl
  exact ⟨a, hP, tells hmix (x := x_s_DrawWalks) (by kernel_rfl) hr⟩
theorem t_s_DrawPhaseName : C_s_DrawPhaseName (Tells Try.prog Kept.nothing) := by
  intro l hl
  obtain ⟨r0, ⟨a, hP, rfl⟩, hr⟩ := r_s_DrawPhaseName t_s_l1New t_s_l14Draw l hl
  exact ⟨a, hP, tells hmix (x := x_s_DrawPhaseName) (by kernel_rfl) hr⟩
theorem t_s_DrawPhaseOf : C_s_DrawPhaseOf (Tells Try.prog Kept.nothing) := by
  intro l hl
  obtain ⟨r0, ⟨s, hP, rfl⟩, hr⟩ := r_s_DrawPhaseOf t_s_l1New t_s_l1Str l hl
  exact ⟨s, hP, tells hmix (x := x_s_DrawPhaseOf) (by kernel_rfl) hr⟩
theorem t_i_NextOk : C_i_NextOk (Tells Try.prog Kept.nothing) := fun a b => tells hmix (x := x_i_NextOk) (by kernel_rfl) (r_i_NextOk t_i_within a b)
theorem t_s_NextOk : C_s_NextOk (Tells Try.prog Kept.nothing) := fun a b => tells hmix (x := x_s_NextOk) (by kernel_rfl) (r_s_NextOk t_s_l1In a b)
theorem t_i_PhaseName : C_i_PhaseName (Tells Try.prog Kept.nothing) := fun p => tells hmix (x := x_i_PhaseName) (by kernel_rfl) (r_i_PhaseName t_i_within p)
theorem t_s_PhaseName : C_s_PhaseName (Tells Try.prog Kept.nothing) := fun p => tells hmix (x := x_s_PhaseName) (by kernel_rfl) (r_s_PhaseName t_s_l1In p)
theorem t_i_PhaseOf : C_i_PhaseOf (Tells Try.prog Kept.nothing) := fun s => tells hmix (x := x_i_PhaseOf) (by kernel_rfl) (r_i_PhaseOf t_i_PhaseName s)
theorem t_s_PhaseOf : C_s_PhaseOf (Tells Try.prog Kept.nothing) := fun s => tells hmix (x := x_s_PhaseOf) (by kernel_rfl) (r_s_PhaseOf t_s_PhaseName s)
theorem t_i_Reaches : C_i_Reaches (Tells Try.prog Kept.nothing) := by
  intro fu
  induction fu using Nat.strongRecOn with
  | ind fu ih =>
    intro a b ha hn
    exact tells hmix (x := x_i_Reaches) (by kernel_rfl) (r_i_Reaches t_i_NextOk fu ih a b ha hn)
theorem t_s_l14Way : C_s_l14Way (Tells Try.prog Kept.nothing) := by
  intro fu
  induction fu using Nat.strongRecOn with
  | ind fu ih =>
    intro a b hn
    exact tells hmix (x := x_s_l14Way) (by kernel_rfl) (r_s_l14Way t_s_NextOk fu ih a b hn)
theorem t_s_Reaches : C_s_Reaches (Tells Try.prog Kept.nothing) := fun a b => tells hmix (x := x_s_Reaches) (by kernel_rfl) (r_s_Reaches t_s_l14Way a b)
theorem t_l_FnPhases : C_l_FnPhases (Tells Try.prog Kept.nothing) := fun code h => tells hmix (x := x_l_FnPhases) (by kernel_rfl) (r_l_FnPhases t_l_big t_l_at t_s_DrawNextOk t_s_DrawReaches t_s_DrawFinal t_s_DrawWalks t_s_DrawPhaseName t_s_DrawPhaseOf t_i_NextOk t_s_NextOk t_i_Reaches t_s_Reaches t_i_Final t_s_Final t_i_Walks t_s_Walks t_i_PhaseName t_s_PhaseName t_i_PhaseOf t_s_PhaseOf code h)
end Go.X

