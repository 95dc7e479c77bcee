/- The law FnExactPhaseOf answers true at every string: both loops go over the same eight names. -/
import Derived.Test.YtblfonlminnpmaaPFnExactPhaseOfx1
namespace Go.Proofs.Ytblfonlminnpmaa.Pure
open Go.RowKit Go.Proofs.Ytblfonlminnpmaa.PFnExactPhaseOf Go.Proofs.YtblfonlminnpmaaW.PrintWords Go.Proofs.YtblfonlminnpmaaW.PrintLast

theorem phaseName_same (a : Int) : impl_PhaseName.f a = spec_PhaseName.f a := by
  unfold spec_PhaseName.f impl_PhaseName.f spec_l1In.f impl_within.f
  by_cases hge : a ≥ 0
  · by_cases hle : a ≤ 7
    · have hd : decide (a ≤ 7) = true := decide_eq_true hle
      have hlt : a < 8 := by omega
      simp [hge, hd, hlt]
    · have hd : decide (a ≤ 7) = false := decide_eq_false hle
      simp [hge, hd]
  · simp [hge]
theorem phaseName_some (a : Int) : ∃ r, spec_PhaseName.f a = some r := by
  unfold spec_PhaseName.f spec_l1In.f
  by_cases hge : a ≥ 0
  · by_cases hle : a ≤ 7
    · have hd : decide (a ≤ 7) = true := decide_eq_true hle
      have hlt : a < 8 := by omega
      simp [hge, hd, hlt]
    · have hd : decide (a ≤ 7) = false := decide_eq_false hle
      simp [hge, hd]
  · simp [hge]
theorem loops_same (s : ByteArray) : ∀ (k : Nat) (i : Int), impl_PhaseOf.l0 k s i = spec_PhaseOf.l0 k s i := by
  intro k
  induction k with
  | zero => intro i; rfl
  | succ k ih => intro i; simp only [impl_PhaseOf.l0, spec_PhaseOf.l0, phaseName_same, ih]
theorem loop_some (s : ByteArray) (d : Nat) : ∀ (k : Nat) (i : Int), 0 ≤ i → i ≤ 8 → 8 - i = d → d < k → ∃ r, spec_PhaseOf.l0 k s i = some r := by
  induction d with
  | zero =>
    intro k i h0 h1 hd hk
    obtain ⟨k, rfl⟩ : ∃ m, k = m + 1 := ⟨k - 1, by omega⟩
    exact ⟨-1, by simp only [spec_PhaseOf.l0]; rw [if_neg (by omega)]⟩
  | succ d ih =>
    intro k i h0 h1 hd hk
    obtain ⟨k, rfl⟩ : ∃ m, k = m + 1 := ⟨k - 1, by omega⟩
    obtain ⟨b, hb⟩ := phaseName_some i
    obtain ⟨r, hr⟩ := ih k (i + 1) (by omega) (by omega) (by omega) (by omega)
    have hw : wrap64 (i + 1) = i + 1 := by unfold wrap64; omega
    simp only [spec_PhaseOf.l0]
    rw [if_pos (by omega), hb, hw, hr]
    simp only [Option.bind_some]
    split
    · exact ⟨_, rfl⟩
    · exact ⟨_, rfl⟩
theorem FnExactPhaseOf : laws_FnExactPhaseOf.Pure := by
  intro a0 _
  refine ⟨9, ?_⟩
  unfold laws_FnExactPhaseOf.f
  by_cases hb : (a0.size : Int) > 1048576
  · rw [if_pos hb]
  rw [if_neg hb]
  obtain ⟨r, hr⟩ := loop_some a0 8 9 0 (by omega) (by omega) (by omega) (by omega)
  unfold spec_PhaseOf.f impl_PhaseOf.f
  rw [loops_same, hr]
  simp

end Go.Proofs.Ytblfonlminnpmaa.Pure
