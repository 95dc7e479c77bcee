/- The law FnExactReaches answers true at every two ints: outside 0 .. 7 nothing follows; inside it is reckoned. -/
import Derived.Test.YtblfonlminnpmaaPFnExactReachesx1
namespace Go.Proofs.Ytblfonlminnpmaa.Pure
open Go.RowKit Go.Proofs.Ytblfonlminnpmaa.PFnExactReaches Go.Proofs.YtblfonlminnpmaaW.PrintWords Go.Proofs.YtblfonlminnpmaaW.PrintLast

theorem next_same (k : Nat) (a b : Int) : impl_NextOk.f k a b = spec_NextOk.f k a b := by
  cases k <;> rfl
theorem next_out (k : Nat) (a p : Int) (h : a < 0 ∨ 7 ≤ a) : spec_NextOk.f (k + 1) a p = some false := by
  unfold spec_NextOk.f
  simp only [spec_NextOk.j0, spec_l1In.f]
  have h6 : ¬ a = 6 := by omega
  by_cases hge : a ≥ 0
  · have h4 : decide (a ≤ 4) = false := decide_eq_false (by omega)
    have h3 : decide (a ≤ 3) = false := decide_eq_false (by omega)
    simp [hge, h4, h3, h6]
  · simp [hge, h6]
theorem impl_out (a b : Int) (h : a < 0 ∨ 7 ≤ a) (d : Nat) : ∀ (k : Nat) (p : Int), 0 ≤ p → p ≤ 8 → 8 - p = d → d + 1 < k → impl_Reaches.l0 k a b p = some false := by
  induction d with
  | zero =>
    intro k p h0 h1 hd hk
    obtain ⟨k, rfl⟩ : ∃ m, k = m + 1 := ⟨k - 1, by omega⟩
    simp only [impl_Reaches.l0]; rw [if_neg (by omega)]
  | succ d ih =>
    intro k p h0 h1 hd hk
    obtain ⟨k, rfl⟩ : ∃ m, k = m + 2 := ⟨k - 2, by omega⟩
    have hw : wrap64 (p + 1) = p + 1 := by unfold wrap64; omega
    have hi := ih (k + 1) (p + 1) (by omega) (by omega) (by omega) (by omega)
    rw [impl_Reaches.l0, if_pos (by omega), next_same, next_out k a p h, hw, hi]
    simp
theorem spec_out (a b : Int) (h : a < 0 ∨ 7 ≤ a) (d : Nat) : ∀ (k : Nat) (p : Int), 0 ≤ p → p ≤ 8 → 8 - p = d → 2 * d + 2 < k → spec_l14Way.l0 k a b 8 p = some false := by
  induction d with
  | zero =>
    intro k p h0 h1 hd hk
    obtain ⟨k, rfl⟩ : ∃ m, k = m + 2 := ⟨k - 2, by omega⟩
    simp only [spec_l14Way.l0]; rw [if_neg (by omega)]
    simp [spec_l14Way.j1]
  | succ d ih =>
    intro k p h0 h1 hd hk
    obtain ⟨k, rfl⟩ : ∃ m, k = m + 3 := ⟨k - 3, by omega⟩
    have hw : wrap64 (p + 1) = p + 1 := by unfold wrap64; omega
    have hi := ih (k + 1) (p + 1) (by omega) (by omega) (by omega) (by omega)
    rw [spec_l14Way.l0, if_pos (by omega), spec_l14Way.j1, next_out k a p h, hw, hi]
    simp
-- what is beyond the phases is never met: as well 8
theorem impl_far (b : Int) (h : b < 0 ∨ 8 ≤ b) : ∀ k : Nat, (∀ a : Int, 0 ≤ a → a ≤ 7 → impl_Reaches.f k a b = impl_Reaches.f k a 8) ∧ (∀ a p : Int, 0 ≤ a → a ≤ 7 → 0 ≤ p → p ≤ 8 → impl_Reaches.l0 k a b p = impl_Reaches.l0 k a 8 p) := by
  intro k
  induction k with
  | zero => exact ⟨fun _ _ _ => rfl, fun _ _ _ _ _ _ => rfl⟩
  | succ k ih =>
    refine ⟨fun a h0 h1 => ?_, fun a p h0 h1 h2 h3 => ?_⟩
    · simp only [impl_Reaches.f]
      rw [if_neg (by omega), if_neg (by omega)]
      exact ih.2 a 0 h0 h1 (by omega) (by omega)
    · simp only [impl_Reaches.l0]
      by_cases hp : p ≤ 7
      · have hw : wrap64 (p + 1) = p + 1 := by unfold wrap64; omega
        rw [if_pos hp, if_pos hp, hw, ih.2 a (p + 1) h0 h1 (by omega) (by omega), ih.1 p h2 hp]
      · rw [if_neg hp, if_neg hp]
theorem spec_far (b : Int) (h : b < 0 ∨ 8 ≤ b) : ∀ k : Nat, (∀ a m : Int, 0 ≤ a → a ≤ 7 → spec_l14Way.f k a b m = spec_l14Way.f k a 8 m) ∧ (∀ a m p : Int, 0 ≤ a → a ≤ 7 → 0 ≤ p → p ≤ 8 → spec_l14Way.l0 k a b m p = spec_l14Way.l0 k a 8 m p) ∧
    (∀ a m p : Int, ∀ c : Bool, 0 ≤ a → a ≤ 7 → 0 ≤ p → (c = true → p ≤ 7) → spec_l14Way.j1 k a b m p c = spec_l14Way.j1 k a 8 m p c) := by
  intro k
  induction k with
  | zero => exact ⟨fun _ _ _ _ => rfl, fun _ _ _ _ _ _ _ => rfl, fun _ _ _ _ _ _ _ _ => rfl⟩
  | succ k ih =>
    refine ⟨fun a m h0 h1 => ?_, fun a m p h0 h1 h2 h3 => ?_, fun a m p c h0 h1 h2 h3 => ?_⟩
    · simp only [spec_l14Way.f]
      rw [if_neg (by omega), if_neg (by omega)]
      exact ih.2.1 a m 0 h0 h1 (by omega) (by omega)
    · simp only [spec_l14Way.l0]
      by_cases hp : p ≤ 7
      · rw [if_pos hp, if_pos hp, ih.2.2 a m p _ h0 h1 h2 (fun _ => hp)]
      · rw [if_neg hp, if_neg hp, ih.2.2 a m p _ h0 h1 h2 (fun h => by cases h)]
    · simp only [spec_l14Way.j1]
      cases c with
      | false => rfl
      | true =>
        have hp := h3 rfl
        have hw : wrap64 (p + 1) = p + 1 := by unfold wrap64; omega
        rw [hw, ih.2.1 a m (p + 1) h0 h1 (by omega) (by omega), ih.1 p _ h2 hp]
theorem reckoned : ∀ a : Fin 8, ∀ b : Fin 9, laws_FnExactReaches.f 150 (a.val : Int) (b.val : Int) = some true := by decide +kernel
theorem FnExactReaches : laws_FnExactReaches.Pure := by
  intro a b _ _
  refine ⟨150, ?_⟩
  by_cases ha : 0 ≤ a ∧ a ≤ 7
  · by_cases hb : 0 ≤ b ∧ b ≤ 7
    · have := reckoned ⟨a.toNat, by omega⟩ ⟨b.toNat, by omega⟩
      simp only [Int.toNat_of_nonneg ha.1, Int.toNat_of_nonneg hb.1] at this
      exact this
    · have := reckoned ⟨a.toNat, by omega⟩ ⟨8, by omega⟩
      simp only [Int.toNat_of_nonneg ha.1] at this
      unfold laws_FnExactReaches.f spec_Reaches.f at this ⊢
      rw [(impl_far b (by omega) 150).1 a ha.1 ha.2, (spec_far b (by omega) 150).1 a 8 ha.1 ha.2]
      exact this
  · unfold laws_FnExactReaches.f spec_Reaches.f
    simp only [spec_l14Way.f, impl_Reaches.f]
    by_cases he : a = b
    · simp [he]
    · rw [if_neg he, if_neg he, impl_out a b (by omega) 8 149 0 (by omega) (by omega) (by omega) (by omega), spec_out a b (by omega) 8 149 0 (by omega) (by omega) (by omega) (by omega)]
      simp

end Go.Proofs.Ytblfonlminnpmaa.Pure
