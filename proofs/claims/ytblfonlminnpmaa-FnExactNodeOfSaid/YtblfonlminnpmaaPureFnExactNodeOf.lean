/- The law FnExactNodeOf answers true at every string: the first byte's rest by 2 is 0 or 1. -/
import Derived.Test.YtblfonlminnpmaaPFnExactNodeOfx1
namespace Go.Proofs.Ytblfonlminnpmaa.Pure
open Go.RowKit Go.Proofs.Ytblfonlminnpmaa.PFnExactNodeOf Go.Proofs.YtblfonlminnpmaaW.PrintWords Go.Proofs.YtblfonlminnpmaaW.PrintLast

theorem toListLen (s : ByteArray) : s.toList.length = s.size := by rw [ByteArray.toList_eq, data_length]
theorem FnExactNodeOf : laws_FnExactNodeOf.Pure := by
  intro a0 _
  unfold laws_FnExactNodeOf.f spec_NodeOf.f impl_NodeOf.f
  by_cases hb : (a0.size : Int) > 1048576
  · rw [if_pos hb]
  rw [if_neg hb]
  by_cases h0 : (a0.size : Int) = 0
  · have he : a0.toList = ([] : List UInt8) := List.eq_nil_of_length_eq_zero (by rw [toListLen]; omega)
    rw [if_pos h0, if_pos he]; rfl
  · have hp : 0 < (a0.size : Int) := by omega
    have he : ¬ a0.toList = ([] : List UInt8) := by
      intro he
      have h1 : a0.toList.length = a0.size := toListLen a0
      rw [he] at h1
      simp at h1
      omega
    rw [if_neg h0, if_neg he, if_pos hp, if_pos hp]
    have hr := bt_range a0 0
    have hw : wrap64 (bt a0 0) = bt a0 0 := by unfold wrap64; omega
    have hm : Int.tmod (bt a0 0) 2 = bt a0 0 % 2 := Int.tmod_eq_emod_of_nonneg hr.1
    rw [hw, hm]
    have h2 : bt a0 0 % 2 = 0 ∨ bt a0 0 % 2 = 1 := by omega
    rcases h2 with h2 | h2 <;> rw [h2] <;> decide +kernel

end Go.Proofs.Ytblfonlminnpmaa.Pure
