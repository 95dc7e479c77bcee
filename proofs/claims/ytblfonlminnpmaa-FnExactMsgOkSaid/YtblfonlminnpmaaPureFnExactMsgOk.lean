/- The law FnExactMsgOk answers true at every Msg: both bodies are the same tests. -/
import Derived.Test.YtblfonlminnpmaaPFnExactMsgOkx1
import Derived.Test.YtblfonlminnpmaaPLib
namespace Go.Proofs.Ytblfonlminnpmaa.Pure.FnExactMsgOk
open Go.RowKit Go.Proofs.Ytblfonlminnpmaa.PFnExactMsgOk Go.Proofs.YtblfonlminnpmaaW.PrintWords Go.Proofs.YtblfonlminnpmaaW.PrintLast Go.Proofs.YtblfonlminnpmaaW.PLib
theorem szMsg_some (a0 a1 a2 a3 : Int) (s t : ByteArray) (a6 a7 x : Int) : ∃ r, laws_szMsg.f a0 a1 a2 a3 s t a6 a7 x = some r := by
  unfold laws_szMsg.f
  repeat' (first | exact ⟨_, rfl⟩ | split)

theorem msgOk_same (a0 a1 a2 a3 : Int) (s t : ByteArray) (a6 a7 : Int) : impl_MsgOk.f a0 a1 a2 a3 s t a6 a7 = spec_MsgOk.f a0 a1 a2 a3 s t a6 a7 := rfl
theorem msgOk_some (a0 a1 a2 a3 : Int) (s t : ByteArray) (a6 a7 : Int) : ∃ r, spec_MsgOk.f a0 a1 a2 a3 s t a6 a7 = some r := by
  unfold spec_MsgOk.f spec_l1Word.f spec_l1In.f
  have hin : ∀ x lo hi : Int, ∃ b, (if x ≥ lo then some (decide (x ≤ hi)) else some false) = some b := fun x lo hi => by split <;> exact ⟨_, rfl⟩
  obtain ⟨b0, h0⟩ := hin a0 1 9
  obtain ⟨b1, h1⟩ := hin a1 0 4
  obtain ⟨b2, h2⟩ := hin a2 0 4
  obtain ⟨b3, h3⟩ := hin a3 0 65535
  obtain ⟨b6, h6⟩ := hin a6 0 255
  obtain ⟨b7, h7⟩ := hin a7 0 6
  rw [h0, h1, h2, h3, h6, h7]
  simp only [Option.bind_some]
  repeat' (first | exact ⟨_, rfl⟩ | split)

theorem holds : ∀ (a0_0 : Int) (a0_1 : Int) (a0_2 : Int) (a0_3 : Int) (a0_4 : ByteArray) (a0_5 : ByteArray) (a0_6 : Int) (a0_7 : Int), (Lit.int .i64 a0_0).wf = true → (Lit.int .i64 a0_1).wf = true → (Lit.int .i64 a0_2).wf = true → (Lit.int .i64 a0_3).wf = true → a0_4.size ≤ 140737488351232 → a0_5.size ≤ 140737488351232 → (Lit.int .i64 a0_6).wf = true → (Lit.int .i64 a0_7).wf = true → laws_FnExactMsgOk.f a0_0 a0_1 a0_2 a0_3 a0_4 a0_5 a0_6 a0_7 = some true := by
  intro a0 a1 a2 a3 s t a6 a7 _ _ _ _ _ _ _ _
  obtain ⟨q, hq⟩ := szMsg_some a0 a1 a2 a3 s t a6 a7 1048576
  obtain ⟨r, hr⟩ := msgOk_some a0 a1 a2 a3 s t a6 a7
  unfold laws_FnExactMsgOk.f laws_toMsg.f
  simp only [hq, Option.bind_some, hr, msgOk_same]
  split
  · rfl
  · simp
end Go.Proofs.Ytblfonlminnpmaa.Pure.FnExactMsgOk
