/- What the functions tell. -/
import Derived.Test.YteefgdjifjkogaaCf
import Derived.Test.YteefgdjifjkogaaProg
set_option linter.unusedVariables false
set_option linter.unusedSimpArgs false
namespace Go.X
open Go.Proofs
theorem hmix : Try.prog.follows .mixedOrders = true := by kernel_rfl
theorem t_i_within : C_i_within (Tells Try.prog Kept.nothing) := fun n a b => tells hmix (x := x_i_within) (by kernel_rfl) (r_i_within n a b)
theorem t_s_l1In : C_s_l1In (Tells Try.prog Kept.nothing) := fun n a b => tells hmix (x := x_s_l1In) (by kernel_rfl) (r_s_l1In n a b)
theorem t_i_isWord : C_i_isWord (Tells Try.prog Kept.nothing) := fun n => tells hmix (x := x_i_isWord) (by kernel_rfl) (r_i_isWord t_i_within n)
theorem t_s_l1Word : C_s_l1Word (Tells Try.prog Kept.nothing) := fun n => tells hmix (x := x_s_l1Word) (by kernel_rfl) (r_s_l1Word t_s_l1In n)
theorem t_i_MsgOk : C_i_MsgOk (Tells Try.prog Kept.nothing) := fun m => tells hmix (x := x_i_MsgOk) (by kernel_rfl) (r_i_MsgOk t_i_within t_i_isWord m)
theorem t_s_MsgOk : C_s_MsgOk (Tells Try.prog Kept.nothing) := fun m => tells hmix (x := x_s_MsgOk) (by kernel_rfl) (r_s_MsgOk t_s_l1In t_s_l1Word m)
theorem t_i_leadIn : C_i_leadIn (Tells Try.prog Kept.nothing) := fun p => tells hmix (x := x_i_leadIn) (by kernel_rfl) (r_i_leadIn p)
theorem t_s_l19At : C_s_l19At (Tells Try.prog Kept.nothing) := fun p => tells hmix (x := x_s_l19At) (by kernel_rfl) (r_s_l19At p)
theorem t_i_Forget : C_i_Forget (Tells Try.prog Kept.nothing) := fun l => tells hmix (x := x_i_Forget) (by kernel_rfl) (r_i_Forget t_i_leadIn l)
theorem t_s_Forget : C_s_Forget (Tells Try.prog Kept.nothing) := fun l => tells hmix (x := x_s_Forget) (by kernel_rfl) (r_s_Forget t_s_l19At l)
theorem t_i_copyLead : C_i_copyLead (Tells Try.prog Kept.nothing) := fun l h => tells hmix (x := x_i_copyLead) (by kernel_rfl) (r_i_copyLead l h)
theorem t_s_l19Copy : C_s_l19Copy (Tells Try.prog Kept.nothing) := fun l h => tells hmix (x := x_s_l19Copy) (by kernel_rfl) (r_s_l19Copy l h)
theorem t_i_LeadOk : C_i_LeadOk (Tells Try.prog Kept.nothing) := fun l h => tells hmix (x := x_i_LeadOk) (by kernel_rfl) (r_i_LeadOk t_i_within l h)
theorem t_s_LeadOk : C_s_LeadOk (Tells Try.prog Kept.nothing) := fun l h => tells hmix (x := x_s_LeadOk) (by kernel_rfl) (r_s_LeadOk t_s_l1In l h)
theorem t_i_Begin : C_i_Begin (Tells Try.prog Kept.nothing) := fun l h => tells hmix (x := x_i_Begin) (by kernel_rfl) (r_i_Begin t_i_LeadOk t_i_copyLead t_i_leadIn l h)
theorem t_s_Begin : C_s_Begin (Tells Try.prog Kept.nothing) := fun l h => tells hmix (x := x_s_Begin) (by kernel_rfl) (r_s_Begin t_s_LeadOk t_s_l19Copy t_s_l19At l h)
theorem t_i_Abort : C_i_Abort (Tells Try.prog Kept.nothing) := fun l h => tells hmix (x := x_i_Abort) (by kernel_rfl) (r_i_Abort t_i_LeadOk t_i_within t_i_copyLead t_i_leadIn l h)
theorem t_s_Abort : C_s_Abort (Tells Try.prog Kept.nothing) := fun l h => tells hmix (x := x_s_Abort) (by kernel_rfl) (r_s_Abort t_s_LeadOk t_s_l1In t_s_l19Copy t_s_l19At l h)
theorem t_i_Walks : C_i_Walks (Tells Try.prog Kept.nothing) := fun p => tells hmix (x := x_i_Walks) (by kernel_rfl) (r_i_Walks p)
theorem t_s_Walks : C_s_Walks (Tells Try.prog Kept.nothing) := fun p => tells hmix (x := x_s_Walks) (by kernel_rfl) (r_s_Walks t_s_l1In p)
theorem t_i_Final : C_i_Final (Tells Try.prog Kept.nothing) := fun p => tells hmix (x := x_i_Final) (by kernel_rfl) (r_i_Final p)
theorem t_s_Final : C_s_Final (Tells Try.prog Kept.nothing) := fun p => tells hmix (x := x_s_Final) (by kernel_rfl) (r_s_Final p)
theorem t_i_Tick : C_i_Tick (Tells Try.prog Kept.nothing) := fun l h => tells hmix (x := x_i_Tick) (by kernel_rfl) (r_i_Tick t_i_LeadOk t_i_Walks l h)
theorem t_s_Tick : C_s_Tick (Tells Try.prog Kept.nothing) := fun l h => tells hmix (x := x_s_Tick) (by kernel_rfl) (r_s_Tick t_s_LeadOk t_s_Walks l h)
theorem t_i_Hear : C_i_Hear (Tells Try.prog Kept.nothing) := fun l m h => tells hmix (x := x_i_Hear) (by kernel_rfl) (r_i_Hear t_i_copyLead t_i_LeadOk t_i_MsgOk t_i_Walks t_i_Final t_i_leadIn l m h)
theorem t_s_Hear : C_s_Hear (Tells Try.prog Kept.nothing) := fun l m h => tells hmix (x := x_s_Hear) (by kernel_rfl) (r_s_Hear t_s_l19Copy t_s_LeadOk t_s_MsgOk t_s_Walks t_s_Final t_s_l19At l m h)
theorem t_l_big : C_l_big (Tells Try.prog Kept.nothing) := fun l => tells hmix (x := x_l_big) (by kernel_rfl) (r_l_big l)
theorem t_s_l1New : C_s_l1New (Tells Try.prog Kept.nothing) := by
  intro l hl
  obtain ⟨r0, ⟨c, hP, rfl⟩, hr⟩ := r_s_l1New l hl
  exact ⟨c, hP, tellsP hmix (x := x_s_l1New) (by kernel_rfl) hr⟩
theorem t_s_l1Byte : C_s_l1Byte (Tells Try.prog Kept.nothing) := by
  intro c hc
  obtain ⟨r0, ⟨r, d, hP, rfl⟩, hr⟩ := r_s_l1Byte c hc
  exact ⟨r, d, hP, tells hmix (x := x_s_l1Byte) (by kernel_rfl) hr⟩
theorem t_s_l1Below : C_s_l1Below (Tells Try.prog Kept.nothing) := by
  intro c n hc
  obtain ⟨r0, ⟨r, d, hP, rfl⟩, hr⟩ := r_s_l1Below t_s_l1Byte c n hc
  exact ⟨r, d, hP, tells hmix (x := x_s_l1Below) (by kernel_rfl) hr⟩
theorem t_s_l1Once : C_s_l1Once (Tells Try.prog Kept.nothing) := by
  intro c n hc
  obtain ⟨r0, ⟨r, d, hP, rfl⟩, hr⟩ := r_s_l1Once t_s_l1Below c n hc
  exact ⟨r, d, hP, tells hmix (x := x_s_l1Once) (by kernel_rfl) hr⟩
theorem t_s_l1Int : C_s_l1Int (Tells Try.prog Kept.nothing) := by
  intro c l hc hl
  obtain ⟨r0, ⟨r, d, hP, rfl⟩, hr⟩ := r_s_l1Int t_s_l1Below c l hc hl
  exact ⟨r, d, hP, tells hmix (x := x_s_l1Int) (by kernel_rfl) hr⟩
theorem t_s_l1Str : C_s_l1Str (Tells Try.prog Kept.nothing) := by
  intro c l hc hl
  obtain ⟨r0, ⟨r, d, hP, rfl⟩, hr⟩ := r_s_l1Str t_s_l1Below c l hc hl
  exact ⟨r, d, hP, tells hmix (x := x_s_l1Str) (by kernel_rfl) hr⟩
theorem t_s_l19Draw : C_s_l19Draw (Tells Try.prog Kept.nothing) := by
  intro c hc
  obtain ⟨r0, ⟨l, d, hP, rfl⟩, hr⟩ := r_s_l19Draw t_s_l1Below t_s_l19At t_s_l1Once t_s_l1Str c hc
  exact ⟨l, d, hP, tells hmix (x := x_s_l19Draw) (by kernel_rfl) hr⟩
theorem t_l_sameLead : C_l_sameLead (Tells Try.prog Kept.nothing) := fun x y hx => tells hmix (x := x_l_sameLead) (by kernel_rfl) (r_l_sameLead x y hx)
theorem t_s_l3Nine : C_s_l3Nine (Tells Try.prog Kept.nothing) := fun b => tells hmix (x := x_s_l3Nine) (by kernel_rfl) (r_s_l3Nine b)
theorem t_s_l3Koi : C_s_l3Koi (Tells Try.prog Kept.nothing) := fun b hb => tells hmix (x := x_s_l3Koi) (by kernel_rfl) (r_s_l3Koi b hb)
theorem t_s_l3Win : C_s_l3Win (Tells Try.prog Kept.nothing) := fun b hb => tells hmix (x := x_s_l3Win) (by kernel_rfl) (r_s_l3Win b hb)
theorem t_s_ByteSign : C_s_ByteSign (Tells Try.prog Kept.nothing) := fun cs b => tells hmix (x := x_s_ByteSign) (by kernel_rfl) (r_s_ByteSign t_s_l1In t_s_l3Nine t_s_l3Koi t_s_l3Win cs b)
theorem t_s_SignOk : C_s_SignOk (Tells Try.prog Kept.nothing) := fun n => tells hmix (x := x_s_SignOk) (by kernel_rfl) (r_s_SignOk t_s_l1In n)
theorem t_s_PutSign : C_s_PutSign (Tells Try.prog Kept.nothing) := fun b n hb => tells hmix (x := x_s_PutSign) (by kernel_rfl) (r_s_PutSign t_s_SignOk b n hb)
theorem t_s_l1Name : C_s_l1Name (Tells Try.prog Kept.nothing) := by
  intro c hc
  obtain ⟨r0, ⟨r, d, hP, rfl⟩, hr⟩ := r_s_l1Name t_s_l1Str c hc
  exact ⟨r, d, hP, tells hmix (x := x_s_l1Name) (by kernel_rfl) hr⟩
theorem t_s_l1Num : C_s_l1Num (Tells Try.prog Kept.nothing) := by
  intro c hc
  obtain ⟨r0, ⟨r, d, hP, rfl⟩, hr⟩ := r_s_l1Num t_s_l1Int c hc
  exact ⟨r, d, hP, tells hmix (x := x_s_l1Num) (by kernel_rfl) hr⟩
theorem t_s_l1In2 : C_s_l1In2 (Tells Try.prog Kept.nothing) := by
  intro c n hc
  obtain ⟨r0, ⟨r, d, hP, rfl⟩, hr⟩ := r_s_l1In2 t_s_l1Once t_s_l1Below c n hc
  exact ⟨r, d, hP, tells hmix (x := x_s_l1In2) (by kernel_rfl) hr⟩
theorem t_s_l2Sign : C_s_l2Sign (Tells Try.prog Kept.nothing) := by
  intro c hc
  obtain ⟨r0, ⟨r, d, hP, rfl⟩, hr⟩ := r_s_l2Sign t_s_l1Int c hc
  exact ⟨r, d, hP, tells hmix (x := x_s_l2Sign) (by kernel_rfl) hr⟩
theorem t_s_l5Sign : C_s_l5Sign (Tells Try.prog Kept.nothing) := by
  intro c cs hc
  obtain ⟨r0, ⟨r, d, hP, rfl⟩, hr⟩ := r_s_l5Sign t_s_l2Sign t_s_l1Int t_s_ByteSign c cs hc
  exact ⟨r, d, hP, tells hmix (x := x_s_l5Sign) (by kernel_rfl) hr⟩
theorem t_s_l5Text : C_s_l5Text (Tells Try.prog Kept.nothing) := by
  intro c cs most hc hm
  obtain ⟨r0, ⟨r, d, hP, rfl⟩, hr⟩ := r_s_l5Text t_s_l1Below t_s_l5Sign t_s_PutSign c cs most hc hm
  exact ⟨r, d, hP, tells hmix (x := x_s_l5Text) (by kernel_rfl) hr⟩
theorem t_s_l16Draw : C_s_l16Draw (Tells Try.prog Kept.nothing) := by
  intro c hc
  obtain ⟨r0, ⟨m, d, hP, rfl⟩, hr⟩ := r_s_l16Draw t_s_l1Below t_s_l1Int t_s_l1Name t_s_l5Text c hc
  exact ⟨m, d, hP, tells hmix (x := x_s_l16Draw) (by kernel_rfl) hr⟩
theorem t_s_l16Any : C_s_l16Any (Tells Try.prog Kept.nothing) := by
  intro c hc
  obtain ⟨r0, ⟨m, d, hP, rfl⟩, hr⟩ := r_s_l16Any t_s_l16Draw t_s_l1Below t_s_l1Int t_s_l1Num c hc
  exact ⟨m, d, hP, tells hmix (x := x_s_l16Any) (by kernel_rfl) hr⟩
theorem t_s_l19Any : C_s_l19Any (Tells Try.prog Kept.nothing) := by
  intro c hc
  obtain ⟨r0, ⟨l, d, hP, rfl⟩, hr⟩ := r_s_l19Any t_s_l19Draw t_s_l1Below t_s_l1Int c hc
  exact ⟨l, d, hP, tells hmix (x := x_s_l19Any) (by kernel_rfl) hr⟩
theorem t_s_DrawLeadOk : C_s_DrawLeadOk (Tells Try.prog Kept.nothing) := by
  intro l hl
  obtain ⟨r0, ⟨a, hP, rfl⟩, hr⟩ := r_s_DrawLeadOk t_s_l1New t_s_l19Any l hl
  exact ⟨a, hP, tells hmix (x := x_s_DrawLeadOk) (by kernel_rfl) hr⟩
theorem t_s_DrawAbort : C_s_DrawAbort (Tells Try.prog Kept.nothing) := by
  intro l hl
  obtain ⟨r0, ⟨a, hP, rfl⟩, hr⟩ := r_s_DrawAbort t_s_l1New t_s_l19Any l hl
  exact ⟨a, hP, tells hmix (x := x_s_DrawAbort) (by kernel_rfl) hr⟩
theorem t_s_DrawTick : C_s_DrawTick (Tells Try.prog Kept.nothing) := by
  intro l hl
  obtain ⟨r0, ⟨a, hP, rfl⟩, hr⟩ := r_s_DrawTick t_s_l1New t_s_l19Any l hl
  exact ⟨a, hP, tells hmix (x := x_s_DrawTick) (by kernel_rfl) hr⟩
theorem t_s_DrawForget : C_s_DrawForget (Tells Try.prog Kept.nothing) := by
  intro l hl
  obtain ⟨r0, ⟨a, hP, rfl⟩, hr⟩ := r_s_DrawForget t_s_l1New t_s_l19Any l hl
  exact ⟨a, hP, tells hmix (x := x_s_DrawForget) (by kernel_rfl) hr⟩
theorem t_s_DrawBegin : C_s_DrawBegin (Tells Try.prog Kept.nothing) := by
  intro l hl
  obtain ⟨r0, ⟨a, hP, rfl⟩, hr⟩ := r_s_DrawBegin t_s_l1New t_s_l19Any t_s_l1Once l hl
  exact ⟨a, hP, tells hmix (x := x_s_DrawBegin) (by kernel_rfl) hr⟩
theorem t_s_DrawHear : C_s_DrawHear (Tells Try.prog Kept.nothing) := by
  intro l hl
  obtain ⟨r0, ⟨a, m, hP, rfl⟩, hr⟩ := r_s_DrawHear t_s_l1New t_s_l19Any t_s_l1Int t_s_l1Below t_s_l1In2 t_s_l1Name t_s_l1Once t_s_l16Any l hl
  exact ⟨a, m, hP, tells hmix (x := x_s_DrawHear) (by kernel_rfl) hr⟩
theorem t_l_sameMsgs : C_l_sameMsgs (Tells Try.prog Kept.nothing) := fun x y hx => tells hmix (x := x_l_sameMsgs) (by kernel_rfl) (r_l_sameMsgs x y hx)
theorem t_l_FnLeadsBent : C_l_FnLeadsBent (Tells Try.prog Kept.nothing) := fun code h => tells hmix (x := x_l_FnLeadsBent) (by kernel_rfl) (r_l_FnLeadsBent t_l_big t_s_DrawLeadOk t_s_DrawBegin t_i_Begin t_s_Begin t_s_DrawAbort t_i_Abort t_s_Abort t_s_DrawTick t_s_DrawHear t_s_DrawForget t_i_LeadOk t_s_LeadOk t_l_sameLead t_i_Tick t_s_Tick t_l_sameMsgs t_i_Hear t_s_Hear t_i_Forget t_s_Forget code h)
end Go.X

