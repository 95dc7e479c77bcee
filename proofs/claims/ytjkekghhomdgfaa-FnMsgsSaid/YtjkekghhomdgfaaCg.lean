/- What the functions tell. -/
import Derived.Test.YtjkekghhomdgfaaCf
import Derived.Test.YtjkekghhomdgfaaProg
set_option linter.unusedVariables false
set_option linter.unusedSimpArgs false
namespace Go.X
open Go.Proofs
theorem hmix : Try.prog.follows .mixedOrders = true := by kernel_rfl
theorem t_i_within : C_i_within (Tells Try.prog Kept.nothing) := fun n a b => tells hmix (x := x_i_within) (by kernel_rfl) (r_i_within n a b)
theorem t_s_l1In : C_s_l1In (Tells Try.prog Kept.nothing) := fun n a b => tells hmix (x := x_s_l1In) (by kernel_rfl) (r_s_l1In n a b)
theorem t_i_isWord : C_i_isWord (Tells Try.prog Kept.nothing) := fun n => tells hmix (x := x_i_isWord) (by kernel_rfl) (r_i_isWord t_i_within n)
theorem t_s_l1Word : C_s_l1Word (Tells Try.prog Kept.nothing) := fun n => tells hmix (x := x_s_l1Word) (by kernel_rfl) (r_s_l1Word t_s_l1In n)
theorem t_i_MsgOk : C_i_MsgOk (Tells Try.prog Kept.nothing) := fun m => tells hmix (x := x_i_MsgOk) (by kernel_rfl) (r_i_MsgOk t_i_within t_i_isWord m)
theorem t_s_MsgOk : C_s_MsgOk (Tells Try.prog Kept.nothing) := fun m => tells hmix (x := x_s_MsgOk) (by kernel_rfl) (r_s_MsgOk t_s_l1In t_s_l1Word m)
theorem t_i_joined : C_i_joined (Tells Try.prog Kept.nothing) := fun ps h h2 => tells hmix (x := x_i_joined) (by kernel_rfl) (r_i_joined ps h h2)
theorem t_i_Sum : C_i_Sum (Tells Try.prog Kept.nothing) := fun l h => tells hmix (x := x_i_Sum) (by kernel_rfl) (r_i_Sum l h)
theorem t_s_Sum : C_s_Sum (Tells Try.prog Kept.nothing) := fun l h => tells hmix (x := x_s_Sum) (by kernel_rfl) (r_s_Sum l h)
theorem t_i_PutW : C_i_PutW (Tells Try.prog Kept.nothing) := fun b n h => tells hmix (x := x_i_PutW) (by kernel_rfl) (r_i_PutW t_i_joined b n h)
theorem t_s_PutW : C_s_PutW (Tells Try.prog Kept.nothing) := fun b n h => tells hmix (x := x_s_PutW) (by kernel_rfl) (r_s_PutW b n h)
theorem t_s_PutText : C_s_PutText (Tells Try.prog Kept.nothing) := fun b t h ht => tells hmix (x := x_s_PutText) (by kernel_rfl) (r_s_PutText t_s_PutW b t h ht)
theorem t_i_PutText : C_i_PutText (Tells Try.prog Kept.nothing) := fun b t h ht => tells hmix (x := x_i_PutText) (by kernel_rfl) (r_i_PutText t_i_joined t_i_PutW b t h ht)
theorem t_i_PutMsg : C_i_PutMsg (Tells Try.prog Kept.nothing) := fun m h => tells hmix (x := x_i_PutMsg) (by kernel_rfl) (r_i_PutMsg t_i_MsgOk t_i_PutW t_i_PutText t_i_Sum m h)
theorem t_s_PutMsg : C_s_PutMsg (Tells Try.prog Kept.nothing) := fun m h => tells hmix (x := x_s_PutMsg) (by kernel_rfl) (r_s_PutMsg t_s_MsgOk t_s_PutW t_s_PutText t_s_Sum m h)
theorem t_i_GetW : C_i_GetW (Tells Try.prog Kept.nothing) := fun b i h => tells hmix (x := x_i_GetW) (by kernel_rfl) (r_i_GetW b i h)
theorem t_s_GetW : C_s_GetW (Tells Try.prog Kept.nothing) := fun b i h => tells hmix (x := x_s_GetW) (by kernel_rfl) (r_s_GetW t_s_l1In b i h)
theorem t_i_GetText : C_i_GetText (Tells Try.prog Kept.nothing) := fun b i h => tells hmix (x := x_i_GetText) (by kernel_rfl) (r_i_GetText t_i_GetW b i h)
theorem t_s_GetText : C_s_GetText (Tells Try.prog Kept.nothing) := fun b i h => tells hmix (x := x_s_GetText) (by kernel_rfl) (r_s_GetText t_s_GetW b i h)
theorem t_i_scanone : C_i_scanone (Tells Try.prog Kept.nothing) := fun s h => tells hmix (x := x_i_scanone) (by kernel_rfl) (r_i_scanone s h)
theorem t_i_scanword : C_i_scanword (Tells Try.prog Kept.nothing) := fun s h => tells hmix (x := x_i_scanword) (by kernel_rfl) (r_i_scanword t_i_GetW s h)
theorem t_i_scantext : C_i_scantext (Tells Try.prog Kept.nothing) := fun s h => tells hmix (x := x_i_scantext) (by kernel_rfl) (r_i_scantext t_i_GetText s h)
theorem t_i_scansum : C_i_scansum (Tells Try.prog Kept.nothing) := fun s h => tells hmix (x := x_i_scansum) (by kernel_rfl) (r_i_scansum t_i_scanword t_i_Sum s h)
theorem t_i_GetMsg : C_i_GetMsg (Tells Try.prog Kept.nothing) := fun b h => tells hmix (x := x_i_GetMsg) (by kernel_rfl) (r_i_GetMsg t_i_scanone t_i_scanword t_i_scantext t_i_scansum t_i_MsgOk b h)
theorem t_s_GetMsg : C_s_GetMsg (Tells Try.prog Kept.nothing) := fun b h => tells hmix (x := x_s_GetMsg) (by kernel_rfl) (r_s_GetMsg t_s_GetW t_s_GetText t_s_Sum t_s_MsgOk b h)
theorem t_i_NodeOf : C_i_NodeOf (Tells Try.prog Kept.nothing) := fun s h => tells hmix (x := x_i_NodeOf) (by kernel_rfl) (r_i_NodeOf s h)
theorem t_s_NodeOf : C_s_NodeOf (Tells Try.prog Kept.nothing) := fun s h => tells hmix (x := x_s_NodeOf) (by kernel_rfl) (r_s_NodeOf s h)
theorem t_l_big : C_l_big (Tells Try.prog Kept.nothing) := fun l => tells hmix (x := x_l_big) (by kernel_rfl) (r_l_big l)
theorem t_l_at : C_l_at (Tells Try.prog Kept.nothing) := by
  intro l i hi hl
  obtain ⟨r0, ⟨r, hP, rfl⟩, hr⟩ := r_l_at l i hi hl
  exact ⟨r, hP, tells hmix (x := x_l_at) (by kernel_rfl) hr⟩
theorem t_s_l1New : C_s_l1New (Tells Try.prog Kept.nothing) := by
  intro l hl
  obtain ⟨r0, ⟨c, hP, rfl⟩, hr⟩ := r_s_l1New l hl
  exact ⟨c, hP, tellsP hmix (x := x_s_l1New) (by kernel_rfl) hr⟩
theorem t_s_l1Byte : C_s_l1Byte (Tells Try.prog Kept.nothing) := by
  intro c hc
  obtain ⟨r0, ⟨r, d, hP, rfl⟩, hr⟩ := r_s_l1Byte c hc
  exact ⟨r, d, hP, tells hmix (x := x_s_l1Byte) (by kernel_rfl) hr⟩
theorem t_s_l1Below : C_s_l1Below (Tells Try.prog Kept.nothing) := by
  intro c n hc
  obtain ⟨r0, ⟨r, d, hP, rfl⟩, hr⟩ := r_s_l1Below t_s_l1Byte c n hc
  exact ⟨r, d, hP, tells hmix (x := x_s_l1Below) (by kernel_rfl) hr⟩
theorem t_s_l1Once : C_s_l1Once (Tells Try.prog Kept.nothing) := by
  intro c n hc
  obtain ⟨r0, ⟨r, d, hP, rfl⟩, hr⟩ := r_s_l1Once t_s_l1Below c n hc
  exact ⟨r, d, hP, tells hmix (x := x_s_l1Once) (by kernel_rfl) hr⟩
theorem t_s_l1Int : C_s_l1Int (Tells Try.prog Kept.nothing) := by
  intro c l hc hl
  obtain ⟨r0, ⟨r, d, hP, rfl⟩, hr⟩ := r_s_l1Int t_s_l1Below c l hc hl
  exact ⟨r, d, hP, tells hmix (x := x_s_l1Int) (by kernel_rfl) hr⟩
theorem t_s_l1Str : C_s_l1Str (Tells Try.prog Kept.nothing) := by
  intro c l hc hl
  obtain ⟨r0, ⟨r, d, hP, rfl⟩, hr⟩ := r_s_l1Str t_s_l1Below c l hc hl
  exact ⟨r, d, hP, tells hmix (x := x_s_l1Str) (by kernel_rfl) hr⟩
theorem t_s_l3Nine : C_s_l3Nine (Tells Try.prog Kept.nothing) := fun b => tells hmix (x := x_s_l3Nine) (by kernel_rfl) (r_s_l3Nine b)
theorem t_s_l3Koi : C_s_l3Koi (Tells Try.prog Kept.nothing) := fun b hb => tells hmix (x := x_s_l3Koi) (by kernel_rfl) (r_s_l3Koi b hb)
theorem t_s_l3Win : C_s_l3Win (Tells Try.prog Kept.nothing) := fun b hb => tells hmix (x := x_s_l3Win) (by kernel_rfl) (r_s_l3Win b hb)
theorem t_s_ByteSign : C_s_ByteSign (Tells Try.prog Kept.nothing) := fun cs b => tells hmix (x := x_s_ByteSign) (by kernel_rfl) (r_s_ByteSign t_s_l1In t_s_l3Nine t_s_l3Koi t_s_l3Win cs b)
theorem t_s_SignOk : C_s_SignOk (Tells Try.prog Kept.nothing) := fun n => tells hmix (x := x_s_SignOk) (by kernel_rfl) (r_s_SignOk t_s_l1In n)
theorem t_s_PutSign : C_s_PutSign (Tells Try.prog Kept.nothing) := fun b n hb => tells hmix (x := x_s_PutSign) (by kernel_rfl) (r_s_PutSign t_s_SignOk b n hb)
theorem t_s_l1Name : C_s_l1Name (Tells Try.prog Kept.nothing) := by
  intro c hc
  obtain ⟨r0, ⟨r, d, hP, rfl⟩, hr⟩ := r_s_l1Name t_s_l1Str c hc
  exact ⟨r, d, hP, tells hmix (x := x_s_l1Name) (by kernel_rfl) hr⟩
theorem t_s_l1Text : C_s_l1Text (Tells Try.prog Kept.nothing) := by
  intro c hc
  obtain ⟨r0, ⟨r, d, hP, rfl⟩, hr⟩ := r_s_l1Text t_s_l1Str c hc
  exact ⟨r, d, hP, tells hmix (x := x_s_l1Text) (by kernel_rfl) hr⟩
theorem t_s_l1Num : C_s_l1Num (Tells Try.prog Kept.nothing) := by
  intro c hc
  obtain ⟨r0, ⟨r, d, hP, rfl⟩, hr⟩ := r_s_l1Num t_s_l1Int c hc
  exact ⟨r, d, hP, tells hmix (x := x_s_l1Num) (by kernel_rfl) hr⟩
theorem t_s_l2Sign : C_s_l2Sign (Tells Try.prog Kept.nothing) := by
  intro c hc
  obtain ⟨r0, ⟨r, d, hP, rfl⟩, hr⟩ := r_s_l2Sign t_s_l1Int c hc
  exact ⟨r, d, hP, tells hmix (x := x_s_l2Sign) (by kernel_rfl) hr⟩
theorem t_s_l5Sign : C_s_l5Sign (Tells Try.prog Kept.nothing) := by
  intro c cs hc
  obtain ⟨r0, ⟨r, d, hP, rfl⟩, hr⟩ := r_s_l5Sign t_s_l2Sign t_s_l1Int t_s_ByteSign c cs hc
  exact ⟨r, d, hP, tells hmix (x := x_s_l5Sign) (by kernel_rfl) hr⟩
theorem t_s_l5Text : C_s_l5Text (Tells Try.prog Kept.nothing) := by
  intro c cs most hc hm
  obtain ⟨r0, ⟨r, d, hP, rfl⟩, hr⟩ := r_s_l5Text t_s_l1Below t_s_l5Sign t_s_PutSign c cs most hc hm
  exact ⟨r, d, hP, tells hmix (x := x_s_l5Text) (by kernel_rfl) hr⟩
theorem t_s_l16Draw : C_s_l16Draw (Tells Try.prog Kept.nothing) := by
  intro c hc
  obtain ⟨r0, ⟨m, d, hP, rfl⟩, hr⟩ := r_s_l16Draw t_s_l1Below t_s_l1Int t_s_l1Name t_s_l5Text c hc
  exact ⟨m, d, hP, tells hmix (x := x_s_l16Draw) (by kernel_rfl) hr⟩
theorem t_s_l16Any : C_s_l16Any (Tells Try.prog Kept.nothing) := by
  intro c hc
  obtain ⟨r0, ⟨m, d, hP, rfl⟩, hr⟩ := r_s_l16Any t_s_l16Draw t_s_l1Below t_s_l1Int t_s_l1Num c hc
  exact ⟨m, d, hP, tells hmix (x := x_s_l16Any) (by kernel_rfl) hr⟩
theorem t_s_DrawPutMsg : C_s_DrawPutMsg (Tells Try.prog Kept.nothing) := by
  intro l hl
  obtain ⟨r0, ⟨m, hP, rfl⟩, hr⟩ := r_s_DrawPutMsg t_s_l1New t_s_l16Any l hl
  exact ⟨m, hP, tells hmix (x := x_s_DrawPutMsg) (by kernel_rfl) hr⟩
theorem t_s_DrawMsgOk : C_s_DrawMsgOk (Tells Try.prog Kept.nothing) := by
  intro l hl
  obtain ⟨r0, ⟨m, hP, rfl⟩, hr⟩ := r_s_DrawMsgOk t_s_l1New t_s_l16Any l hl
  exact ⟨m, hP, tells hmix (x := x_s_DrawMsgOk) (by kernel_rfl) hr⟩
theorem t_s_DrawNodeOf : C_s_DrawNodeOf (Tells Try.prog Kept.nothing) := by
  intro l hl
  obtain ⟨r0, ⟨s, hP, rfl⟩, hr⟩ := r_s_DrawNodeOf t_s_l1New t_s_l1Text l hl
  exact ⟨s, hP, tells hmix (x := x_s_DrawNodeOf) (by kernel_rfl) hr⟩
theorem t_s_l1Bend : C_s_l1Bend (Tells Try.prog Kept.nothing) := by
  intro c b hc hb
  obtain ⟨r0, ⟨r, d, hP, rfl⟩, hr⟩ := r_s_l1Bend t_s_l1Below c b hc hb
  exact ⟨r, d, hP, tells hmix (x := x_s_l1Bend) (by kernel_rfl) hr⟩
theorem t_s_DrawGetMsg : C_s_DrawGetMsg (Tells Try.prog Kept.nothing) := by
  intro l hl
  obtain ⟨r0, ⟨b, hP, rfl⟩, hr⟩ := r_s_DrawGetMsg t_s_l1New t_s_l16Draw t_s_PutMsg t_s_l1Bend t_s_l1Once t_s_l1Below t_s_Sum t_s_PutW l hl
  exact ⟨b, hP, tells hmix (x := x_s_DrawGetMsg) (by kernel_rfl) hr⟩
theorem t_l_FnMsgs : C_l_FnMsgs (Tells Try.prog Kept.nothing) := fun code h => tells hmix (x := x_l_FnMsgs) (by kernel_rfl) (r_l_FnMsgs t_l_big t_s_DrawPutMsg t_i_PutMsg t_s_DrawGetMsg t_i_GetMsg t_s_GetMsg t_s_DrawMsgOk t_s_DrawNodeOf t_i_NodeOf t_i_MsgOk t_s_MsgOk t_s_NodeOf t_l_at code h)
end Go.X

