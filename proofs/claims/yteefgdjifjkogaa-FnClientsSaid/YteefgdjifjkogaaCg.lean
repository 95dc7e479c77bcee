/- What the functions tell. -/
import Derived.Test.YteefgdjifjkogaaCf
import Derived.Test.YteefgdjifjkogaaProg
set_option linter.unusedVariables false
set_option linter.unusedSimpArgs false
namespace Go.X
open Go.Proofs
theorem hmix : Try.prog.follows .mixedOrders = true := by kernel_rfl
theorem t_i_within : C_i_within (Tells Try.prog Kept.nothing) := fun n a b => tells hmix (x := x_i_within) (by kernel_rfl) (r_i_within n a b)
theorem t_s_l1In : C_s_l1In (Tells Try.prog Kept.nothing) := fun n a b => tells hmix (x := x_s_l1In) (by kernel_rfl) (r_s_l1In n a b)
theorem t_i_isWord : C_i_isWord (Tells Try.prog Kept.nothing) := fun n => tells hmix (x := x_i_isWord) (by kernel_rfl) (r_i_isWord t_i_within n)
theorem t_s_l1Word : C_s_l1Word (Tells Try.prog Kept.nothing) := fun n => tells hmix (x := x_s_l1Word) (by kernel_rfl) (r_s_l1Word t_s_l1In n)
theorem t_i_MsgOk : C_i_MsgOk (Tells Try.prog Kept.nothing) := fun m => tells hmix (x := x_i_MsgOk) (by kernel_rfl) (r_i_MsgOk t_i_within t_i_isWord m)
theorem t_s_MsgOk : C_s_MsgOk (Tells Try.prog Kept.nothing) := fun m => tells hmix (x := x_s_MsgOk) (by kernel_rfl) (r_s_MsgOk t_s_l1In t_s_l1Word m)
theorem t_i_ClientNew : C_i_ClientNew (Tells Try.prog Kept.nothing) := fun id => tells hmix (x := x_i_ClientNew) (by kernel_rfl) (r_i_ClientNew id)
theorem t_s_ClientNew : C_s_ClientNew (Tells Try.prog Kept.nothing) := fun id => tells hmix (x := x_s_ClientNew) (by kernel_rfl) (r_s_ClientNew id)
theorem t_i_isAsked : C_i_isAsked (Tells Try.prog Kept.nothing) := fun k => tells hmix (x := x_i_isAsked) (by kernel_rfl) (r_i_isAsked k)
theorem t_s_l20Kind : C_s_l20Kind (Tells Try.prog Kept.nothing) := fun k => tells hmix (x := x_s_l20Kind) (by kernel_rfl) (r_s_l20Kind k)
theorem t_i_NodeOf : C_i_NodeOf (Tells Try.prog Kept.nothing) := fun s h => tells hmix (x := x_i_NodeOf) (by kernel_rfl) (r_i_NodeOf s h)
theorem t_s_NodeOf : C_s_NodeOf (Tells Try.prog Kept.nothing) := fun s h => tells hmix (x := x_s_NodeOf) (by kernel_rfl) (r_s_NodeOf s h)
theorem t_i_copyClient : C_i_copyClient (Tells Try.prog Kept.nothing) := fun c h => tells hmix (x := x_i_copyClient) (by kernel_rfl) (r_i_copyClient c h)
theorem t_s_l20Copy : C_s_l20Copy (Tells Try.prog Kept.nothing) := fun c h => tells hmix (x := x_s_l20Copy) (by kernel_rfl) (r_s_l20Copy c h)
theorem t_i_ClientOk : C_i_ClientOk (Tells Try.prog Kept.nothing) := fun c h => tells hmix (x := x_i_ClientOk) (by kernel_rfl) (r_i_ClientOk t_i_within t_i_isAsked t_i_MsgOk t_i_NodeOf c h)
theorem t_s_l20Msg : C_s_l20Msg (Tells Try.prog Kept.nothing) := fun c h => tells hmix (x := x_s_l20Msg) (by kernel_rfl) (r_s_l20Msg t_s_MsgOk t_s_l20Kind t_s_NodeOf c h)
theorem t_s_ClientOk : C_s_ClientOk (Tells Try.prog Kept.nothing) := fun c h => tells hmix (x := x_s_ClientOk) (by kernel_rfl) (r_s_ClientOk t_s_l20Kind t_s_l1In t_s_l20Msg c h)
theorem t_i_Again : C_i_Again (Tells Try.prog Kept.nothing) := fun c h => tells hmix (x := x_i_Again) (by kernel_rfl) (r_i_Again t_i_ClientOk c h)
theorem t_s_Again : C_s_Again (Tells Try.prog Kept.nothing) := fun c h => tells hmix (x := x_s_Again) (by kernel_rfl) (r_s_Again t_s_ClientOk c h)
theorem t_i_AskFor : C_i_AskFor (Tells Try.prog Kept.nothing) := fun c kind key text h hk => tells hmix (x := x_i_AskFor) (by kernel_rfl) (r_i_AskFor t_i_NodeOf t_i_ClientOk t_i_isAsked t_i_MsgOk t_i_copyClient c kind key text h hk)
theorem t_s_AskFor : C_s_AskFor (Tells Try.prog Kept.nothing) := fun c kind key text h hk => tells hmix (x := x_s_AskFor) (by kernel_rfl) (r_s_AskFor t_s_l20Copy t_s_NodeOf t_s_ClientOk t_s_l20Kind t_s_MsgOk c kind key text h hk)
theorem t_i_Told : C_i_Told (Tells Try.prog Kept.nothing) := fun c m h => tells hmix (x := x_i_Told) (by kernel_rfl) (r_i_Told t_i_copyClient t_i_ClientOk t_i_MsgOk c m h)
theorem t_s_Told : C_s_Told (Tells Try.prog Kept.nothing) := fun c m h => tells hmix (x := x_s_Told) (by kernel_rfl) (r_s_Told t_s_l20Copy t_s_ClientOk t_s_MsgOk c m h)
theorem t_l_big : C_l_big (Tells Try.prog Kept.nothing) := fun l => tells hmix (x := x_l_big) (by kernel_rfl) (r_l_big l)
theorem t_s_l1New : C_s_l1New (Tells Try.prog Kept.nothing) := by
  intro l hl
  obtain ⟨r0, ⟨c, hP, rfl⟩, hr⟩ := r_s_l1New l hl
  exact ⟨c, hP, tellsP hmix (x := x_s_l1New) (by kernel_rfl) hr⟩
theorem t_s_l1Byte : C_s_l1Byte (Tells Try.prog Kept.nothing) := by
  intro c hc
  obtain ⟨r0, ⟨r, d, hP, rfl⟩, hr⟩ := r_s_l1Byte c hc
  exact ⟨r, d, hP, tells hmix (x := x_s_l1Byte) (by kernel_rfl) hr⟩
theorem t_s_l1Below : C_s_l1Below (Tells Try.prog Kept.nothing) := by
  intro c n hc
  obtain ⟨r0, ⟨r, d, hP, rfl⟩, hr⟩ := r_s_l1Below t_s_l1Byte c n hc
  exact ⟨r, d, hP, tells hmix (x := x_s_l1Below) (by kernel_rfl) hr⟩
theorem t_s_l1Once : C_s_l1Once (Tells Try.prog Kept.nothing) := by
  intro c n hc
  obtain ⟨r0, ⟨r, d, hP, rfl⟩, hr⟩ := r_s_l1Once t_s_l1Below c n hc
  exact ⟨r, d, hP, tells hmix (x := x_s_l1Once) (by kernel_rfl) hr⟩
theorem t_s_l1Int : C_s_l1Int (Tells Try.prog Kept.nothing) := by
  intro c l hc hl
  obtain ⟨r0, ⟨r, d, hP, rfl⟩, hr⟩ := r_s_l1Int t_s_l1Below c l hc hl
  exact ⟨r, d, hP, tells hmix (x := x_s_l1Int) (by kernel_rfl) hr⟩
theorem t_s_l1Str : C_s_l1Str (Tells Try.prog Kept.nothing) := by
  intro c l hc hl
  obtain ⟨r0, ⟨r, d, hP, rfl⟩, hr⟩ := r_s_l1Str t_s_l1Below c l hc hl
  exact ⟨r, d, hP, tells hmix (x := x_s_l1Str) (by kernel_rfl) hr⟩
theorem t_s_l3Nine : C_s_l3Nine (Tells Try.prog Kept.nothing) := fun b => tells hmix (x := x_s_l3Nine) (by kernel_rfl) (r_s_l3Nine b)
theorem t_s_l3Koi : C_s_l3Koi (Tells Try.prog Kept.nothing) := fun b hb => tells hmix (x := x_s_l3Koi) (by kernel_rfl) (r_s_l3Koi b hb)
theorem t_s_l3Win : C_s_l3Win (Tells Try.prog Kept.nothing) := fun b hb => tells hmix (x := x_s_l3Win) (by kernel_rfl) (r_s_l3Win b hb)
theorem t_s_ByteSign : C_s_ByteSign (Tells Try.prog Kept.nothing) := fun cs b => tells hmix (x := x_s_ByteSign) (by kernel_rfl) (r_s_ByteSign t_s_l1In t_s_l3Nine t_s_l3Koi t_s_l3Win cs b)
theorem t_s_SignOk : C_s_SignOk (Tells Try.prog Kept.nothing) := fun n => tells hmix (x := x_s_SignOk) (by kernel_rfl) (r_s_SignOk t_s_l1In n)
theorem t_s_PutSign : C_s_PutSign (Tells Try.prog Kept.nothing) := fun b n hb => tells hmix (x := x_s_PutSign) (by kernel_rfl) (r_s_PutSign t_s_SignOk b n hb)
theorem t_s_l1Name : C_s_l1Name (Tells Try.prog Kept.nothing) := by
  intro c hc
  obtain ⟨r0, ⟨r, d, hP, rfl⟩, hr⟩ := r_s_l1Name t_s_l1Str c hc
  exact ⟨r, d, hP, tells hmix (x := x_s_l1Name) (by kernel_rfl) hr⟩
theorem t_s_l1Num : C_s_l1Num (Tells Try.prog Kept.nothing) := by
  intro c hc
  obtain ⟨r0, ⟨r, d, hP, rfl⟩, hr⟩ := r_s_l1Num t_s_l1Int c hc
  exact ⟨r, d, hP, tells hmix (x := x_s_l1Num) (by kernel_rfl) hr⟩
theorem t_s_l2Sign : C_s_l2Sign (Tells Try.prog Kept.nothing) := by
  intro c hc
  obtain ⟨r0, ⟨r, d, hP, rfl⟩, hr⟩ := r_s_l2Sign t_s_l1Int c hc
  exact ⟨r, d, hP, tells hmix (x := x_s_l2Sign) (by kernel_rfl) hr⟩
theorem t_s_l5Sign : C_s_l5Sign (Tells Try.prog Kept.nothing) := by
  intro c cs hc
  obtain ⟨r0, ⟨r, d, hP, rfl⟩, hr⟩ := r_s_l5Sign t_s_l2Sign t_s_l1Int t_s_ByteSign c cs hc
  exact ⟨r, d, hP, tells hmix (x := x_s_l5Sign) (by kernel_rfl) hr⟩
theorem t_s_l5Text : C_s_l5Text (Tells Try.prog Kept.nothing) := by
  intro c cs most hc hm
  obtain ⟨r0, ⟨r, d, hP, rfl⟩, hr⟩ := r_s_l5Text t_s_l1Below t_s_l5Sign t_s_PutSign c cs most hc hm
  exact ⟨r, d, hP, tells hmix (x := x_s_l5Text) (by kernel_rfl) hr⟩
theorem t_s_l16Draw : C_s_l16Draw (Tells Try.prog Kept.nothing) := by
  intro c hc
  obtain ⟨r0, ⟨m, d, hP, rfl⟩, hr⟩ := r_s_l16Draw t_s_l1Below t_s_l1Int t_s_l1Name t_s_l5Text c hc
  exact ⟨m, d, hP, tells hmix (x := x_s_l16Draw) (by kernel_rfl) hr⟩
theorem t_s_l16Any : C_s_l16Any (Tells Try.prog Kept.nothing) := by
  intro c hc
  obtain ⟨r0, ⟨m, d, hP, rfl⟩, hr⟩ := r_s_l16Any t_s_l16Draw t_s_l1Below t_s_l1Int t_s_l1Num c hc
  exact ⟨m, d, hP, tells hmix (x := x_s_l16Any) (by kernel_rfl) hr⟩
theorem t_s_l18Back : C_s_l18Back (Tells Try.prog Kept.nothing) := fun m k => tells hmix (x := x_s_l18Back) (by kernel_rfl) (r_s_l18Back m k)
theorem t_s_l2Text : C_s_l2Text (Tells Try.prog Kept.nothing) := by
  intro c most hc hm
  obtain ⟨r0, ⟨r, d, hP, rfl⟩, hr⟩ := r_s_l2Text t_s_l1Below t_s_l2Sign t_s_PutSign c most hc hm
  exact ⟨r, d, hP, tells hmix (x := x_s_l2Text) (by kernel_rfl) hr⟩
theorem t_s_l20Draw : C_s_l20Draw (Tells Try.prog Kept.nothing) := by
  intro c hc
  obtain ⟨r0, ⟨x, d, hP, rfl⟩, hr⟩ := r_s_l20Draw t_s_l1Below t_s_ClientNew t_s_l1Int t_s_l1Name t_s_l5Text t_s_AskFor t_s_l1Once t_s_l18Back t_s_Told c hc
  exact ⟨x, d, hP, tells hmix (x := x_s_l20Draw) (by kernel_rfl) hr⟩
theorem t_s_l20Any : C_s_l20Any (Tells Try.prog Kept.nothing) := by
  intro c hc
  obtain ⟨r0, ⟨x, d, hP, rfl⟩, hr⟩ := r_s_l20Any t_s_l20Draw t_s_l1Below t_s_l1Int t_s_l16Any c hc
  exact ⟨x, d, hP, tells hmix (x := x_s_l20Any) (by kernel_rfl) hr⟩
theorem t_s_DrawClientNew : C_s_DrawClientNew (Tells Try.prog Kept.nothing) := by
  intro l hl
  obtain ⟨r0, ⟨a, hP, rfl⟩, hr⟩ := r_s_DrawClientNew t_s_l1New t_s_l1Below l hl
  exact ⟨a, hP, tells hmix (x := x_s_DrawClientNew) (by kernel_rfl) hr⟩
theorem t_s_DrawClientOk : C_s_DrawClientOk (Tells Try.prog Kept.nothing) := by
  intro l hl
  obtain ⟨r0, ⟨a, hP, rfl⟩, hr⟩ := r_s_DrawClientOk t_s_l1New t_s_l20Any l hl
  exact ⟨a, hP, tells hmix (x := x_s_DrawClientOk) (by kernel_rfl) hr⟩
theorem t_s_DrawAgain : C_s_DrawAgain (Tells Try.prog Kept.nothing) := by
  intro l hl
  obtain ⟨r0, ⟨a, hP, rfl⟩, hr⟩ := r_s_DrawAgain t_s_l1New t_s_l20Any l hl
  exact ⟨a, hP, tells hmix (x := x_s_DrawAgain) (by kernel_rfl) hr⟩
theorem t_s_DrawAskFor : C_s_DrawAskFor (Tells Try.prog Kept.nothing) := by
  intro l hl
  obtain ⟨r0, ⟨a, k, s, t, hP, rfl⟩, hr⟩ := r_s_DrawAskFor t_s_l1New t_s_l20Any t_s_l1Name t_s_l1Once t_s_l1Below t_s_l1Int t_s_l2Text l hl
  exact ⟨a, k, s, t, hP, tells hmix (x := x_s_DrawAskFor) (by kernel_rfl) hr⟩
theorem t_s_DrawTold : C_s_DrawTold (Tells Try.prog Kept.nothing) := by
  intro l hl
  obtain ⟨r0, ⟨a, m, hP, rfl⟩, hr⟩ := r_s_DrawTold t_s_l1New t_s_l20Any t_s_l1Int t_s_l1Name t_s_AskFor t_s_l18Back t_s_l1Below t_s_l16Any l hl
  exact ⟨a, m, hP, tells hmix (x := x_s_DrawTold) (by kernel_rfl) hr⟩
theorem t_l_sameClient : C_l_sameClient (Tells Try.prog Kept.nothing) := fun x y hx => tells hmix (x := x_l_sameClient) (by kernel_rfl) (r_l_sameClient x y hx)
theorem t_l_FnClients : C_l_FnClients (Tells Try.prog Kept.nothing) := fun code h => tells hmix (x := x_l_FnClients) (by kernel_rfl) (r_l_FnClients t_l_big t_s_DrawAskFor t_i_AskFor t_s_AskFor t_s_DrawAgain t_i_Again t_s_Again t_s_DrawTold t_i_Told t_s_Told t_s_DrawClientOk t_s_DrawClientNew t_l_sameClient t_i_ClientOk t_s_ClientOk t_i_ClientNew code h)
end Go.X

