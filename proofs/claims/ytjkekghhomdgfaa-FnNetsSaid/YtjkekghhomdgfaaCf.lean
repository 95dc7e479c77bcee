/- What the functions tell. -/
import Derived.Test.YtjkekghhomdgfaaCe
import Derived.Test.YtjkekghhomdgfaaProg
set_option linter.unusedVariables false
set_option linter.unusedSimpArgs false
namespace Go.X
open Go.Proofs
theorem hmix : Try.prog.follows .mixedOrders = true := by kernel_rfl
theorem t_i_within : C_i_within (Tells Try.prog Kept.nothing) := fun n a b => tells hmix (x := x_i_within) (by kernel_rfl) (r_i_within n a b)
theorem t_s_l1In : C_s_l1In (Tells Try.prog Kept.nothing) := fun n a b => tells hmix (x := x_s_l1In) (by kernel_rfl) (r_s_l1In n a b)
theorem t_i_isWord : C_i_isWord (Tells Try.prog Kept.nothing) := fun n => tells hmix (x := x_i_isWord) (by kernel_rfl) (r_i_isWord t_i_within n)
theorem t_s_l1Word : C_s_l1Word (Tells Try.prog Kept.nothing) := fun n => tells hmix (x := x_s_l1Word) (by kernel_rfl) (r_s_l1Word t_s_l1In n)
theorem t_i_MsgOk : C_i_MsgOk (Tells Try.prog Kept.nothing) := fun m => tells hmix (x := x_i_MsgOk) (by kernel_rfl) (r_i_MsgOk t_i_within t_i_isWord m)
theorem t_s_MsgOk : C_s_MsgOk (Tells Try.prog Kept.nothing) := fun m => tells hmix (x := x_s_MsgOk) (by kernel_rfl) (r_s_MsgOk t_s_l1In t_s_l1Word m)
theorem t_i_NetOk : C_i_NetOk (Tells Try.prog Kept.nothing) := fun l h => tells hmix (x := x_i_NetOk) (by kernel_rfl) (r_i_NetOk t_i_MsgOk l h)
theorem t_s_NetOk : C_s_NetOk (Tells Try.prog Kept.nothing) := fun l h => tells hmix (x := x_s_NetOk) (by kernel_rfl) (r_s_NetOk t_s_MsgOk l h)
theorem t_i_copyNet : C_i_copyNet (Tells Try.prog Kept.nothing) := fun l h => tells hmix (x := x_i_copyNet) (by kernel_rfl) (r_i_copyNet l h)
theorem t_s_l17Copy : C_s_l17Copy (Tells Try.prog Kept.nothing) := fun l h => tells hmix (x := x_s_l17Copy) (by kernel_rfl) (r_s_l17Copy l h)
theorem t_i_Send : C_i_Send (Tells Try.prog Kept.nothing) := fun l m h => tells hmix (x := x_i_Send) (by kernel_rfl) (r_i_Send t_i_copyNet t_i_NetOk l m h)
theorem t_s_Send : C_s_Send (Tells Try.prog Kept.nothing) := fun l m h => tells hmix (x := x_s_Send) (by kernel_rfl) (r_s_Send t_s_l17Copy t_s_NetOk l m h)
theorem t_i_SendAll : C_i_SendAll (Tells Try.prog Kept.nothing) := fun l more h h2 => tells hmix (x := x_i_SendAll) (by kernel_rfl) (r_i_SendAll t_i_copyNet t_i_Send l more h h2)
theorem t_s_SendAll : C_s_SendAll (Tells Try.prog Kept.nothing) := fun l more h h2 => tells hmix (x := x_s_SendAll) (by kernel_rfl) (r_s_SendAll t_s_l17Copy t_s_Send l more h h2)
theorem t_i_Twice : C_i_Twice (Tells Try.prog Kept.nothing) := fun l i h => tells hmix (x := x_i_Twice) (by kernel_rfl) (r_i_Twice t_i_copyNet t_i_Send l i h)
theorem t_s_Twice : C_s_Twice (Tells Try.prog Kept.nothing) := fun l i h => tells hmix (x := x_s_Twice) (by kernel_rfl) (r_s_Twice t_s_l17Copy t_s_Send l i h)
theorem t_i_TakeOut : C_i_TakeOut (Tells Try.prog Kept.nothing) := fun l i h => tells hmix (x := x_i_TakeOut) (by kernel_rfl) (r_i_TakeOut t_i_copyNet l i h)
theorem t_s_TakeOut : C_s_TakeOut (Tells Try.prog Kept.nothing) := fun l i h => tells hmix (x := x_s_TakeOut) (by kernel_rfl) (r_s_TakeOut t_s_l17Copy l i h)
theorem t_l_big : C_l_big (Tells Try.prog Kept.nothing) := fun l => tells hmix (x := x_l_big) (by kernel_rfl) (r_l_big l)
theorem t_s_l1New : C_s_l1New (Tells Try.prog Kept.nothing) := by
  intro l hl
  obtain ⟨r0, ⟨c, hP, rfl⟩, hr⟩ := r_s_l1New l hl
  exact ⟨c, hP, tellsP hmix (x := x_s_l1New) (by kernel_rfl) hr⟩
theorem t_s_l1Byte : C_s_l1Byte (Tells Try.prog Kept.nothing) := by
  intro c hc
  obtain ⟨r0, ⟨r, d, hP, rfl⟩, hr⟩ := r_s_l1Byte c hc
  exact ⟨r, d, hP, tells hmix (x := x_s_l1Byte) (by kernel_rfl) hr⟩
theorem t_s_l1Below : C_s_l1Below (Tells Try.prog Kept.nothing) := by
  intro c n hc
  obtain ⟨r0, ⟨r, d, hP, rfl⟩, hr⟩ := r_s_l1Below t_s_l1Byte c n hc
  exact ⟨r, d, hP, tells hmix (x := x_s_l1Below) (by kernel_rfl) hr⟩
theorem t_s_l1Int : C_s_l1Int (Tells Try.prog Kept.nothing) := by
  intro c l hc hl
  obtain ⟨r0, ⟨r, d, hP, rfl⟩, hr⟩ := r_s_l1Int t_s_l1Below c l hc hl
  exact ⟨r, d, hP, tells hmix (x := x_s_l1Int) (by kernel_rfl) hr⟩
theorem t_s_l1Str : C_s_l1Str (Tells Try.prog Kept.nothing) := by
  intro c l hc hl
  obtain ⟨r0, ⟨r, d, hP, rfl⟩, hr⟩ := r_s_l1Str t_s_l1Below c l hc hl
  exact ⟨r, d, hP, tells hmix (x := x_s_l1Str) (by kernel_rfl) hr⟩
theorem t_s_l3Nine : C_s_l3Nine (Tells Try.prog Kept.nothing) := fun b => tells hmix (x := x_s_l3Nine) (by kernel_rfl) (r_s_l3Nine b)
theorem t_s_l3Koi : C_s_l3Koi (Tells Try.prog Kept.nothing) := fun b hb => tells hmix (x := x_s_l3Koi) (by kernel_rfl) (r_s_l3Koi b hb)
theorem t_s_l3Win : C_s_l3Win (Tells Try.prog Kept.nothing) := fun b hb => tells hmix (x := x_s_l3Win) (by kernel_rfl) (r_s_l3Win b hb)
theorem t_s_ByteSign : C_s_ByteSign (Tells Try.prog Kept.nothing) := fun cs b => tells hmix (x := x_s_ByteSign) (by kernel_rfl) (r_s_ByteSign t_s_l1In t_s_l3Nine t_s_l3Koi t_s_l3Win cs b)
theorem t_s_SignOk : C_s_SignOk (Tells Try.prog Kept.nothing) := fun n => tells hmix (x := x_s_SignOk) (by kernel_rfl) (r_s_SignOk t_s_l1In n)
theorem t_s_PutSign : C_s_PutSign (Tells Try.prog Kept.nothing) := fun b n hb => tells hmix (x := x_s_PutSign) (by kernel_rfl) (r_s_PutSign t_s_SignOk b n hb)
theorem t_s_l1Name : C_s_l1Name (Tells Try.prog Kept.nothing) := by
  intro c hc
  obtain ⟨r0, ⟨r, d, hP, rfl⟩, hr⟩ := r_s_l1Name t_s_l1Str c hc
  exact ⟨r, d, hP, tells hmix (x := x_s_l1Name) (by kernel_rfl) hr⟩
theorem t_s_l1Num : C_s_l1Num (Tells Try.prog Kept.nothing) := by
  intro c hc
  obtain ⟨r0, ⟨r, d, hP, rfl⟩, hr⟩ := r_s_l1Num t_s_l1Int c hc
  exact ⟨r, d, hP, tells hmix (x := x_s_l1Num) (by kernel_rfl) hr⟩
theorem t_s_l2Sign : C_s_l2Sign (Tells Try.prog Kept.nothing) := by
  intro c hc
  obtain ⟨r0, ⟨r, d, hP, rfl⟩, hr⟩ := r_s_l2Sign t_s_l1Int c hc
  exact ⟨r, d, hP, tells hmix (x := x_s_l2Sign) (by kernel_rfl) hr⟩
theorem t_s_l5Sign : C_s_l5Sign (Tells Try.prog Kept.nothing) := by
  intro c cs hc
  obtain ⟨r0, ⟨r, d, hP, rfl⟩, hr⟩ := r_s_l5Sign t_s_l2Sign t_s_l1Int t_s_ByteSign c cs hc
  exact ⟨r, d, hP, tells hmix (x := x_s_l5Sign) (by kernel_rfl) hr⟩
theorem t_s_l5Text : C_s_l5Text (Tells Try.prog Kept.nothing) := by
  intro c cs most hc hm
  obtain ⟨r0, ⟨r, d, hP, rfl⟩, hr⟩ := r_s_l5Text t_s_l1Below t_s_l5Sign t_s_PutSign c cs most hc hm
  exact ⟨r, d, hP, tells hmix (x := x_s_l5Text) (by kernel_rfl) hr⟩
theorem t_s_l16Draw : C_s_l16Draw (Tells Try.prog Kept.nothing) := by
  intro c hc
  obtain ⟨r0, ⟨m, d, hP, rfl⟩, hr⟩ := r_s_l16Draw t_s_l1Below t_s_l1Int t_s_l1Name t_s_l5Text c hc
  exact ⟨m, d, hP, tells hmix (x := x_s_l16Draw) (by kernel_rfl) hr⟩
theorem t_s_l16Any : C_s_l16Any (Tells Try.prog Kept.nothing) := by
  intro c hc
  obtain ⟨r0, ⟨m, d, hP, rfl⟩, hr⟩ := r_s_l16Any t_s_l16Draw t_s_l1Below t_s_l1Int t_s_l1Num c hc
  exact ⟨m, d, hP, tells hmix (x := x_s_l16Any) (by kernel_rfl) hr⟩
theorem t_l_sameMsgs : C_l_sameMsgs (Tells Try.prog Kept.nothing) := fun x y hx => tells hmix (x := x_l_sameMsgs) (by kernel_rfl) (r_l_sameMsgs x y hx)
theorem t_s_l17Draw : C_s_l17Draw (Tells Try.prog Kept.nothing) := by
  intro c most hc hm
  obtain ⟨r0, ⟨l, d, hP, rfl⟩, hr⟩ := r_s_l17Draw t_s_l1Below t_s_l16Draw t_s_Send c most hc hm
  exact ⟨l, d, hP, tells hmix (x := x_s_l17Draw) (by kernel_rfl) hr⟩
theorem t_s_l17Any : C_s_l17Any (Tells Try.prog Kept.nothing) := by
  intro c hc
  obtain ⟨r0, ⟨l, d, hP, rfl⟩, hr⟩ := r_s_l17Any t_s_l17Draw t_s_l1Below t_s_l16Any t_s_l16Draw c hc
  exact ⟨l, d, hP, tells hmix (x := x_s_l17Any) (by kernel_rfl) hr⟩
theorem t_s_DrawNetOk : C_s_DrawNetOk (Tells Try.prog Kept.nothing) := by
  intro l hl
  obtain ⟨r0, ⟨a, hP, rfl⟩, hr⟩ := r_s_DrawNetOk t_s_l1New t_s_l17Any l hl
  exact ⟨a, hP, tells hmix (x := x_s_DrawNetOk) (by kernel_rfl) hr⟩
theorem t_s_DrawSend : C_s_DrawSend (Tells Try.prog Kept.nothing) := by
  intro l hl
  obtain ⟨r0, ⟨a, m, hP, rfl⟩, hr⟩ := r_s_DrawSend t_s_l1New t_s_l17Any t_s_l16Any l hl
  exact ⟨a, m, hP, tells hmix (x := x_s_DrawSend) (by kernel_rfl) hr⟩
theorem t_s_DrawSendAll : C_s_DrawSendAll (Tells Try.prog Kept.nothing) := by
  intro l hl
  obtain ⟨r0, ⟨a, b, hP, rfl⟩, hr⟩ := r_s_DrawSendAll t_s_l1New t_s_l17Any l hl
  exact ⟨a, b, hP, tells hmix (x := x_s_DrawSendAll) (by kernel_rfl) hr⟩
theorem t_s_DrawTakeOut : C_s_DrawTakeOut (Tells Try.prog Kept.nothing) := by
  intro l hl
  obtain ⟨r0, ⟨a, i, hP, rfl⟩, hr⟩ := r_s_DrawTakeOut t_s_l1New t_s_l17Any t_s_l1Int l hl
  exact ⟨a, i, hP, tells hmix (x := x_s_DrawTakeOut) (by kernel_rfl) hr⟩
theorem t_s_DrawTwice : C_s_DrawTwice (Tells Try.prog Kept.nothing) := by
  intro l hl
  obtain ⟨r0, ⟨a, i, hP, rfl⟩, hr⟩ := r_s_DrawTwice t_s_DrawTakeOut l hl
  exact ⟨a, i, hP, tells hmix (x := x_s_DrawTwice) (by kernel_rfl) hr⟩
theorem t_l_FnNets : C_l_FnNets (Tells Try.prog Kept.nothing) := fun code h => tells hmix (x := x_l_FnNets) (by kernel_rfl) (r_l_FnNets t_l_big t_s_DrawSend t_i_Send t_s_Send t_s_DrawTakeOut t_i_TakeOut t_s_TakeOut t_s_DrawTwice t_i_Twice t_s_Twice t_s_DrawSendAll t_s_DrawNetOk t_l_sameMsgs t_i_SendAll t_s_SendAll t_i_NetOk t_s_NetOk code h)
end Go.X

