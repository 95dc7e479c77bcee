/- What the functions tell. -/
import Derived.Test.YtbgmbggodapnmaaCc
import Derived.Test.YtbgmbggodapnmaaProg
set_option linter.unusedVariables false
set_option linter.unusedSimpArgs false
namespace Go.X
open Go.Proofs
theorem hmix : Try.prog.follows .mixedOrders = true := by kernel_rfl
theorem t_l_eqByteS : C_l_eqByteS (Tells Try.prog) := fun l m hl => tells hmix (x := x_l_eqByteS) (by kernel_rfl) (r_l_eqByteS l m hl)
theorem t_l_markByteS : C_l_markByteS (Tells Try.prog) := fun l k hl hk => tells hmix (x := x_l_markByteS) (by kernel_rfl) (r_l_markByteS l k hl hk)
theorem t_l_heldByteS : C_l_heldByteS (Tells Try.prog) := fun n k hl hk => tells hmix (x := x_l_heldByteS) (by kernel_rfl) (r_l_heldByteS n k hl hk)
theorem t_l_szMsg : C_l_szMsg (Tells Try.prog) := fun x k hx hk => tells hmix (x := x_l_szMsg) (by kernel_rfl) (r_l_szMsg x k hx hk)
theorem t_l_toMsg : C_l_toMsg (Tells Try.prog) := fun x => tells hmix (x := x_l_toMsg) (by kernel_rfl) (r_l_toMsg x)
theorem t_i_within : C_i_within (Tells Try.prog) := fun n a b => tells hmix (x := x_i_within) (by kernel_rfl) (r_i_within n a b)
theorem t_s_l1In : C_s_l1In (Tells Try.prog) := fun n a b => tells hmix (x := x_s_l1In) (by kernel_rfl) (r_s_l1In n a b)
theorem t_i_isWord : C_i_isWord (Tells Try.prog) := fun n => tells hmix (x := x_i_isWord) (by kernel_rfl) (r_i_isWord t_i_within n)
theorem t_s_l1Word : C_s_l1Word (Tells Try.prog) := fun n => tells hmix (x := x_s_l1Word) (by kernel_rfl) (r_s_l1Word t_s_l1In n)
theorem t_i_MsgOk : C_i_MsgOk (Tells Try.prog) := fun m => tells hmix (x := x_i_MsgOk) (by kernel_rfl) (r_i_MsgOk t_i_within t_i_isWord m)
theorem t_s_MsgOk : C_s_MsgOk (Tells Try.prog) := fun m => tells hmix (x := x_s_MsgOk) (by kernel_rfl) (r_s_MsgOk t_s_l1In t_s_l1Word m)
theorem t_i_joined : C_i_joined (Tells Try.prog) := fun ps h h2 => tells hmix (x := x_i_joined) (by kernel_rfl) (r_i_joined ps h h2)
theorem t_i_Sum : C_i_Sum (Tells Try.prog) := fun l h => tells hmix (x := x_i_Sum) (by kernel_rfl) (r_i_Sum l h)
theorem t_s_Sum : C_s_Sum (Tells Try.prog) := fun l h => tells hmix (x := x_s_Sum) (by kernel_rfl) (r_s_Sum l h)
theorem t_i_PutW : C_i_PutW (Tells Try.prog) := fun b n h => tells hmix (x := x_i_PutW) (by kernel_rfl) (r_i_PutW t_i_joined b n h)
theorem t_s_PutW : C_s_PutW (Tells Try.prog) := fun b n h => tells hmix (x := x_s_PutW) (by kernel_rfl) (r_s_PutW b n h)
theorem t_s_PutText : C_s_PutText (Tells Try.prog) := fun b t h ht => tells hmix (x := x_s_PutText) (by kernel_rfl) (r_s_PutText t_s_PutW b t h ht)
theorem t_i_PutText : C_i_PutText (Tells Try.prog) := fun b t h ht => tells hmix (x := x_i_PutText) (by kernel_rfl) (r_i_PutText t_i_joined t_i_PutW b t h ht)
theorem t_i_PutMsg : C_i_PutMsg (Tells Try.prog) := fun m h => tells hmix (x := x_i_PutMsg) (by kernel_rfl) (r_i_PutMsg t_i_MsgOk t_i_PutW t_i_PutText t_i_Sum m h)
theorem t_s_PutMsg : C_s_PutMsg (Tells Try.prog) := fun m h => tells hmix (x := x_s_PutMsg) (by kernel_rfl) (r_s_PutMsg t_s_MsgOk t_s_PutW t_s_PutText t_s_Sum m h)
theorem t_l_FnExactPutMsg : C_l_FnExactPutMsg (Tells Try.prog) := fun aM h_aM => tells hmix (x := x_l_FnExactPutMsg) (by kernel_rfl) (r_l_FnExactPutMsg t_l_szMsg t_l_toMsg t_s_PutMsg t_i_PutMsg t_l_eqByteS t_l_markByteS t_l_heldByteS aM h_aM)
end Go.X

