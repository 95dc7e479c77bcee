/- What the functions tell. -/
import Derived.Test.YtiaemhpmdfgeoaaCd
import Derived.Test.YtiaemhpmdfgeoaaProg
set_option linter.unusedVariables false
set_option linter.unusedSimpArgs false
namespace Go.X
open Go.Proofs
theorem hmix : Try.prog.follows .mixedOrders = true := by kernel_rfl
theorem t_l_toByteS : C_l_toByteS (Tells Try.prog Kept.nothing) := fun l hl => tells hmix (x := x_l_toByteS) (by kernel_rfl) (r_l_toByteS l hl)
theorem t_l_eqByteS : C_l_eqByteS (Tells Try.prog Kept.nothing) := fun l m hl => tells hmix (x := x_l_eqByteS) (by kernel_rfl) (r_l_eqByteS l m hl)
theorem t_l_eqMsg : C_l_eqMsg (Tells Try.prog Kept.nothing) := fun x y => tells hmix (x := x_l_eqMsg) (by kernel_rfl) (r_l_eqMsg x y)
theorem t_i_within : C_i_within (Tells Try.prog Kept.nothing) := fun n a b => tells hmix (x := x_i_within) (by kernel_rfl) (r_i_within n a b)
theorem t_s_l1In : C_s_l1In (Tells Try.prog Kept.nothing) := fun n a b => tells hmix (x := x_s_l1In) (by kernel_rfl) (r_s_l1In n a b)
theorem t_i_isWord : C_i_isWord (Tells Try.prog Kept.nothing) := fun n => tells hmix (x := x_i_isWord) (by kernel_rfl) (r_i_isWord t_i_within n)
theorem t_s_l1Word : C_s_l1Word (Tells Try.prog Kept.nothing) := fun n => tells hmix (x := x_s_l1Word) (by kernel_rfl) (r_s_l1Word t_s_l1In n)
theorem t_i_MsgOk : C_i_MsgOk (Tells Try.prog Kept.nothing) := fun m => tells hmix (x := x_i_MsgOk) (by kernel_rfl) (r_i_MsgOk t_i_within t_i_isWord m)
theorem t_s_MsgOk : C_s_MsgOk (Tells Try.prog Kept.nothing) := fun m => tells hmix (x := x_s_MsgOk) (by kernel_rfl) (r_s_MsgOk t_s_l1In t_s_l1Word m)
theorem t_i_Sum : C_i_Sum (Tells Try.prog Kept.nothing) := fun l h => tells hmix (x := x_i_Sum) (by kernel_rfl) (r_i_Sum l h)
theorem t_s_Sum : C_s_Sum (Tells Try.prog Kept.nothing) := fun l h => tells hmix (x := x_s_Sum) (by kernel_rfl) (r_s_Sum l h)
theorem t_i_GetW : C_i_GetW (Tells Try.prog Kept.nothing) := fun b i h => tells hmix (x := x_i_GetW) (by kernel_rfl) (r_i_GetW b i h)
theorem t_s_GetW : C_s_GetW (Tells Try.prog Kept.nothing) := fun b i h => tells hmix (x := x_s_GetW) (by kernel_rfl) (r_s_GetW t_s_l1In b i h)
theorem t_i_GetText : C_i_GetText (Tells Try.prog Kept.nothing) := fun b i h => tells hmix (x := x_i_GetText) (by kernel_rfl) (r_i_GetText t_i_GetW b i h)
theorem t_s_GetText : C_s_GetText (Tells Try.prog Kept.nothing) := fun b i h => tells hmix (x := x_s_GetText) (by kernel_rfl) (r_s_GetText t_s_GetW b i h)
theorem t_i_scanone : C_i_scanone (Tells Try.prog Kept.nothing) := fun s h => tells hmix (x := x_i_scanone) (by kernel_rfl) (r_i_scanone s h)
theorem t_i_scanword : C_i_scanword (Tells Try.prog Kept.nothing) := fun s h => tells hmix (x := x_i_scanword) (by kernel_rfl) (r_i_scanword t_i_GetW s h)
theorem t_i_scantext : C_i_scantext (Tells Try.prog Kept.nothing) := fun s h => tells hmix (x := x_i_scantext) (by kernel_rfl) (r_i_scantext t_i_GetText s h)
theorem t_i_scansum : C_i_scansum (Tells Try.prog Kept.nothing) := fun s h => tells hmix (x := x_i_scansum) (by kernel_rfl) (r_i_scansum t_i_scanword t_i_Sum s h)
theorem t_i_GetMsg : C_i_GetMsg (Tells Try.prog Kept.nothing) := fun b h => tells hmix (x := x_i_GetMsg) (by kernel_rfl) (r_i_GetMsg t_i_scanone t_i_scanword t_i_scantext t_i_scansum t_i_MsgOk b h)
theorem t_s_GetMsg : C_s_GetMsg (Tells Try.prog Kept.nothing) := fun b h => tells hmix (x := x_s_GetMsg) (by kernel_rfl) (r_s_GetMsg t_s_GetW t_s_GetText t_s_Sum t_s_MsgOk b h)
theorem t_l_FnExactGetMsg : C_l_FnExactGetMsg (Tells Try.prog Kept.nothing) := fun aB h_aB => tells hmix (x := x_l_FnExactGetMsg) (by kernel_rfl) (r_l_FnExactGetMsg t_l_toByteS t_s_GetMsg t_i_GetMsg t_l_eqMsg t_l_eqByteS aB h_aB)
end Go.X

