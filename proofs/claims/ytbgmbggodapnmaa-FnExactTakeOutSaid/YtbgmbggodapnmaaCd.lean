/- What the functions tell. -/
import Derived.Test.YtbgmbggodapnmaaCc
import Derived.Test.YtbgmbggodapnmaaProg
set_option linter.unusedVariables false
set_option linter.unusedSimpArgs false
namespace Go.X
open Go.Proofs
theorem hmix : Try.prog.follows .mixedOrders = true := by kernel_rfl
theorem t_l_markText : C_l_markText (Tells Try.prog) := fun k hk => tells hmix (x := x_l_markText) (by kernel_rfl) (r_l_markText k hk)
theorem t_l_szMsg : C_l_szMsg (Tells Try.prog) := fun x k hx hk => tells hmix (x := x_l_szMsg) (by kernel_rfl) (r_l_szMsg x k hx hk)
theorem t_l_toMsg : C_l_toMsg (Tells Try.prog) := fun x => tells hmix (x := x_l_toMsg) (by kernel_rfl) (r_l_toMsg x)
theorem t_l_eqMsg : C_l_eqMsg (Tells Try.prog) := fun x y => tells hmix (x := x_l_eqMsg) (by kernel_rfl) (r_l_eqMsg x y)
theorem t_l_szMsgS : C_l_szMsgS (Tells Try.prog) := fun l k hk hl hs => tells hmix (x := x_l_szMsgS) (by kernel_rfl) (r_l_szMsgS t_l_szMsg l k hk hl hs)
theorem t_l_toMsgS : C_l_toMsgS (Tells Try.prog) := fun l hl => tells hmix (x := x_l_toMsgS) (by kernel_rfl) (r_l_toMsgS t_l_toMsg l hl)
theorem t_l_eqMsgS : C_l_eqMsgS (Tells Try.prog) := fun l m hl => tells hmix (x := x_l_eqMsgS) (by kernel_rfl) (r_l_eqMsgS t_l_eqMsg l m hl)
theorem t_l_markMsgS : C_l_markMsgS (Tells Try.prog) := fun l k hl hk => tells hmix (x := x_l_markMsgS) (by kernel_rfl) (r_l_markMsgS t_l_markText l k hl hk)
theorem t_l_heldMsgS : C_l_heldMsgS (Tells Try.prog) := fun n k hl hk => tells hmix (x := x_l_heldMsgS) (by kernel_rfl) (r_l_heldMsgS t_l_markText n k hl hk)
theorem t_i_copyNet : C_i_copyNet (Tells Try.prog) := fun l h => tells hmix (x := x_i_copyNet) (by kernel_rfl) (r_i_copyNet l h)
theorem t_s_l17Copy : C_s_l17Copy (Tells Try.prog) := fun l h => tells hmix (x := x_s_l17Copy) (by kernel_rfl) (r_s_l17Copy l h)
theorem t_i_TakeOut : C_i_TakeOut (Tells Try.prog) := fun l i h => tells hmix (x := x_i_TakeOut) (by kernel_rfl) (r_i_TakeOut t_i_copyNet l i h)
theorem t_s_TakeOut : C_s_TakeOut (Tells Try.prog) := fun l i h => tells hmix (x := x_s_TakeOut) (by kernel_rfl) (r_s_TakeOut t_s_l17Copy l i h)
theorem t_l_FnExactTakeOut : C_l_FnExactTakeOut (Tells Try.prog) := fun aL aI h_aL => tells hmix (x := x_l_FnExactTakeOut) (by kernel_rfl) (r_l_FnExactTakeOut t_l_szMsgS t_l_toMsgS t_s_TakeOut t_i_TakeOut t_l_eqMsgS t_l_eqMsg t_l_markMsgS t_l_heldMsgS aL aI h_aL)
end Go.X

