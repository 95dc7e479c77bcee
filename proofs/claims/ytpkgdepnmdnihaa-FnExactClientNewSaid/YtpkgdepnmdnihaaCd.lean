/- What the functions tell. -/
import Derived.Test.YtpkgdepnmdnihaaCc
import Derived.Test.YtpkgdepnmdnihaaProg
set_option linter.unusedVariables false
set_option linter.unusedSimpArgs false
namespace Go.X
open Go.Proofs
theorem hmix : Try.prog.follows .mixedOrders = true := by kernel_rfl
theorem t_l_markText : C_l_markText (Tells Try.prog) := fun k hk => tells hmix (x := x_l_markText) (by kernel_rfl) (r_l_markText k hk)
theorem t_l_eqMsg : C_l_eqMsg (Tells Try.prog) := fun x y => tells hmix (x := x_l_eqMsg) (by kernel_rfl) (r_l_eqMsg x y)
theorem t_l_eqDone : C_l_eqDone (Tells Try.prog) := fun x y => tells hmix (x := x_l_eqDone) (by kernel_rfl) (r_l_eqDone x y)
theorem t_l_eqDoneS : C_l_eqDoneS (Tells Try.prog) := fun l m hl => tells hmix (x := x_l_eqDoneS) (by kernel_rfl) (r_l_eqDoneS t_l_eqDone l m hl)
theorem t_l_markDoneS : C_l_markDoneS (Tells Try.prog) := fun l k hl hk => tells hmix (x := x_l_markDoneS) (by kernel_rfl) (r_l_markDoneS t_l_markText l k hl hk)
theorem t_l_heldDoneS : C_l_heldDoneS (Tells Try.prog) := fun n k hl hk => tells hmix (x := x_l_heldDoneS) (by kernel_rfl) (r_l_heldDoneS t_l_markText n k hl hk)
theorem t_l_eqClient : C_l_eqClient (Tells Try.prog) := fun x y hx => tells hmix (x := x_l_eqClient) (by kernel_rfl) (r_l_eqClient t_l_eqMsg t_l_eqDoneS x y hx)
theorem t_l_markClient : C_l_markClient (Tells Try.prog) := fun x k hx hk => tells hmix (x := x_l_markClient) (by kernel_rfl) (r_l_markClient t_l_markDoneS x k hx hk)
theorem t_l_heldClient : C_l_heldClient (Tells Try.prog) := fun x k hx hk => tells hmix (x := x_l_heldClient) (by kernel_rfl) (r_l_heldClient t_l_heldDoneS x k hx hk)
theorem t_i_ClientNew : C_i_ClientNew (Tells Try.prog) := fun id => tells hmix (x := x_i_ClientNew) (by kernel_rfl) (r_i_ClientNew id)
theorem t_s_ClientNew : C_s_ClientNew (Tells Try.prog) := fun id => tells hmix (x := x_s_ClientNew) (by kernel_rfl) (r_s_ClientNew id)
theorem t_l_FnExactClientNew : C_l_FnExactClientNew (Tells Try.prog) := fun aId => tells hmix (x := x_l_FnExactClientNew) (by kernel_rfl) (r_l_FnExactClientNew t_s_ClientNew t_i_ClientNew t_l_eqClient t_l_markClient t_l_heldClient aId)
end Go.X

