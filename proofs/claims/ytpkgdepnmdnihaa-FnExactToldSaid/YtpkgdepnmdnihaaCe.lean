/- What the functions tell. -/
import Derived.Test.YtpkgdepnmdnihaaCd
import Derived.Test.YtpkgdepnmdnihaaProg
set_option linter.unusedVariables false
set_option linter.unusedSimpArgs false
namespace Go.X
open Go.Proofs
theorem hmix : Try.prog.follows .mixedOrders = true := by kernel_rfl
theorem t_l_markText : C_l_markText (Tells Try.prog) := fun k hk => tells hmix (x := x_l_markText) (by kernel_rfl) (r_l_markText k hk)
theorem t_l_szMsg : C_l_szMsg (Tells Try.prog) := fun x k hx hk => tells hmix (x := x_l_szMsg) (by kernel_rfl) (r_l_szMsg x k hx hk)
theorem t_l_toMsg : C_l_toMsg (Tells Try.prog) := fun x => tells hmix (x := x_l_toMsg) (by kernel_rfl) (r_l_toMsg x)
theorem t_l_eqMsg : C_l_eqMsg (Tells Try.prog) := fun x y => tells hmix (x := x_l_eqMsg) (by kernel_rfl) (r_l_eqMsg x y)
theorem t_l_szDone : C_l_szDone (Tells Try.prog) := fun x k hx hk => tells hmix (x := x_l_szDone) (by kernel_rfl) (r_l_szDone x k hx hk)
theorem t_l_toDone : C_l_toDone (Tells Try.prog) := fun x => tells hmix (x := x_l_toDone) (by kernel_rfl) (r_l_toDone x)
theorem t_l_eqDone : C_l_eqDone (Tells Try.prog) := fun x y => tells hmix (x := x_l_eqDone) (by kernel_rfl) (r_l_eqDone x y)
theorem t_l_szDoneS : C_l_szDoneS (Tells Try.prog) := fun l k hk hl hs => tells hmix (x := x_l_szDoneS) (by kernel_rfl) (r_l_szDoneS t_l_szDone l k hk hl hs)
theorem t_l_toDoneS : C_l_toDoneS (Tells Try.prog) := fun l hl => tells hmix (x := x_l_toDoneS) (by kernel_rfl) (r_l_toDoneS t_l_toDone l hl)
theorem t_l_eqDoneS : C_l_eqDoneS (Tells Try.prog) := fun l m hl => tells hmix (x := x_l_eqDoneS) (by kernel_rfl) (r_l_eqDoneS t_l_eqDone l m hl)
theorem t_l_markDoneS : C_l_markDoneS (Tells Try.prog) := fun l k hl hk => tells hmix (x := x_l_markDoneS) (by kernel_rfl) (r_l_markDoneS t_l_markText l k hl hk)
theorem t_l_heldDoneS : C_l_heldDoneS (Tells Try.prog) := fun n k hl hk => tells hmix (x := x_l_heldDoneS) (by kernel_rfl) (r_l_heldDoneS t_l_markText n k hl hk)
theorem t_l_szClient : C_l_szClient (Tells Try.prog) := fun x k hx hk => tells hmix (x := x_l_szClient) (by kernel_rfl) (r_l_szClient t_l_szMsg t_l_szDoneS x k hx hk)
theorem t_l_toClient : C_l_toClient (Tells Try.prog) := fun x hx => tells hmix (x := x_l_toClient) (by kernel_rfl) (r_l_toClient t_l_toMsg t_l_toDoneS x hx)
theorem t_l_eqClient : C_l_eqClient (Tells Try.prog) := fun x y hx => tells hmix (x := x_l_eqClient) (by kernel_rfl) (r_l_eqClient t_l_eqMsg t_l_eqDoneS x y hx)
theorem t_l_markClient : C_l_markClient (Tells Try.prog) := fun x k hx hk => tells hmix (x := x_l_markClient) (by kernel_rfl) (r_l_markClient t_l_markDoneS x k hx hk)
theorem t_l_heldClient : C_l_heldClient (Tells Try.prog) := fun x k hx hk => tells hmix (x := x_l_heldClient) (by kernel_rfl) (r_l_heldClient t_l_heldDoneS x k hx hk)
theorem t_i_within : C_i_within (Tells Try.prog) := fun n a b => tells hmix (x := x_i_within) (by kernel_rfl) (r_i_within n a b)
theorem t_s_l1In : C_s_l1In (Tells Try.prog) := fun n a b => tells hmix (x := x_s_l1In) (by kernel_rfl) (r_s_l1In n a b)
theorem t_i_isWord : C_i_isWord (Tells Try.prog) := fun n => tells hmix (x := x_i_isWord) (by kernel_rfl) (r_i_isWord t_i_within n)
theorem t_s_l1Word : C_s_l1Word (Tells Try.prog) := fun n => tells hmix (x := x_s_l1Word) (by kernel_rfl) (r_s_l1Word t_s_l1In n)
theorem t_i_MsgOk : C_i_MsgOk (Tells Try.prog) := fun m => tells hmix (x := x_i_MsgOk) (by kernel_rfl) (r_i_MsgOk t_i_within t_i_isWord m)
theorem t_s_MsgOk : C_s_MsgOk (Tells Try.prog) := fun m => tells hmix (x := x_s_MsgOk) (by kernel_rfl) (r_s_MsgOk t_s_l1In t_s_l1Word m)
theorem t_i_isAsked : C_i_isAsked (Tells Try.prog) := fun k => tells hmix (x := x_i_isAsked) (by kernel_rfl) (r_i_isAsked k)
theorem t_s_l20Kind : C_s_l20Kind (Tells Try.prog) := fun k => tells hmix (x := x_s_l20Kind) (by kernel_rfl) (r_s_l20Kind k)
theorem t_i_NodeOf : C_i_NodeOf (Tells Try.prog) := fun s h => tells hmix (x := x_i_NodeOf) (by kernel_rfl) (r_i_NodeOf s h)
theorem t_s_NodeOf : C_s_NodeOf (Tells Try.prog) := fun s h => tells hmix (x := x_s_NodeOf) (by kernel_rfl) (r_s_NodeOf s h)
theorem t_i_copyClient : C_i_copyClient (Tells Try.prog) := fun c h => tells hmix (x := x_i_copyClient) (by kernel_rfl) (r_i_copyClient c h)
theorem t_s_l20Copy : C_s_l20Copy (Tells Try.prog) := fun c h => tells hmix (x := x_s_l20Copy) (by kernel_rfl) (r_s_l20Copy c h)
theorem t_i_ClientOk : C_i_ClientOk (Tells Try.prog) := fun c h => tells hmix (x := x_i_ClientOk) (by kernel_rfl) (r_i_ClientOk t_i_within t_i_isAsked t_i_MsgOk t_i_NodeOf c h)
theorem t_s_l20Msg : C_s_l20Msg (Tells Try.prog) := fun c h => tells hmix (x := x_s_l20Msg) (by kernel_rfl) (r_s_l20Msg t_s_MsgOk t_s_l20Kind t_s_NodeOf c h)
theorem t_s_ClientOk : C_s_ClientOk (Tells Try.prog) := fun c h => tells hmix (x := x_s_ClientOk) (by kernel_rfl) (r_s_ClientOk t_s_l20Kind t_s_l1In t_s_l20Msg c h)
theorem t_i_Told : C_i_Told (Tells Try.prog) := fun c m h => tells hmix (x := x_i_Told) (by kernel_rfl) (r_i_Told t_i_copyClient t_i_ClientOk t_i_MsgOk c m h)
theorem t_s_Told : C_s_Told (Tells Try.prog) := fun c m h => tells hmix (x := x_s_Told) (by kernel_rfl) (r_s_Told t_s_l20Copy t_s_ClientOk t_s_MsgOk c m h)
theorem t_l_FnExactTold : C_l_FnExactTold (Tells Try.prog) := fun aC aM h_aC h_aM => tells hmix (x := x_l_FnExactTold) (by kernel_rfl) (r_l_FnExactTold t_l_szClient t_l_szMsg t_l_toClient t_l_toMsg t_s_Told t_i_Told t_l_eqClient t_l_markClient t_l_heldClient aC aM h_aC h_aM)
end Go.X

