/- What the functions tell. -/
import Derived.Test.YtihpdefnajimgaaCc
import Derived.Test.YtihpdefnajimgaaProg
set_option linter.unusedVariables false
set_option linter.unusedSimpArgs false
namespace Go.X
open Go.Proofs
theorem hmix : Try.prog.follows .mixedOrders = true := by kernel_rfl
theorem t_l_markText : C_l_markText (Tells Try.prog) := fun k hk => tells hmix (x := x_l_markText) (by kernel_rfl) (r_l_markText k hk)
theorem t_l_szBoolS : C_l_szBoolS (Tells Try.prog) := fun l k hl hk => tells hmix (x := x_l_szBoolS) (by kernel_rfl) (r_l_szBoolS l k hl hk)
theorem t_l_toBoolS : C_l_toBoolS (Tells Try.prog) := fun l hl => tells hmix (x := x_l_toBoolS) (by kernel_rfl) (r_l_toBoolS l hl)
theorem t_l_eqBoolS : C_l_eqBoolS (Tells Try.prog) := fun l m hl => tells hmix (x := x_l_eqBoolS) (by kernel_rfl) (r_l_eqBoolS l m hl)
theorem t_l_markBoolS : C_l_markBoolS (Tells Try.prog) := fun l k hl hk => tells hmix (x := x_l_markBoolS) (by kernel_rfl) (r_l_markBoolS l k hl hk)
theorem t_l_szStringS : C_l_szStringS (Tells Try.prog) := fun l k hk hl hs => tells hmix (x := x_l_szStringS) (by kernel_rfl) (r_l_szStringS l k hk hl hs)
theorem t_l_toStringS : C_l_toStringS (Tells Try.prog) := fun l hl => tells hmix (x := x_l_toStringS) (by kernel_rfl) (r_l_toStringS l hl)
theorem t_l_eqStringS : C_l_eqStringS (Tells Try.prog) := fun l m hl => tells hmix (x := x_l_eqStringS) (by kernel_rfl) (r_l_eqStringS l m hl)
theorem t_l_markStringS : C_l_markStringS (Tells Try.prog) := fun l k hl hk => tells hmix (x := x_l_markStringS) (by kernel_rfl) (r_l_markStringS t_l_markText l k hl hk)
theorem t_l_eqMsg : C_l_eqMsg (Tells Try.prog) := fun x y => tells hmix (x := x_l_eqMsg) (by kernel_rfl) (r_l_eqMsg x y)
theorem t_l_eqMsgS : C_l_eqMsgS (Tells Try.prog) := fun l m hl => tells hmix (x := x_l_eqMsgS) (by kernel_rfl) (r_l_eqMsgS t_l_eqMsg l m hl)
theorem t_l_markMsgS : C_l_markMsgS (Tells Try.prog) := fun l k hl hk => tells hmix (x := x_l_markMsgS) (by kernel_rfl) (r_l_markMsgS t_l_markText l k hl hk)
theorem t_l_heldMsgS : C_l_heldMsgS (Tells Try.prog) := fun n k hl hk => tells hmix (x := x_l_heldMsgS) (by kernel_rfl) (r_l_heldMsgS t_l_markText n k hl hk)
theorem t_l_szLead : C_l_szLead (Tells Try.prog) := fun x k hx hk => tells hmix (x := x_l_szLead) (by kernel_rfl) (r_l_szLead t_l_szBoolS t_l_szStringS x k hx hk)
theorem t_l_toLead : C_l_toLead (Tells Try.prog) := fun x hx => tells hmix (x := x_l_toLead) (by kernel_rfl) (r_l_toLead t_l_toBoolS t_l_toStringS x hx)
theorem t_l_eqLead : C_l_eqLead (Tells Try.prog) := fun x y hx => tells hmix (x := x_l_eqLead) (by kernel_rfl) (r_l_eqLead t_l_eqBoolS t_l_eqStringS x y hx)
theorem t_l_markLead : C_l_markLead (Tells Try.prog) := fun x k hx hk => tells hmix (x := x_l_markLead) (by kernel_rfl) (r_l_markLead t_l_markBoolS t_l_markStringS x k hx hk)
theorem t_i_within : C_i_within (Tells Try.prog) := fun n a b => tells hmix (x := x_i_within) (by kernel_rfl) (r_i_within n a b)
theorem t_s_l1In : C_s_l1In (Tells Try.prog) := fun n a b => tells hmix (x := x_s_l1In) (by kernel_rfl) (r_s_l1In n a b)
theorem t_i_LeadOk : C_i_LeadOk (Tells Try.prog) := fun l h => tells hmix (x := x_i_LeadOk) (by kernel_rfl) (r_i_LeadOk t_i_within l h)
theorem t_s_LeadOk : C_s_LeadOk (Tells Try.prog) := fun l h => tells hmix (x := x_s_LeadOk) (by kernel_rfl) (r_s_LeadOk t_s_l1In l h)
theorem t_i_Walks : C_i_Walks (Tells Try.prog) := fun p => tells hmix (x := x_i_Walks) (by kernel_rfl) (r_i_Walks p)
theorem t_s_Walks : C_s_Walks (Tells Try.prog) := fun p => tells hmix (x := x_s_Walks) (by kernel_rfl) (r_s_Walks t_s_l1In p)
theorem t_i_Tick : C_i_Tick (Tells Try.prog) := fun l h => tells hmix (x := x_i_Tick) (by kernel_rfl) (r_i_Tick t_i_LeadOk t_i_Walks l h)
theorem t_s_Tick : C_s_Tick (Tells Try.prog) := fun l h => tells hmix (x := x_s_Tick) (by kernel_rfl) (r_s_Tick t_s_LeadOk t_s_Walks l h)
theorem t_l_FnExactTick : C_l_FnExactTick (Tells Try.prog) := fun aL h_aL => tells hmix (x := x_l_FnExactTick) (by kernel_rfl) (r_l_FnExactTick t_l_szLead t_l_toLead t_s_Tick t_i_Tick t_l_eqMsgS t_l_eqLead t_l_markLead t_l_markMsgS t_l_heldMsgS aL h_aL)
end Go.X

