/- What the functions tell. -/
import Derived.Test.YtihpdefnajimgaaCc
import Derived.Test.YtihpdefnajimgaaProg
set_option linter.unusedVariables false
set_option linter.unusedSimpArgs false
namespace Go.X
open Go.Proofs
theorem hmix : Try.prog.follows .mixedOrders = true := by kernel_rfl
theorem t_l_markText : C_l_markText (Tells Try.prog) := fun k hk => tells hmix (x := x_l_markText) (by kernel_rfl) (r_l_markText k hk)
theorem t_l_eqBoolS : C_l_eqBoolS (Tells Try.prog) := fun l m hl => tells hmix (x := x_l_eqBoolS) (by kernel_rfl) (r_l_eqBoolS l m hl)
theorem t_l_markBoolS : C_l_markBoolS (Tells Try.prog) := fun l k hl hk => tells hmix (x := x_l_markBoolS) (by kernel_rfl) (r_l_markBoolS l k hl hk)
theorem t_l_heldBoolS : C_l_heldBoolS (Tells Try.prog) := fun n k hl hk => tells hmix (x := x_l_heldBoolS) (by kernel_rfl) (r_l_heldBoolS n k hl hk)
theorem t_l_eqStringS : C_l_eqStringS (Tells Try.prog) := fun l m hl => tells hmix (x := x_l_eqStringS) (by kernel_rfl) (r_l_eqStringS l m hl)
theorem t_l_markStringS : C_l_markStringS (Tells Try.prog) := fun l k hl hk => tells hmix (x := x_l_markStringS) (by kernel_rfl) (r_l_markStringS t_l_markText l k hl hk)
theorem t_l_heldStringS : C_l_heldStringS (Tells Try.prog) := fun n k hl hk => tells hmix (x := x_l_heldStringS) (by kernel_rfl) (r_l_heldStringS t_l_markText n k hl hk)
theorem t_l_eqLead : C_l_eqLead (Tells Try.prog) := fun x y hx => tells hmix (x := x_l_eqLead) (by kernel_rfl) (r_l_eqLead t_l_eqBoolS t_l_eqStringS x y hx)
theorem t_l_markLead : C_l_markLead (Tells Try.prog) := fun x k hx hk => tells hmix (x := x_l_markLead) (by kernel_rfl) (r_l_markLead t_l_markBoolS t_l_markStringS x k hx hk)
theorem t_l_heldLead : C_l_heldLead (Tells Try.prog) := fun x k hx hk => tells hmix (x := x_l_heldLead) (by kernel_rfl) (r_l_heldLead t_l_heldBoolS t_l_heldStringS x k hx hk)
theorem t_i_leadIn : C_i_leadIn (Tells Try.prog) := fun p => tells hmix (x := x_i_leadIn) (by kernel_rfl) (r_i_leadIn p)
theorem t_s_l19At : C_s_l19At (Tells Try.prog) := fun p => tells hmix (x := x_s_l19At) (by kernel_rfl) (r_s_l19At p)
theorem t_i_LeadNew : C_i_LeadNew (Tells Try.prog) := tells hmix (x := x_i_LeadNew) (by kernel_rfl) (r_i_LeadNew t_i_leadIn)
theorem t_s_LeadNew : C_s_LeadNew (Tells Try.prog) := tells hmix (x := x_s_LeadNew) (by kernel_rfl) (r_s_LeadNew t_s_l19At)
theorem t_l_FnExactLeadNew : C_l_FnExactLeadNew (Tells Try.prog) := tells hmix (x := x_l_FnExactLeadNew) (by kernel_rfl) (r_l_FnExactLeadNew t_s_LeadNew t_i_LeadNew t_l_eqLead t_l_markLead t_l_heldLead)
end Go.X

