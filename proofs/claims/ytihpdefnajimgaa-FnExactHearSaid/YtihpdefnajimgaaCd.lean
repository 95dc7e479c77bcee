/- What the functions tell. -/
import Derived.Test.YtihpdefnajimgaaCc
import Derived.Test.YtihpdefnajimgaaProg
set_option linter.unusedVariables false
set_option linter.unusedSimpArgs false
namespace Go.X
open Go.Proofs
theorem hmix : Try.prog.follows .mixedOrders = true := by kernel_rfl
theorem t_l_markText : C_l_markText (Tells Try.prog) := fun k hk => tells hmix (x := x_l_markText) (by kernel_rfl) (r_l_markText k hk)
theorem t_l_szBoolS : C_l_szBoolS (Tells Try.prog) := fun l k hl hk => tells hmix (x := x_l_szBoolS) (by kernel_rfl) (r_l_szBoolS l k hl hk)
theorem t_l_toBoolS : C_l_toBoolS (Tells Try.prog) := fun l hl => tells hmix (x := x_l_toBoolS) (by kernel_rfl) (r_l_toBoolS l hl)
theorem t_l_eqBoolS : C_l_eqBoolS (Tells Try.prog) := fun l m hl => tells hmix (x := x_l_eqBoolS) (by kernel_rfl) (r_l_eqBoolS l m hl)
theorem t_l_markBoolS : C_l_markBoolS (Tells Try.prog) := fun l k hl hk => tells hmix (x := x_l_markBoolS) (by kernel_rfl) (r_l_markBoolS l k hl hk)
theorem t_l_heldBoolS : C_l_heldBoolS (Tells Try.prog) := fun n k hl hk => tells hmix (x := x_l_heldBoolS) (by kernel_rfl) (r_l_heldBoolS n k hl hk)
theorem t_l_szStringS : C_l_szStringS (Tells Try.prog) := fun l k hk hl hs => tells hmix (x := x_l_szStringS) (by kernel_rfl) (r_l_szStringS l k hk hl hs)
theorem t_l_toStringS : C_l_toStringS (Tells Try.prog) := fun l hl => tells hmix (x := x_l_toStringS) (by kernel_rfl) (r_l_toStringS l hl)
theorem t_l_eqStringS : C_l_eqStringS (Tells Try.prog) := fun l m hl => tells hmix (x := x_l_eqStringS) (by kernel_rfl) (r_l_eqStringS l m hl)
theorem t_l_markStringS : C_l_markStringS (Tells Try.prog) := fun l k hl hk => tells hmix (x := x_l_markStringS) (by kernel_rfl) (r_l_markStringS t_l_markText l k hl hk)
theorem t_l_heldStringS : C_l_heldStringS (Tells Try.prog) := fun n k hl hk => tells hmix (x := x_l_heldStringS) (by kernel_rfl) (r_l_heldStringS t_l_markText n k hl hk)
theorem t_l_szMsg : C_l_szMsg (Tells Try.prog) := fun x k hx hk => tells hmix (x := x_l_szMsg) (by kernel_rfl) (r_l_szMsg x k hx hk)
theorem t_l_toMsg : C_l_toMsg (Tells Try.prog) := fun x => tells hmix (x := x_l_toMsg) (by kernel_rfl) (r_l_toMsg x)
theorem t_l_szLead : C_l_szLead (Tells Try.prog) := fun x k hx hk => tells hmix (x := x_l_szLead) (by kernel_rfl) (r_l_szLead t_l_szBoolS t_l_szStringS x k hx hk)
theorem t_l_toLead : C_l_toLead (Tells Try.prog) := fun x hx => tells hmix (x := x_l_toLead) (by kernel_rfl) (r_l_toLead t_l_toBoolS t_l_toStringS x hx)
theorem t_l_eqLead : C_l_eqLead (Tells Try.prog) := fun x y hx => tells hmix (x := x_l_eqLead) (by kernel_rfl) (r_l_eqLead t_l_eqBoolS t_l_eqStringS x y hx)
theorem t_l_markLead : C_l_markLead (Tells Try.prog) := fun x k hx hk => tells hmix (x := x_l_markLead) (by kernel_rfl) (r_l_markLead t_l_markBoolS t_l_markStringS x k hx hk)
theorem t_l_heldLead : C_l_heldLead (Tells Try.prog) := fun x k hx hk => tells hmix (x := x_l_heldLead) (by kernel_rfl) (r_l_heldLead t_l_heldBoolS t_l_heldStringS x k hx hk)
theorem t_i_within : C_i_within (Tells Try.prog) := fun n a b => tells hmix (x := x_i_within) (by kernel_rfl) (r_i_within n a b)
theorem t_s_l1In : C_s_l1In (Tells Try.prog) := fun n a b => tells hmix (x := x_s_l1In) (by kernel_rfl) (r_s_l1In n a b)
theorem t_i_isWord : C_i_isWord (Tells Try.prog) := fun n => tells hmix (x := x_i_isWord) (by kernel_rfl) (r_i_isWord t_i_within n)
theorem t_s_l1Word : C_s_l1Word (Tells Try.prog) := fun n => tells hmix (x := x_s_l1Word) (by kernel_rfl) (r_s_l1Word t_s_l1In n)
theorem t_i_MsgOk : C_i_MsgOk (Tells Try.prog) := fun m => tells hmix (x := x_i_MsgOk) (by kernel_rfl) (r_i_MsgOk t_i_within t_i_isWord m)
theorem t_s_MsgOk : C_s_MsgOk (Tells Try.prog) := fun m => tells hmix (x := x_s_MsgOk) (by kernel_rfl) (r_s_MsgOk t_s_l1In t_s_l1Word m)
theorem t_i_leadIn : C_i_leadIn (Tells Try.prog) := fun p => tells hmix (x := x_i_leadIn) (by kernel_rfl) (r_i_leadIn p)
theorem t_s_l19At : C_s_l19At (Tells Try.prog) := fun p => tells hmix (x := x_s_l19At) (by kernel_rfl) (r_s_l19At p)
theorem t_i_copyLead : C_i_copyLead (Tells Try.prog) := fun l h => tells hmix (x := x_i_copyLead) (by kernel_rfl) (r_i_copyLead l h)
theorem t_s_l19Copy : C_s_l19Copy (Tells Try.prog) := fun l h => tells hmix (x := x_s_l19Copy) (by kernel_rfl) (r_s_l19Copy l h)
theorem t_i_LeadOk : C_i_LeadOk (Tells Try.prog) := fun l h => tells hmix (x := x_i_LeadOk) (by kernel_rfl) (r_i_LeadOk t_i_within l h)
theorem t_s_LeadOk : C_s_LeadOk (Tells Try.prog) := fun l h => tells hmix (x := x_s_LeadOk) (by kernel_rfl) (r_s_LeadOk t_s_l1In l h)
theorem t_i_Walks : C_i_Walks (Tells Try.prog) := fun p => tells hmix (x := x_i_Walks) (by kernel_rfl) (r_i_Walks p)
theorem t_s_Walks : C_s_Walks (Tells Try.prog) := fun p => tells hmix (x := x_s_Walks) (by kernel_rfl) (r_s_Walks t_s_l1In p)
theorem t_i_Final : C_i_Final (Tells Try.prog) := fun p => tells hmix (x := x_i_Final) (by kernel_rfl) (r_i_Final p)
theorem t_s_Final : C_s_Final (Tells Try.prog) := fun p => tells hmix (x := x_s_Final) (by kernel_rfl) (r_s_Final p)
theorem t_i_Hear : C_i_Hear (Tells Try.prog) := fun l m h => tells hmix (x := x_i_Hear) (by kernel_rfl) (r_i_Hear t_i_copyLead t_i_LeadOk t_i_MsgOk t_i_Walks t_i_Final t_i_leadIn l m h)
theorem t_s_Hear : C_s_Hear (Tells Try.prog) := fun l m h => tells hmix (x := x_s_Hear) (by kernel_rfl) (r_s_Hear t_s_l19Copy t_s_LeadOk t_s_MsgOk t_s_Walks t_s_Final t_s_l19At l m h)
theorem t_l_FnExactHear : C_l_FnExactHear (Tells Try.prog) := fun aL aM h_aL h_aM => tells hmix (x := x_l_FnExactHear) (by kernel_rfl) (r_l_FnExactHear t_l_szLead t_l_szMsg t_l_toLead t_l_toMsg t_s_Hear t_i_Hear t_l_eqLead t_l_markLead t_l_heldLead aL aM h_aL h_aM)
end Go.X

