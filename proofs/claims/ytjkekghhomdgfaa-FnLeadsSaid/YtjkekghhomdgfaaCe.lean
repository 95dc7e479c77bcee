/- What the functions tell. -/
import Derived.Test.YtjkekghhomdgfaaCd
import Derived.Test.YtjkekghhomdgfaaProg
set_option linter.unusedVariables false
set_option linter.unusedSimpArgs false
namespace Go.X
open Go.Proofs
theorem hmix : Try.prog.follows .mixedOrders = true := by kernel_rfl
theorem t_i_within : C_i_within (Tells Try.prog Kept.nothing) := fun n a b => tells hmix (x := x_i_within) (by kernel_rfl) (r_i_within n a b)
theorem t_i_isWord : C_i_isWord (Tells Try.prog Kept.nothing) := fun n => tells hmix (x := x_i_isWord) (by kernel_rfl) (r_i_isWord t_i_within n)
theorem t_i_MsgOk : C_i_MsgOk (Tells Try.prog Kept.nothing) := fun m => tells hmix (x := x_i_MsgOk) (by kernel_rfl) (r_i_MsgOk t_i_within t_i_isWord m)
theorem t_i_leadIn : C_i_leadIn (Tells Try.prog Kept.nothing) := fun p => tells hmix (x := x_i_leadIn) (by kernel_rfl) (r_i_leadIn p)
theorem t_s_l19At : C_s_l19At (Tells Try.prog Kept.nothing) := fun p => tells hmix (x := x_s_l19At) (by kernel_rfl) (r_s_l19At p)
theorem t_i_LeadNew : C_i_LeadNew (Tells Try.prog Kept.nothing) := tells hmix (x := x_i_LeadNew) (by kernel_rfl) (r_i_LeadNew t_i_leadIn)
theorem t_i_Forget : C_i_Forget (Tells Try.prog Kept.nothing) := fun l => tells hmix (x := x_i_Forget) (by kernel_rfl) (r_i_Forget t_i_leadIn l)
theorem t_i_copyLead : C_i_copyLead (Tells Try.prog Kept.nothing) := fun l h => tells hmix (x := x_i_copyLead) (by kernel_rfl) (r_i_copyLead l h)
theorem t_i_LeadOk : C_i_LeadOk (Tells Try.prog Kept.nothing) := fun l h => tells hmix (x := x_i_LeadOk) (by kernel_rfl) (r_i_LeadOk t_i_within l h)
theorem t_i_Walks : C_i_Walks (Tells Try.prog Kept.nothing) := fun p => tells hmix (x := x_i_Walks) (by kernel_rfl) (r_i_Walks p)
theorem t_i_Final : C_i_Final (Tells Try.prog Kept.nothing) := fun p => tells hmix (x := x_i_Final) (by kernel_rfl) (r_i_Final p)
theorem t_i_Tick : C_i_Tick (Tells Try.prog Kept.nothing) := fun l h => tells hmix (x := x_i_Tick) (by kernel_rfl) (r_i_Tick t_i_LeadOk t_i_Walks l h)
theorem t_i_Hear : C_i_Hear (Tells Try.prog Kept.nothing) := fun l m h => tells hmix (x := x_i_Hear) (by kernel_rfl) (r_i_Hear t_i_copyLead t_i_LeadOk t_i_MsgOk t_i_Walks t_i_Final t_i_leadIn l m h)
theorem t_l_big : C_l_big (Tells Try.prog Kept.nothing) := fun l => tells hmix (x := x_l_big) (by kernel_rfl) (r_l_big l)
theorem t_l_at : C_l_at (Tells Try.prog Kept.nothing) := by
  intro l i hi hl
  obtain ⟨r0, ⟨r, hP, rfl⟩, hr⟩ := r_l_at l i hi hl
  exact ⟨r, hP, tells hmix (x := x_l_at) (by kernel_rfl) hr⟩
theorem t_s_l1New : C_s_l1New (Tells Try.prog Kept.nothing) := by
  intro l hl
  obtain ⟨r0, ⟨c, hP, rfl⟩, hr⟩ := r_s_l1New l hl
  exact ⟨c, hP, tellsP hmix (x := x_s_l1New) (by kernel_rfl) hr⟩
theorem t_s_l1Byte : C_s_l1Byte (Tells Try.prog Kept.nothing) := by
  intro c hc
  obtain ⟨r0, ⟨r, d, hP, rfl⟩, hr⟩ := r_s_l1Byte c hc
  exact ⟨r, d, hP, tells hmix (x := x_s_l1Byte) (by kernel_rfl) hr⟩
theorem t_s_l1Below : C_s_l1Below (Tells Try.prog Kept.nothing) := by
  intro c n hc
  obtain ⟨r0, ⟨r, d, hP, rfl⟩, hr⟩ := r_s_l1Below t_s_l1Byte c n hc
  exact ⟨r, d, hP, tells hmix (x := x_s_l1Below) (by kernel_rfl) hr⟩
theorem t_s_l1Once : C_s_l1Once (Tells Try.prog Kept.nothing) := by
  intro c n hc
  obtain ⟨r0, ⟨r, d, hP, rfl⟩, hr⟩ := r_s_l1Once t_s_l1Below c n hc
  exact ⟨r, d, hP, tells hmix (x := x_s_l1Once) (by kernel_rfl) hr⟩
theorem t_s_l1Str : C_s_l1Str (Tells Try.prog Kept.nothing) := by
  intro c l hc hl
  obtain ⟨r0, ⟨r, d, hP, rfl⟩, hr⟩ := r_s_l1Str t_s_l1Below c l hc hl
  exact ⟨r, d, hP, tells hmix (x := x_s_l1Str) (by kernel_rfl) hr⟩
theorem t_i_NextOk : C_i_NextOk (Tells Try.prog Kept.nothing) := fun a b => tells hmix (x := x_i_NextOk) (by kernel_rfl) (r_i_NextOk t_i_within a b)
theorem t_s_l19Draw : C_s_l19Draw (Tells Try.prog Kept.nothing) := by
  intro c hc
  obtain ⟨r0, ⟨l, d, hP, rfl⟩, hr⟩ := r_s_l19Draw t_s_l1Below t_s_l19At t_s_l1Once t_s_l1Str c hc
  exact ⟨l, d, hP, tells hmix (x := x_s_l19Draw) (by kernel_rfl) hr⟩
theorem t_s_DrawLead : C_s_DrawLead (Tells Try.prog Kept.nothing) := by
  intro l hl
  obtain ⟨r0, ⟨a, hP, rfl⟩, hr⟩ := r_s_DrawLead t_s_l1New t_s_l19Draw l hl
  exact ⟨a, hP, tells hmix (x := x_s_DrawLead) (by kernel_rfl) hr⟩
theorem t_l_sameLead : C_l_sameLead (Tells Try.prog Kept.nothing) := fun x y hx => tells hmix (x := x_l_sameLead) (by kernel_rfl) (r_l_sameLead x y hx)
theorem t_l_FnLeads : C_l_FnLeads (Tells Try.prog Kept.nothing) := fun code h => tells hmix (x := x_l_FnLeads) (by kernel_rfl) (r_l_FnLeads t_l_big t_s_DrawLead t_l_at t_i_Hear t_i_LeadOk t_i_NextOk t_l_sameLead t_i_Tick t_i_MsgOk t_i_Forget t_i_LeadNew code h)
end Go.X

