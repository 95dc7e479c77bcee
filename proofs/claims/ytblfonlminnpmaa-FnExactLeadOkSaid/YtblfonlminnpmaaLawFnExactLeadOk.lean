/- The row of the law loop.example/g00475/laws.FnExactLeadOk: for every input it answers true; each argument reads as it did. Written by a program of mine (row.py). -/
import Derived.Test.YtblfonlminnpmaaRows
import Derived.Test.YtblfonlminnpmaaPFnExactLeadOkx3
import Derived.Test.YtblfonlminnpmaaPureFnExactLeadOk
import Derived.Test.YtblfonlminnpmaaOpen
import Derived.WalkKit
import Derived.ProofKit
import Derived.OpenShut
import Derived.ShutString
import Derived.ChangeOld
import Derived.Below
import Derived.SizedLaws
import Derived.Carry
namespace Go.Proofs.Ytblfonlminnpmaa.fnExactLeadOk
open Go.ChangeShapes Go.WideShapes Go.ChangeAt Go.RowKit Go.Proofs.YtblfonlminnpmaaW.PrintWords Go.Proofs.YtblfonlminnpmaaW.Opn Go.Proofs.Ytblfonlminnpmaa.PFnExactLeadOk Pure.FnExactLeadOk
open Go.ChangeMaps (open_string shut_string)
set_option linter.unusedVariables false
set_option linter.unusedSimpArgs false
set_option maxRecDepth 100000
theorem own : ownKnob Try.prog.godebug = none := by kernel_rfl
theorem laidOut : laidOutB Try.prog = true := by kernel_rfl
def pk37 := (Kd.iso (Kd.pair (Kd.int .i64) (Kd.pair (Kd.slice 4 Kd.bool) (Kd.pair (Kd.slice 4 Kd.bool) ((Kd.slice 9 Kd.string))))) (fun x => x))
theorem op37 : Opens Try.prog 37 pk37 (fun x => ((Lit.int .i64 x.1).wf = true) ∧ ((x.2.1.length * 1 ≤ 140737488351232 ∧ ∀ y_ ∈ x.2.1, True)) ∧ ((x.2.2.1.length * 1 ≤ 140737488351232 ∧ ∀ y_ ∈ x.2.2.1, True)) ∧ ((x.2.2.2.length * 16 ≤ 140737488351232 ∧ ∀ y_ ∈ x.2.2.2, y_.size ≤ 140737488351232))) := Opens.struct Try.underlying37 (by kernel_rfl) (Fields.cons rfl (by kernel_rfl) (Opens.int Try.underlying3) (Fields.cons rfl (by kernel_rfl) (Opens.slice 1 Try.underlying34 (by kernel_rfl) (by kernel_rfl) (Opens.bool Try.underlying4)) (Fields.cons rfl (by kernel_rfl) (Opens.slice 1 Try.underlying34 (by kernel_rfl) (by kernel_rfl) (Opens.bool Try.underlying4)) (Fields.one rfl (by kernel_rfl) (Opens.slice 16 Try.underlying35 (by kernel_rfl) (by kernel_rfl) (Opens.string Try.underlying9)))))) (fun x => x) (fun x => x) (fun _ => rfl)
theorem lifted (os : Os) (started : os.Started) (H : Type) (enc : TypeId × Value → H) :
    ReturnsInHanded {} Try.checked os 10 .any (Rows.fnExactLeadOkSpec.pre6 enc Try.prog Try.f10 Rows.fnExactLeadOkRow.domain false) (Rows.fnExactLeadOkSpec.post enc Try.prog Try.f10 false true false false) := by
  refine returnsInHanded_of_change_sized (C := Try.checked) own started (by kernel_rfl) Try.func10
    (ChangeSpec.witness6 (enc := enc) (C := Try.checked) false ⟨#[], #[.agg #[.int .i64 0, .slice none 0 0, .slice none 0 0, .slice none 0 0]], []⟩ 8 (by kernel_rfl) (by kernel_rfl) (by kernel_rfl) (by kernel_rfl)) ?_
  intro W base args ds gs before hval0 hW hcnd hsz0 _
  have hsz : (DataW.weightsEach Try.prog (Try.f10.params.toList ++ Rows.fnExactLeadOkSpec.plain.varTypes Try.prog) (ds ++ gs)).all (· ≤ reachBytes) = true := hsz0
  have hval : ∀ (j : Nat) t v, Try.f10.params[j]? = some t → args[j]? = some v → Value.okWide Try.prog W .any base t v := hval0
  have hW' := hW
  obtain ⟨p, q, hA0, hV, rfl, hfz, hnd⟩ := hW
  have hA : DataW.TrodAll enc Try.prog W 0 (fun _ => true) true Try.f10.params.toList args.toList ds p := hA0
  rw [Try.params10] at hA hval hsz
  obtain ⟨v0, vs0, d0, ds0, p0, q0, hargs, rfl, rfl, h0, r0⟩ := trodAll_cons hA
  obtain ⟨rfl, rfl, rfl⟩ := trodAll_nil r0
  obtain rfl : args = #[v0] := by cases args; simp_all
  obtain ⟨rfl, rfl⟩ := trodVars_none hV
  have lt0 := lt_of_trod h0
  have k0_ := h0
  obtain ⟨cs0, rfl, hn0⟩ := okWide_struct Try.underlying37 (hval 0 37 v0 rfl rfl)
  obtain ⟨⟨a0_0, l0_1, l0_2, l0_3⟩, ⟨_, _, e0_, rfl, ⟨_, _, rfl, ⟨A0_1, c0_1, rfl, hc0_1, hr0_1⟩, ⟨_, _, rfl, ⟨A0_2, c0_2, rfl, hc0_2, hr0_2⟩, ⟨A0_3, c0_3, rfl, hc0_3, hr0_3⟩⟩⟩⟩, ⟨w0_0, w0_1, w0_2, w0_3⟩⟩ := Opens.param op37 h0 hsz 0 rfl rfl
  obtain rfl : cs0 = #[.int .i64 a0_0, .slice A0_1 l0_1.length c0_1, .slice A0_2 l0_2.length c0_2, .slice A0_3 l0_3.length c0_3] := by apply Array.ext'; simpa [Value.cells] using e0_
  clear hA0 hval0 hsz0 hsz
  obtain ⟨k, hk⟩ := Pure.FnExactLeadOk.holds a0_0 l0_1 l0_2 l0_3 w0_0 w0_1 w0_2 w0_3
  refine (laws_FnExactLeadOk.calls k a0_0 _ _ l0_1 _ _ l0_2 _ _ l0_3 true W hr0_1 hc0_1 hr0_2 hc0_2 hr0_3 hc0_3 hk).mono fun e W' ⟨he, bel0⟩ => ?_
  have bel : Below W.heap.size W W' := bel0
  subst he
  exact ⟨_, rfl, _, _, _, [], _, [], hW', trodAll_mk1 (shut_bool Try.underlying4 _), (trodAll_cons_mk (Below.trod laidOut (by kernel_rfl) (of_decide_eq_true (by kernel_rfl)) k0_ bel lt0) trodAll_mk0), rfl, bel.frame _, fun h => by cases h⟩
theorem over : Rows.fnExactLeadOkRow.holds Try.pinned (OpenSpec.ofChange Rows.fnExactLeadOkSpec) :=
  OpenClaim.holds_of_wide 10 Try.f10 rfl rfl rfl rfl rfl rfl rfl ⟨rfl, rfl, rfl, rfl, rfl⟩ rfl rfl rfl rfl rfl (by kernel_rfl) Try.func10 (by kernel_rfl)
    (of_decide_eq_true (by kernel_rfl)) (by unfold Func.isWrapper; first | (rw [if_pos (by decide +kernel)]; kernel_rfl) | (rw [if_neg (by decide +kernel)]; exact ⟨rfl, rfl⟩))
    (fun os started H enc _ => lifted os started H enc)
theorem proved : Rows.FnExactLeadOkSaid := over
#print axioms proved
end Go.Proofs.Ytblfonlminnpmaa.fnExactLeadOk
namespace Go.Proofs.Ytblfonlminnpmaa
/-- The row, under a short name, for the claim. -/
theorem fnExactLeadOk_holds : Rows.FnExactLeadOkSaid := fnExactLeadOk.proved
end Go.Proofs.Ytblfonlminnpmaa
