/- The row of the law loop.example/g00475/laws.FnExactNetOk: for every input it answers true; each argument reads as it did. Written by a program of mine (row.py). -/
import Derived.Test.YtblfonlminnpmaaRows
import Derived.Test.YtblfonlminnpmaaPFnExactNetOkx2
import Derived.Test.YtblfonlminnpmaaPureFnExactNetOk
import Derived.Test.YtblfonlminnpmaaOpen
import Derived.WalkKit
import Derived.ProofKit
import Derived.OpenShut
import Derived.ShutString
import Derived.ChangeOld
import Derived.Below
import Derived.SizedLaws
import Derived.Carry
namespace Go.Proofs.Ytblfonlminnpmaa.fnExactNetOk
open Go.ChangeShapes Go.WideShapes Go.ChangeAt Go.RowKit Go.Proofs.YtblfonlminnpmaaW.PrintWords Go.Proofs.YtblfonlminnpmaaW.Opn Go.Proofs.Ytblfonlminnpmaa.PFnExactNetOk Pure.FnExactNetOk
open Go.ChangeMaps (open_string shut_string)
set_option linter.unusedVariables false
set_option linter.unusedSimpArgs false
set_option maxRecDepth 100000
theorem own : ownKnob Try.prog.godebug = none := by kernel_rfl
theorem laidOut : laidOutB Try.prog = true := by kernel_rfl
theorem op28 : Opens Try.prog 28 k28 wf28 := (Opens.struct Try.underlying28 (by kernel_rfl) (Fields.cons rfl (by kernel_rfl) (Opens.int Try.underlying3) (Fields.cons rfl (by kernel_rfl) (Opens.int Try.underlying3) (Fields.cons rfl (by kernel_rfl) (Opens.int Try.underlying3) (Fields.cons rfl (by kernel_rfl) (Opens.int Try.underlying3) (Fields.cons rfl (by kernel_rfl) (Opens.string Try.underlying9) (Fields.cons rfl (by kernel_rfl) (Opens.string Try.underlying9) (Fields.cons rfl (by kernel_rfl) (Opens.int Try.underlying3) (Fields.one rfl (by kernel_rfl) (Opens.int Try.underlying3))))))))) (fun x : S28 => (x.f0, x.f1, x.f2, x.f3, x.f4, x.f5, x.f6, x.f7)) (fun a => ⟨a.1, a.2.1, a.2.2.1, a.2.2.2.1, a.2.2.2.2.1, a.2.2.2.2.2.1, a.2.2.2.2.2.2.1, a.2.2.2.2.2.2.2⟩) (fun _ => rfl)).weaken (fun _ h => h)
theorem lifted (os : Os) (started : os.Started) (H : Type) (enc : TypeId × Value → H) :
    ReturnsInHanded {} Try.checked os 11 .any (Rows.fnExactNetOkSpec.pre6 enc Try.prog Try.f11 Rows.fnExactNetOkRow.domain false) (Rows.fnExactNetOkSpec.post enc Try.prog Try.f11 false true false false) := by
  refine returnsInHanded_of_change_sized (C := Try.checked) own started (by kernel_rfl) Try.func11
    (ChangeSpec.witness6 (enc := enc) (C := Try.checked) false ⟨#[], #[.slice none 0 0], []⟩ 8 (by kernel_rfl) (by kernel_rfl) (by kernel_rfl) (by kernel_rfl)) ?_
  intro W base args ds gs before hval0 hW hcnd hsz0 _
  have hsz : (DataW.weightsEach Try.prog (Try.f11.params.toList ++ Rows.fnExactNetOkSpec.plain.varTypes Try.prog) (ds ++ gs)).all (· ≤ reachBytes) = true := hsz0
  have hval : ∀ (j : Nat) t v, Try.f11.params[j]? = some t → args[j]? = some v → Value.okWide Try.prog W .any base t v := hval0
  have hW' := hW
  obtain ⟨p, q, hA0, hV, rfl, hfz, hnd⟩ := hW
  have hA : DataW.TrodAll enc Try.prog W 0 (fun _ => true) true Try.f11.params.toList args.toList ds p := hA0
  rw [Try.params11] at hA hval hsz
  obtain ⟨v0, vs0, d0, ds0, p0, q0, hargs, rfl, rfl, h0, r0⟩ := trodAll_cons hA
  obtain ⟨rfl, rfl, rfl⟩ := trodAll_nil r0
  obtain rfl : args = #[v0] := by cases args; simp_all
  obtain ⟨rfl, rfl⟩ := trodVars_none hV
  have lt0 := lt_of_trod h0
  have k0_ := h0
  obtain ⟨a0_, len0, cap0, rfl⟩ := okWide_slice Try.underlying44 (hval 0 44 v0 rfl rfl)
  obtain ⟨l0, ⟨A0, c0, e0_, hc0, hr0⟩, w0⟩ := Opens.param (Opens.slice 80 Try.underlying44 (by kernel_rfl) (by kernel_rfl) op28) h0 hsz 0 rfl rfl
  have e0' : a0_ = A0 ∧ len0 = l0.length ∧ cap0 = c0 := by simpa [Value.cells] using e0_
  obtain ⟨rfl, rfl, rfl⟩ := e0'
  clear hA0 hval0 hsz0 hsz
  obtain ⟨k, hk⟩ := Pure.FnExactNetOk.holds l0 w0
  refine (laws_FnExactNetOk.calls k _ _ l0 true W hr0 hc0 hk).mono fun e W' ⟨he, bel0⟩ => ?_
  have bel : Below W.heap.size W W' := bel0
  subst he
  exact ⟨_, rfl, _, _, _, [], _, [], hW', trodAll_mk1 (shut_bool Try.underlying4 _), (trodAll_cons_mk (Below.trod laidOut (by kernel_rfl) (of_decide_eq_true (by kernel_rfl)) k0_ bel lt0) trodAll_mk0), rfl, bel.frame _, fun h => by cases h⟩
theorem over : Rows.fnExactNetOkRow.holds Try.pinned (OpenSpec.ofChange Rows.fnExactNetOkSpec) :=
  OpenClaim.holds_of_wide 11 Try.f11 rfl rfl rfl rfl rfl rfl rfl ⟨rfl, rfl, rfl, rfl, rfl⟩ rfl rfl rfl rfl rfl (by kernel_rfl) Try.func11 (by kernel_rfl)
    (of_decide_eq_true (by kernel_rfl)) (by unfold Func.isWrapper; first | (rw [if_pos (by decide +kernel)]; kernel_rfl) | (rw [if_neg (by decide +kernel)]; exact ⟨rfl, rfl⟩))
    (fun os started H enc _ => lifted os started H enc)
theorem proved : Rows.FnExactNetOkSaid := over
#print axioms proved
end Go.Proofs.Ytblfonlminnpmaa.fnExactNetOk
namespace Go.Proofs.Ytblfonlminnpmaa
/-- The row, under a short name, for the claim. -/
theorem fnExactNetOk_holds : Rows.FnExactNetOkSaid := fnExactNetOk.proved
end Go.Proofs.Ytblfonlminnpmaa
