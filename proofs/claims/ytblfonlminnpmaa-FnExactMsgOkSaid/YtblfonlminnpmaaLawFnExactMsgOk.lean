/- The row of the law loop.example/g00475/laws.FnExactMsgOk: for every input it answers true; each argument reads as it did. Written by a program of mine (row.py). -/
import Derived.Test.YtblfonlminnpmaaRows
import Derived.Test.YtblfonlminnpmaaPFnExactMsgOkx1
import Derived.Test.YtblfonlminnpmaaPureFnExactMsgOk
import Derived.Test.YtblfonlminnpmaaOpen
import Derived.WalkKit
import Derived.ProofKit
import Derived.OpenShut
import Derived.ShutString
import Derived.ChangeOld
import Derived.Below
import Derived.SizedLaws
import Derived.Carry
namespace Go.Proofs.Ytblfonlminnpmaa.fnExactMsgOk
open Go.ChangeShapes Go.WideShapes Go.ChangeAt Go.RowKit Go.Proofs.YtblfonlminnpmaaW.PrintWords Go.Proofs.YtblfonlminnpmaaW.Opn Go.Proofs.Ytblfonlminnpmaa.PFnExactMsgOk Pure.FnExactMsgOk
open Go.ChangeMaps (open_string shut_string)
set_option linter.unusedVariables false
set_option linter.unusedSimpArgs false
set_option maxRecDepth 100000
theorem own : ownKnob Try.prog.godebug = none := by kernel_rfl
theorem laidOut : laidOutB Try.prog = true := by kernel_rfl
def pk28 := (Kd.iso (Kd.pair (Kd.int .i64) (Kd.pair (Kd.int .i64) (Kd.pair (Kd.int .i64) (Kd.pair (Kd.int .i64) (Kd.pair Kd.string (Kd.pair Kd.string (Kd.pair (Kd.int .i64) ((Kd.int .i64))))))))) (fun x => x))
theorem op28 : Opens Try.prog 28 pk28 (fun x => ((Lit.int .i64 x.1).wf = true) ∧ ((Lit.int .i64 x.2.1).wf = true) ∧ ((Lit.int .i64 x.2.2.1).wf = true) ∧ ((Lit.int .i64 x.2.2.2.1).wf = true) ∧ (x.2.2.2.2.1.size ≤ 140737488351232) ∧ (x.2.2.2.2.2.1.size ≤ 140737488351232) ∧ ((Lit.int .i64 x.2.2.2.2.2.2.1).wf = true) ∧ ((Lit.int .i64 x.2.2.2.2.2.2.2).wf = true)) := Opens.struct Try.underlying28 (by kernel_rfl) (Fields.cons rfl (by kernel_rfl) (Opens.int Try.underlying3) (Fields.cons rfl (by kernel_rfl) (Opens.int Try.underlying3) (Fields.cons rfl (by kernel_rfl) (Opens.int Try.underlying3) (Fields.cons rfl (by kernel_rfl) (Opens.int Try.underlying3) (Fields.cons rfl (by kernel_rfl) (Opens.string Try.underlying9) (Fields.cons rfl (by kernel_rfl) (Opens.string Try.underlying9) (Fields.cons rfl (by kernel_rfl) (Opens.int Try.underlying3) (Fields.one rfl (by kernel_rfl) (Opens.int Try.underlying3))))))))) (fun x => x) (fun x => x) (fun _ => rfl)
theorem lifted (os : Os) (started : os.Started) (H : Type) (enc : TypeId × Value → H) :
    ReturnsInHanded {} Try.checked os 8 .any (Rows.fnExactMsgOkSpec.pre6 enc Try.prog Try.f8 Rows.fnExactMsgOkRow.domain false) (Rows.fnExactMsgOkSpec.post enc Try.prog Try.f8 false true false false) := by
  refine returnsInHanded_of_change_sized (C := Try.checked) own started (by kernel_rfl) Try.func8
    (ChangeSpec.witness6 (enc := enc) (C := Try.checked) false ⟨#[], #[.agg #[.int .i64 0, .int .i64 0, .int .i64 0, .int .i64 0, .string ByteArray.empty, .string ByteArray.empty, .int .i64 0, .int .i64 0]], []⟩ 8 (by kernel_rfl) (by kernel_rfl) (by kernel_rfl) (by kernel_rfl)) ?_
  intro W base args ds gs before hval0 hW hcnd hsz0 _
  have hsz : (DataW.weightsEach Try.prog (Try.f8.params.toList ++ Rows.fnExactMsgOkSpec.plain.varTypes Try.prog) (ds ++ gs)).all (· ≤ reachBytes) = true := hsz0
  have hval : ∀ (j : Nat) t v, Try.f8.params[j]? = some t → args[j]? = some v → Value.okWide Try.prog W .any base t v := hval0
  have hW' := hW
  obtain ⟨p, q, hA0, hV, rfl, hfz, hnd⟩ := hW
  have hA : DataW.TrodAll enc Try.prog W 0 (fun _ => true) true Try.f8.params.toList args.toList ds p := hA0
  rw [Try.params8] at hA hval hsz
  obtain ⟨v0, vs0, d0, ds0, p0, q0, hargs, rfl, rfl, h0, r0⟩ := trodAll_cons hA
  obtain ⟨rfl, rfl, rfl⟩ := trodAll_nil r0
  obtain rfl : args = #[v0] := by cases args; simp_all
  obtain ⟨rfl, rfl⟩ := trodVars_none hV
  have lt0 := lt_of_trod h0
  have k0_ := h0
  obtain ⟨cs0, rfl, hn0⟩ := okWide_struct Try.underlying28 (hval 0 28 v0 rfl rfl)
  obtain ⟨⟨a0_0, a0_1, a0_2, a0_3, a0_4, a0_5, a0_6, a0_7⟩, ⟨_, _, e0_, rfl, ⟨_, _, rfl, rfl, ⟨_, _, rfl, rfl, ⟨_, _, rfl, rfl, ⟨_, _, rfl, rfl, ⟨_, _, rfl, rfl, ⟨_, _, rfl, rfl, rfl⟩⟩⟩⟩⟩⟩⟩, ⟨w0_0, w0_1, w0_2, w0_3, w0_4, w0_5, w0_6, w0_7⟩⟩ := Opens.param op28 h0 hsz 0 rfl rfl
  obtain rfl : cs0 = #[.int .i64 a0_0, .int .i64 a0_1, .int .i64 a0_2, .int .i64 a0_3, .string a0_4, .string a0_5, .int .i64 a0_6, .int .i64 a0_7] := by apply Array.ext'; simpa [Value.cells] using e0_
  clear hA0 hval0 hsz0 hsz
  have hk := Pure.FnExactMsgOk.holds a0_0 a0_1 a0_2 a0_3 a0_4 a0_5 a0_6 a0_7 w0_0 w0_1 w0_2 w0_3 w0_4 w0_5 w0_6 w0_7
  refine (laws_FnExactMsgOk.calls  a0_0 a0_1 a0_2 a0_3 a0_4 a0_5 a0_6 a0_7 true W  hk).mono fun e W' ⟨he, bel0⟩ => ?_
  have bel : Below W.heap.size W W' := bel0
  subst he
  exact ⟨_, rfl, _, _, _, [], _, [], hW', trodAll_mk1 (shut_bool Try.underlying4 _), (trodAll_cons_mk (Below.trod laidOut (by kernel_rfl) (of_decide_eq_true (by kernel_rfl)) k0_ bel lt0) trodAll_mk0), rfl, bel.frame _, fun h => by cases h⟩
theorem over : Rows.fnExactMsgOkRow.holds Try.pinned (OpenSpec.ofChange Rows.fnExactMsgOkSpec) :=
  OpenClaim.holds_of_wide 8 Try.f8 rfl rfl rfl rfl rfl rfl rfl ⟨rfl, rfl, rfl, rfl, rfl⟩ rfl rfl rfl rfl rfl (by kernel_rfl) Try.func8 (by kernel_rfl)
    (of_decide_eq_true (by kernel_rfl)) (by unfold Func.isWrapper; first | (rw [if_pos (by decide +kernel)]; kernel_rfl) | (rw [if_neg (by decide +kernel)]; exact ⟨rfl, rfl⟩))
    (fun os started H enc _ => lifted os started H enc)
theorem proved : Rows.FnExactMsgOkSaid := over
#print axioms proved
end Go.Proofs.Ytblfonlminnpmaa.fnExactMsgOk
namespace Go.Proofs.Ytblfonlminnpmaa
/-- The row, under a short name, for the claim. -/
theorem fnExactMsgOk_holds : Rows.FnExactMsgOkSaid := fnExactMsgOk.proved
end Go.Proofs.Ytblfonlminnpmaa
