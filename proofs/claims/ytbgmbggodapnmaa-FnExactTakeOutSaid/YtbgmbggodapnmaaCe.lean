/- The row of the law FnExactTakeOut: for every input it answers true; each argument reads as it did. -/
import Derived.Test.YtbgmbggodapnmaaRows
import Derived.Test.YtbgmbggodapnmaaCd
import Derived.WalkKit
import Derived.ProofKit
import Derived.OpenShut
import Derived.ShutString
import Derived.ChangeOld
import Derived.Below
import Derived.SizedLaws
import Derived.Carry
set_option linter.unusedVariables false
set_option linter.unusedSimpArgs false
namespace Go.Proofs.Ytbgmbggodapnmaa.fnExactTakeOut
open Go.X Go.ChangeShapes Go.WideShapes Go.ChangeAt Go.RowKit
open Go.ChangeMaps (open_string shut_string)
set_option linter.unusedVariables false
set_option linter.unusedSimpArgs false
set_option maxRecDepth 100000
theorem own : ownKnob Try.prog.godebug = none := by kernel_rfl
theorem laidOut : laidOutB Try.prog = true := by kernel_rfl
theorem len_in {n B : Nat} (h : n * B ≤ 140737488351232) (hB : 0 < B) : n ≤ 2 ^ 48 := by
  have := Nat.le_mul_of_pos_right n hB
  omega
theorem op_Msg : OpT Try.prog 23 Msg.row (fun x => x.In (2 ^ 48)) :=
  OpT.struct (z := 8) Try.underlying23 (by kernel_rfl) (FT.cons (z := 1) rfl (by kernel_rfl) (OpT.int Try.underlying3) (FT.cons (z := 1) rfl (by kernel_rfl) (OpT.int Try.underlying3) (FT.cons (z := 1) rfl (by kernel_rfl) (OpT.int Try.underlying3) (FT.cons (z := 1) rfl (by kernel_rfl) (OpT.int Try.underlying3) (FT.cons (z := 1) rfl (by kernel_rfl) (OpT.string Try.underlying9) (FT.cons (z := 1) rfl (by kernel_rfl) (OpT.string Try.underlying9) (FT.cons (z := 1) rfl (by kernel_rfl) (OpT.int Try.underlying3) (FT.one (z := 1) rfl (by kernel_rfl) (OpT.int Try.underlying3)))))))))
    (fun x => ⟨x.1, x.2.1, x.2.2.1, x.2.2.2.1, x.2.2.2.2.1, x.2.2.2.2.2.1, x.2.2.2.2.2.2.1, x.2.2.2.2.2.2.2⟩) (fun _ => rfl) (fun x h => ⟨(Nat.le_trans h.2.2.2.2.1 (by decide)), (Nat.le_trans h.2.2.2.2.2.1 (by decide))⟩)
theorem lifted (os : Os) (started : os.Started) (H : Type) (enc : TypeId × Value → H) :
    ReturnsInHanded {} Try.checked os 8 .any (Rows.fnExactTakeOutSpec.pre6 enc Try.prog Try.f8 Rows.fnExactTakeOutRow.domain false) (Rows.fnExactTakeOutSpec.post enc Try.prog Try.f8 false true false false) := by
  refine returnsInHanded_of_change_sized (C := Try.checked) own started (by kernel_rfl) Try.func8
    (ChangeSpec.witness6 (enc := enc) (C := Try.checked) false ⟨#[], #[.slice none 0 0, .int .i64 0], []⟩ 8 (by kernel_rfl) (by kernel_rfl) (by kernel_rfl) (by kernel_rfl)) ?_
  intro W base args ds gs before hval0 hW hcnd hsz0 _
  have hsz : (DataW.weightsEach Try.prog (Try.f8.params.toList ++ Rows.fnExactTakeOutSpec.plain.varTypes Try.prog) (ds ++ gs)).all (· ≤ reachBytes) = true := hsz0
  have hval : ∀ (j : Nat) t v, Try.f8.params[j]? = some t → args[j]? = some v → Value.okWide Try.prog W .any base t v := hval0
  have hW' := hW
  obtain ⟨p, q, hA0, hV, rfl, hfz, hnd⟩ := hW
  have hA : DataW.TrodAll enc Try.prog W 0 (fun _ => true) true Try.f8.params.toList args.toList ds p := hA0
  rw [Try.params8] at hA hval hsz
  obtain ⟨v0, vs0, d0, ds0, p0, q0, hargs, rfl, rfl, h0, r0⟩ := trodAll_cons hA
  obtain ⟨v1, vs1, d1, ds1, p1, q1, rfl, rfl, rfl, h1, r1⟩ := trodAll_cons r0
  obtain ⟨rfl, rfl, rfl⟩ := trodAll_nil r1
  obtain rfl : args = #[v0, v1] := by cases args; simp_all
  obtain ⟨rfl, rfl⟩ := trodVars_none hV
  have lt0 := Go.X.lt_of_trod h0
  have k0_ := h0
  obtain ⟨a0, len0, cap0, rfl⟩ := okWide_slice Try.underlying37 (hval 0 37 v0 rfl rfl)
  obtain ⟨l0, w0, hR0⟩ := OpT.param (OpT.slice 8 80 Try.underlying37 (by kernel_rfl) (by kernel_rfl) op_Msg) h0 hsz 0 rfl rfl
  have lt1 := Go.X.lt_of_trod h1
  have k1_ := h1
  obtain ⟨a1, rfl, rfl, rfl, w1⟩ := open_int Try.underlying3 (hval 1 3 v1 rfl rfl) h1
  clear hA0 hval0 hsz0 hsz
  refine (asked (t_l_FnExactTakeOut l0 a1 ⟨len_in w0.1 (by decide), fun y hy => (w0.2 y hy)⟩) (args := #[Value.slice a0 len0 cap0, Value.int .i64 a1]) (w := W) ⟨hR0.2 0 _ _ rfl rfl, ⟨.pv rfl, trivial⟩⟩).mono fun e W' ⟨he, bel⟩ => ?_
  subst he
  exact ⟨_, rfl, _, _, _, [], _, [], hW', trodAll_mk1 (shut_bool Try.underlying4 _), (trodAll_cons_mk (Below.trod laidOut (by kernel_rfl) (of_decide_eq_true (by kernel_rfl)) k0_ bel lt0) (trodAll_cons_mk (Below.trod laidOut (by kernel_rfl) (of_decide_eq_true (by kernel_rfl)) k1_ bel lt1) trodAll_mk0)), rfl, bel.frame _, fun h => by cases h⟩
theorem over : Rows.fnExactTakeOutRow.holds Try.pinned (OpenSpec.ofChange Rows.fnExactTakeOutSpec) :=
  OpenClaim.holds_of_wide 8 Try.f8 rfl rfl rfl rfl rfl rfl rfl ⟨rfl, rfl, rfl, rfl, rfl⟩ rfl rfl rfl rfl rfl (by kernel_rfl) Try.func8 (by kernel_rfl)
    (of_decide_eq_true (by kernel_rfl)) (by unfold Func.isWrapper; first | (rw [if_pos (by decide +kernel)]; kernel_rfl) | (rw [if_neg (by decide +kernel)]; exact ⟨rfl, rfl⟩))
    (fun os started H enc _ => lifted os started H enc)
theorem proved : Rows.FnExactTakeOutSaid := over
#print axioms proved
end Go.Proofs.Ytbgmbggodapnmaa.fnExactTakeOut
namespace Go.Proofs.Ytbgmbggodapnmaa
/-- The row, under a short name, for the claim. -/
theorem fnExactTakeOut_holds : Rows.FnExactTakeOutSaid := fnExactTakeOut.proved
end Go.Proofs.Ytbgmbggodapnmaa

