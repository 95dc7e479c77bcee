/- The row of the law FnExactTold: for every input it answers true; each argument reads as it did. -/
import Derived.Test.YtpkgdepnmdnihaaRows
import Derived.Test.YtpkgdepnmdnihaaCe
import Derived.WalkKit
import Derived.ProofKit
import Derived.OpenShut
import Derived.ShutString
import Derived.ChangeOld
import Derived.Below
import Derived.SizedLaws
import Derived.Carry
set_option linter.unusedVariables false
set_option linter.unusedSimpArgs false
namespace Go.Proofs.Ytpkgdepnmdnihaa.fnExactTold
open Go.X Go.ChangeShapes Go.WideShapes Go.ChangeAt Go.RowKit
open Go.ChangeMaps (open_string shut_string)
set_option linter.unusedVariables false
set_option linter.unusedSimpArgs false
set_option maxRecDepth 100000
theorem own : ownKnob Try.prog.godebug = none := by kernel_rfl
theorem laidOut : laidOutB Try.prog = true := by kernel_rfl
theorem len_in {n B : Nat} (h : n * B ≤ 140737488351232) (hB : 0 < B) : n ≤ 2 ^ 48 := by
  have := Nat.le_mul_of_pos_right n hB
  omega
theorem op_Msg : OpT Try.prog 31 Msg.row (fun x => x.In (2 ^ 48)) :=
  OpT.struct (z := 8) Try.underlying31 (by kernel_rfl) (FT.cons (z := 1) rfl (by kernel_rfl) (OpT.int Try.underlying3) (FT.cons (z := 1) rfl (by kernel_rfl) (OpT.int Try.underlying3) (FT.cons (z := 1) rfl (by kernel_rfl) (OpT.int Try.underlying3) (FT.cons (z := 1) rfl (by kernel_rfl) (OpT.int Try.underlying3) (FT.cons (z := 1) rfl (by kernel_rfl) (OpT.string Try.underlying9) (FT.cons (z := 1) rfl (by kernel_rfl) (OpT.string Try.underlying9) (FT.cons (z := 1) rfl (by kernel_rfl) (OpT.int Try.underlying3) (FT.one (z := 1) rfl (by kernel_rfl) (OpT.int Try.underlying3)))))))))
    (fun x => ⟨x.1, x.2.1, x.2.2.1, x.2.2.2.1, x.2.2.2.2.1, x.2.2.2.2.2.1, x.2.2.2.2.2.2.1, x.2.2.2.2.2.2.2⟩) (fun _ => rfl) (fun x h => ⟨(Nat.le_trans h.2.2.2.2.1 (by decide)), (Nat.le_trans h.2.2.2.2.2.1 (by decide))⟩)
theorem op_Done : OpT Try.prog 107 DoneV.row (fun x => x.In (2 ^ 48)) :=
  OpT.struct (z := 5) Try.underlying107 (by kernel_rfl) (FT.cons (z := 1) rfl (by kernel_rfl) (OpT.int Try.underlying3) (FT.cons (z := 1) rfl (by kernel_rfl) (OpT.int Try.underlying3) (FT.cons (z := 1) rfl (by kernel_rfl) (OpT.string Try.underlying9) (FT.cons (z := 1) rfl (by kernel_rfl) (OpT.string Try.underlying9) (FT.one (z := 1) rfl (by kernel_rfl) (OpT.int Try.underlying3))))))
    (fun x => ⟨x.1, x.2.1, x.2.2.1, x.2.2.2.1, x.2.2.2.2⟩) (fun _ => rfl) (fun x h => ⟨(Nat.le_trans h.2.2.1 (by decide)), (Nat.le_trans h.2.2.2.1 (by decide))⟩)
theorem op_Client : OpT Try.prog 34 (ClientV.enc false) (fun x => x.In (2 ^ 48)) :=
  OpT.struct (z := 12) Try.underlying34 (by kernel_rfl) (FT.cons (z := 1) rfl (by kernel_rfl) (OpT.int Try.underlying3) (FT.cons (z := 1) rfl (by kernel_rfl) (OpT.int Try.underlying3) (FT.cons (z := 1) rfl (by kernel_rfl) (OpT.bool Try.underlying4) (FT.cons (z := 8) rfl (by kernel_rfl) op_Msg (FT.one (z := 1) rfl (by kernel_rfl) (OpT.slice 5 56 Try.underlying32 (by kernel_rfl) (by kernel_rfl) op_Done))))))
    (fun x => ⟨x.1, x.2.1, x.2.2.1, x.2.2.2.1, x.2.2.2.2⟩) (fun _ => rfl) (fun x h => ⟨h.2.2.2.1, ⟨len_in h.2.2.2.2.1 (by decide), fun y hy => (h.2.2.2.2.2 y hy)⟩⟩)
theorem lifted (os : Os) (started : os.Started) (H : Type) (enc : TypeId × Value → H) :
    ReturnsInHanded {} Try.checked os 7 .any (Rows.fnExactToldSpec.pre6 enc Try.prog Try.f7 Rows.fnExactToldRow.domain false) (Rows.fnExactToldSpec.post enc Try.prog Try.f7 false true false false) := by
  refine returnsInHanded_of_change_sized (C := Try.checked) own started (by kernel_rfl) Try.func7
    (ChangeSpec.witness6 (enc := enc) (C := Try.checked) false ⟨#[], #[.agg #[.int .i64 0, .int .i64 0, .bool false, .int .i64 0, .int .i64 0, .int .i64 0, .int .i64 0, .string ByteArray.empty, .string ByteArray.empty, .int .i64 0, .int .i64 0, .slice none 0 0], .agg #[.int .i64 0, .int .i64 0, .int .i64 0, .int .i64 0, .string ByteArray.empty, .string ByteArray.empty, .int .i64 0, .int .i64 0]], []⟩ 8 (by kernel_rfl) (by kernel_rfl) (by kernel_rfl) (by kernel_rfl)) ?_
  intro W base args ds gs before hval0 hW hcnd hsz0 _
  have hsz : (DataW.weightsEach Try.prog (Try.f7.params.toList ++ Rows.fnExactToldSpec.plain.varTypes Try.prog) (ds ++ gs)).all (· ≤ reachBytes) = true := hsz0
  have hval : ∀ (j : Nat) t v, Try.f7.params[j]? = some t → args[j]? = some v → Value.okWide Try.prog W .any base t v := hval0
  have hW' := hW
  obtain ⟨p, q, hA0, hV, rfl, hfz, hnd⟩ := hW
  have hA : DataW.TrodAll enc Try.prog W 0 (fun _ => true) true Try.f7.params.toList args.toList ds p := hA0
  rw [Try.params7] at hA hval hsz
  obtain ⟨v0, vs0, d0, ds0, p0, q0, hargs, rfl, rfl, h0, r0⟩ := trodAll_cons hA
  obtain ⟨v1, vs1, d1, ds1, p1, q1, rfl, rfl, rfl, h1, r1⟩ := trodAll_cons r0
  obtain ⟨rfl, rfl, rfl⟩ := trodAll_nil r1
  obtain rfl : args = #[v0, v1] := by cases args; simp_all
  obtain ⟨rfl, rfl⟩ := trodVars_none hV
  have lt0 := Go.X.lt_of_trod h0
  have k0_ := h0
  obtain ⟨cs0, rfl, hn0⟩ := okWide_struct Try.underlying34 (hval 0 34 v0 rfl rfl)
  obtain ⟨l0, w0, hR0⟩ := OpT.param op_Client h0 hsz 0 rfl rfl
  have lt1 := Go.X.lt_of_trod h1
  have k1_ := h1
  obtain ⟨cs1, rfl, hn1⟩ := okWide_struct Try.underlying31 (hval 1 31 v1 rfl rfl)
  obtain ⟨l1, w1, hR1⟩ := OpT.param op_Msg h1 hsz 1 rfl rfl
  clear hA0 hval0 hsz0 hsz
  refine (asked (t_l_FnExactTold l0 l1 w0 w1) (args := #[Value.agg cs0, Value.agg cs1]) (w := W) ⟨⟨cs0.toList, by simp, hR0⟩, ⟨⟨cs1.toList, by simp, hR1⟩, trivial⟩⟩).mono fun e W' ⟨he, bel⟩ => ?_
  subst he
  exact ⟨_, rfl, _, _, _, [], _, [], hW', trodAll_mk1 (shut_bool Try.underlying4 _), (trodAll_cons_mk (Below.trod laidOut (by kernel_rfl) (of_decide_eq_true (by kernel_rfl)) k0_ bel lt0) (trodAll_cons_mk (Below.trod laidOut (by kernel_rfl) (of_decide_eq_true (by kernel_rfl)) k1_ bel lt1) trodAll_mk0)), rfl, bel.frame _, fun h => by cases h⟩
theorem over : Rows.fnExactToldRow.holds Try.pinned (OpenSpec.ofChange Rows.fnExactToldSpec) :=
  OpenClaim.holds_of_wide 7 Try.f7 rfl rfl rfl rfl rfl rfl rfl ⟨rfl, rfl, rfl, rfl, rfl⟩ rfl rfl rfl rfl rfl (by kernel_rfl) Try.func7 (by kernel_rfl)
    (of_decide_eq_true (by kernel_rfl)) (by unfold Func.isWrapper; first | (rw [if_pos (by decide +kernel)]; kernel_rfl) | (rw [if_neg (by decide +kernel)]; exact ⟨rfl, rfl⟩))
    (fun os started H enc _ => lifted os started H enc)
theorem proved : Rows.FnExactToldSaid := over
#print axioms proved
end Go.Proofs.Ytpkgdepnmdnihaa.fnExactTold
namespace Go.Proofs.Ytpkgdepnmdnihaa
/-- The row, under a short name, for the claim. -/
theorem fnExactTold_holds : Rows.FnExactToldSaid := fnExactTold.proved
end Go.Proofs.Ytpkgdepnmdnihaa

