/- The row of the law FnExactAskFor: for every input it answers true; each argument reads as it did. -/
import Derived.Test.YtpkgdepnmdnihaaRows
import Derived.Test.YtpkgdepnmdnihaaCe
import Derived.WalkKit
import Derived.ProofKit
import Derived.OpenShut
import Derived.ShutString
import Derived.ChangeOld
import Derived.Below
import Derived.SizedLaws
import Derived.Carry
set_option linter.unusedVariables false
set_option linter.unusedSimpArgs false
namespace Go.Proofs.Ytpkgdepnmdnihaa.fnExactAskFor
open Go.X Go.ChangeShapes Go.WideShapes Go.ChangeAt Go.RowKit
open Go.ChangeMaps (open_string shut_string)
set_option linter.unusedVariables false
set_option linter.unusedSimpArgs false
set_option maxRecDepth 100000
theorem own : ownKnob Try.prog.godebug = none := by kernel_rfl
theorem laidOut : laidOutB Try.prog = true := by kernel_rfl
theorem len_in {n B : Nat} (h : n * B ≤ 140737488351232) (hB : 0 < B) : n ≤ 2 ^ 48 := by
  have := Nat.le_mul_of_pos_right n hB
  omega
theorem op_Msg : OpT Try.prog 31 Msg.row (fun x => x.In (2 ^ 48)) :=
  OpT.struct (z := 8) Try.underlying31 (by kernel_rfl) (FT.cons (z := 1) rfl (by kernel_rfl) (OpT.int Try.underlying3) (FT.cons (z := 1) rfl (by kernel_rfl) (OpT.int Try.underlying3) (FT.cons (z := 1) rfl (by kernel_rfl) (OpT.int Try.underlying3) (FT.cons (z := 1) rfl (by kernel_rfl) (OpT.int Try.underlying3) (FT.cons (z := 1) rfl (by kernel_rfl) (OpT.string Try.underlying9) (FT.cons (z := 1) rfl (by kernel_rfl) (OpT.string Try.underlying9) (FT.cons (z := 1) rfl (by kernel_rfl) (OpT.int Try.underlying3) (FT.one (z := 1) rfl (by kernel_rfl) (OpT.int Try.underlying3)))))))))
    (fun x => ⟨x.1, x.2.1, x.2.2.1, x.2.2.2.1, x.2.2.2.2.1, x.2.2.2.2.2.1, x.2.2.2.2.2.2.1, x.2.2.2.2.2.2.2⟩) (fun _ => rfl) (fun x h => ⟨(Nat.le_trans h.2.2.2.2.1 (by decide)), (Nat.le_trans h.2.2.2.2.2.1 (by decide))⟩)
theorem op_Done : OpT Try.prog 107 DoneV.row (fun x => x.In (2 ^ 48)) :=
  OpT.struct (z := 5) Try.underlying107 (by kernel_rfl) (FT.cons (z := 1) rfl (by kernel_rfl) (OpT.int Try.underlying3) (FT.cons (z := 1) rfl (by kernel_rfl) (OpT.int Try.underlying3) (FT.cons (z := 1) rfl (by kernel_rfl) (OpT.string Try.underlying9) (FT.cons (z := 1) rfl (by kernel_rfl) (OpT.string Try.underlying9) (FT.one (z := 1) rfl (by kernel_rfl) (OpT.int Try.underlying3))))))
    (fun x => ⟨x.1, x.2.1, x.2.2.1, x.2.2.2.1, x.2.2.2.2⟩) (fun _ => rfl) (fun x h => ⟨(Nat.le_trans h.2.2.1 (by decide)), (Nat.le_trans h.2.2.2.1 (by decide))⟩)
theorem op_Client : OpT Try.prog 34 (ClientV.enc false) (fun x => x.In (2 ^ 48)) :=
  OpT.struct (z := 12) Try.underlying34 (by kernel_rfl) (FT.cons (z := 1) rfl (by kernel_rfl) (OpT.int Try.underlying3) (FT.cons (z := 1) rfl (by kernel_rfl) (OpT.int Try.underlying3) (FT.cons (z := 1) rfl (by kernel_rfl) (OpT.bool Try.underlying4) (FT.cons (z := 8) rfl (by kernel_rfl) op_Msg (FT.one (z := 1) rfl (by kernel_rfl) (OpT.slice 5 56 Try.underlying32 (by kernel_rfl) (by kernel_rfl) op_Done))))))
    (fun x => ⟨x.1, x.2.1, x.2.2.1, x.2.2.2.1, x.2.2.2.2⟩) (fun _ => rfl) (fun x h => ⟨h.2.2.2.1, ⟨len_in h.2.2.2.2.1 (by decide), fun y hy => (h.2.2.2.2.2 y hy)⟩⟩)
theorem lifted (os : Os) (started : os.Started) (H : Type) (enc : TypeId × Value → H) :
    ReturnsInHanded {} Try.checked os 6 .any (Rows.fnExactAskForSpec.pre6 enc Try.prog Try.f6 Rows.fnExactAskForRow.domain false) (Rows.fnExactAskForSpec.post enc Try.prog Try.f6 false true false false) := by
  refine returnsInHanded_of_change_sized (C := Try.checked) own started (by kernel_rfl) Try.func6
    (ChangeSpec.witness6 (enc := enc) (C := Try.checked) false ⟨#[], #[.agg #[.int .i64 0, .int .i64 0, .bool false, .int .i64 0, .int .i64 0, .int .i64 0, .int .i64 0, .string ByteArray.empty, .string ByteArray.empty, .int .i64 0, .int .i64 0, .slice none 0 0], .int .i64 0, .string ByteArray.empty, .string ByteArray.empty], []⟩ 8 (by kernel_rfl) (by kernel_rfl) (by kernel_rfl) (by kernel_rfl)) ?_
  intro W base args ds gs before hval0 hW hcnd hsz0 _
  have hsz : (DataW.weightsEach Try.prog (Try.f6.params.toList ++ Rows.fnExactAskForSpec.plain.varTypes Try.prog) (ds ++ gs)).all (· ≤ reachBytes) = true := hsz0
  have hval : ∀ (j : Nat) t v, Try.f6.params[j]? = some t → args[j]? = some v → Value.okWide Try.prog W .any base t v := hval0
  have hW' := hW
  obtain ⟨p, q, hA0, hV, rfl, hfz, hnd⟩ := hW
  have hA : DataW.TrodAll enc Try.prog W 0 (fun _ => true) true Try.f6.params.toList args.toList ds p := hA0
  rw [Try.params6] at hA hval hsz
  obtain ⟨v0, vs0, d0, ds0, p0, q0, hargs, rfl, rfl, h0, r0⟩ := trodAll_cons hA
  obtain ⟨v1, vs1, d1, ds1, p1, q1, rfl, rfl, rfl, h1, r1⟩ := trodAll_cons r0
  obtain ⟨v2, vs2, d2, ds2, p2, q2, rfl, rfl, rfl, h2, r2⟩ := trodAll_cons r1
  obtain ⟨v3, vs3, d3, ds3, p3, q3, rfl, rfl, rfl, h3, r3⟩ := trodAll_cons r2
  obtain ⟨rfl, rfl, rfl⟩ := trodAll_nil r3
  obtain rfl : args = #[v0, v1, v2, v3] := by cases args; simp_all
  obtain ⟨rfl, rfl⟩ := trodVars_none hV
  have lt0 := Go.X.lt_of_trod h0
  have k0_ := h0
  obtain ⟨cs0, rfl, hn0⟩ := okWide_struct Try.underlying34 (hval 0 34 v0 rfl rfl)
  obtain ⟨l0, w0, hR0⟩ := OpT.param op_Client h0 hsz 0 rfl rfl
  have lt1 := Go.X.lt_of_trod h1
  have k1_ := h1
  obtain ⟨a1, rfl, rfl, rfl, w1⟩ := open_int Try.underlying3 (hval 1 3 v1 rfl rfl) h1
  have lt2 := Go.X.lt_of_trod h2
  have k2_ := h2
  obtain ⟨a2, rfl, rfl, rfl, y2⟩ := open_string Try.underlying9 (hval 2 9 v2 rfl rfl) h2
  have w2 : a2.size ≤ 140737488351232 := by
    have z := sized_string hsz (j := 2) (t := 9) rfl rfl
    rw [Array.length_toList] at z
    exact z
  have lt3 := Go.X.lt_of_trod h3
  have k3_ := h3
  obtain ⟨a3, rfl, rfl, rfl, y3⟩ := open_string Try.underlying9 (hval 3 9 v3 rfl rfl) h3
  have w3 : a3.size ≤ 140737488351232 := by
    have z := sized_string hsz (j := 3) (t := 9) rfl rfl
    rw [Array.length_toList] at z
    exact z
  clear hA0 hval0 hsz0 hsz
  refine (asked (t_l_FnExactAskFor l0 a1 a2 a3 w0 (Nat.le_trans w2 (by decide)) (Nat.le_trans w3 (by decide))) (args := #[Value.agg cs0, Value.int .i64 a1, Value.string a2, Value.string a3]) (w := W) ⟨⟨cs0.toList, by simp, hR0⟩, ⟨.pv rfl, ⟨.pv rfl, ⟨.pv rfl, trivial⟩⟩⟩⟩).mono fun e W' ⟨he, bel⟩ => ?_
  subst he
  exact ⟨_, rfl, _, _, _, [], _, [], hW', trodAll_mk1 (shut_bool Try.underlying4 _), (trodAll_cons_mk (Below.trod laidOut (by kernel_rfl) (of_decide_eq_true (by kernel_rfl)) k0_ bel lt0) (trodAll_cons_mk (Below.trod laidOut (by kernel_rfl) (of_decide_eq_true (by kernel_rfl)) k1_ bel lt1) (trodAll_cons_mk (Below.trod laidOut (by kernel_rfl) (of_decide_eq_true (by kernel_rfl)) k2_ bel lt2) (trodAll_cons_mk (Below.trod laidOut (by kernel_rfl) (of_decide_eq_true (by kernel_rfl)) k3_ bel lt3) trodAll_mk0)))), rfl, bel.frame _, fun h => by cases h⟩
theorem over : Rows.fnExactAskForRow.holds Try.pinned (OpenSpec.ofChange Rows.fnExactAskForSpec) :=
  OpenClaim.holds_of_wide 6 Try.f6 rfl rfl rfl rfl rfl rfl rfl ⟨rfl, rfl, rfl, rfl, rfl⟩ rfl rfl rfl rfl rfl (by kernel_rfl) Try.func6 (by kernel_rfl)
    (of_decide_eq_true (by kernel_rfl)) (by unfold Func.isWrapper; first | (rw [if_pos (by decide +kernel)]; kernel_rfl) | (rw [if_neg (by decide +kernel)]; exact ⟨rfl, rfl⟩))
    (fun os started H enc _ => lifted os started H enc)
theorem proved : Rows.FnExactAskForSaid := over
#print axioms proved
end Go.Proofs.Ytpkgdepnmdnihaa.fnExactAskFor
namespace Go.Proofs.Ytpkgdepnmdnihaa
/-- The row, under a short name, for the claim. -/
theorem fnExactAskFor_holds : Rows.FnExactAskForSaid := fnExactAskFor.proved
end Go.Proofs.Ytpkgdepnmdnihaa

