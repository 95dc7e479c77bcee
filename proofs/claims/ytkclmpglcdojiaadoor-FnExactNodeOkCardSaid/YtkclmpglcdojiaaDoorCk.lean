/- The row of the law FnExactNodeOk: for every input it answers true; each argument reads as it did. -/
import Derived.Test.YtkclmpglcdojiaaDoorRows
import Derived.Test.YtkclmpglcdojiaaDoorCj
import Derived.Lib.LaidIn
import Derived.Lib.LaidU8T
import Derived.LaidMore
import Derived.PinnedBridge
import Derived.SevenTiedAt
import Derived.Handed
import Derived.LaidLaws
import Derived.Test.YtkclmpglcdojiaaDoorTie
import Derived.Test.YtkclmpglcdojiaaDoorCards
import Derived.WalkKit
import Derived.ProofKit
import Derived.OpenShut
import Derived.ShutString
import Derived.ChangeOld
import Derived.Below
import Derived.SizedLaws
import Derived.Carry
set_option linter.unusedVariables false
set_option linter.unusedSimpArgs false
namespace Go.Proofs.YtkclmpglcdojiaaDoor.fnExactNodeOk
open Go.X Go.ChangeShapes Go.WideShapes Go.ChangeAt Go.RowKit Go.Lib Go.Shelf
open Go.ChangeMaps (open_string shut_string)
set_option linter.unusedVariables false
set_option linter.unusedSimpArgs false
set_option maxRecDepth 100000
theorem own : ownKnob Tryd.prog.godebug = none := by kernel_rfl
theorem laidOut : laidOutB Tryd.prog = true := by kernel_rfl
theorem len_in {n B : Nat} (h : n * B ≤ 140737488351232) (hB : 0 < B) : n ≤ 2 ^ 48 := by
  have := Nat.le_mul_of_pos_right n hB
  omega
theorem op_Wr : OpT Tryd.prog 89 (WrV.enc false) (fun x => x.In (2 ^ 48)) :=
  OpT.struct (z := 2) Tryd.underlying89 (by kernel_rfl) (FT.cons (z := 1) rfl (by kernel_rfl) (OpT.int Tryd.underlying3) (FT.one (z := 1) rfl (by kernel_rfl) (OpT.slice 1 1 Tryd.underlying67 (by kernel_rfl) (by kernel_rfl) (OpT.byte Tryd.underlying5))))
    (fun x => ⟨x.1, x.2⟩) (fun _ => rfl) (fun x h => (len_in h.2.1 (by decide)))
theorem op_Dev : OpT Tryd.prog 25 (DevV.enc false) (fun x => x.In (2 ^ 48)) :=
  OpT.struct (z := 4) Tryd.underlying25 (by kernel_rfl) (FT.cons (z := 1) rfl (by kernel_rfl) (OpT.slice 1 24 Tryd.underlying22 (by kernel_rfl) (by kernel_rfl) (OpT.slice 1 1 Tryd.underlying67 (by kernel_rfl) (by kernel_rfl) (OpT.byte Tryd.underlying5))) (FT.cons (z := 1) rfl (by kernel_rfl) (OpT.slice 2 32 Tryd.underlying23 (by kernel_rfl) (by kernel_rfl) op_Wr) (FT.cons (z := 1) rfl (by kernel_rfl) (OpT.int Tryd.underlying3) (FT.one (z := 1) rfl (by kernel_rfl) (OpT.bool Tryd.underlying4)))))
    (fun x => ⟨x.1, x.2.1, x.2.2.1, x.2.2.2⟩) (fun _ => rfl) (fun x h => ⟨⟨len_in h.1.1 (by decide), fun y hy => (len_in (h.1.2 y hy).1 (by decide))⟩, ⟨len_in h.2.1.1 (by decide), fun y hy => (h.2.1.2 y hy)⟩⟩)
theorem op_Cell : OpT Tryd.prog 91 (CellV.enc false) (fun x => x.In (2 ^ 48)) :=
  OpT.struct (z := 2) Tryd.underlying91 (by kernel_rfl) (FT.cons (z := 1) rfl (by kernel_rfl) (OpT.int Tryd.underlying3) (FT.one (z := 1) rfl (by kernel_rfl) (OpT.slice 1 1 Tryd.underlying67 (by kernel_rfl) (by kernel_rfl) (OpT.byte Tryd.underlying5))))
    (fun x => ⟨x.1, x.2⟩) (fun _ => rfl) (fun x h => (len_in h.2.1 (by decide)))
theorem op_Row : OpT Tryd.prog 93 (RowV.enc false) (fun x => x.In (2 ^ 48)) :=
  OpT.struct (z := 7) Tryd.underlying93 (by kernel_rfl) (FT.cons (z := 1) rfl (by kernel_rfl) (OpT.string Tryd.underlying9) (FT.cons (z := 2) rfl (by kernel_rfl) op_Cell (FT.cons (z := 2) rfl (by kernel_rfl) op_Cell (FT.cons (z := 1) rfl (by kernel_rfl) (OpT.int Tryd.underlying3) (FT.one (z := 1) rfl (by kernel_rfl) (OpT.bool Tryd.underlying4))))))
    (fun x => ⟨x.1, x.2.1, x.2.2.1, x.2.2.2.1, x.2.2.2.2⟩) (fun _ => rfl) (fun x h => ⟨(Nat.le_trans h.1 (by decide)), h.2.1, h.2.2.1⟩)
theorem op_Mark : OpT Tryd.prog 103 MarkV.row (fun x => True) :=
  OpT.struct (z := 3) Tryd.underlying103 (by kernel_rfl) (FT.cons (z := 1) rfl (by kernel_rfl) (OpT.int Tryd.underlying3) (FT.cons (z := 1) rfl (by kernel_rfl) (OpT.int Tryd.underlying3) (FT.one (z := 1) rfl (by kernel_rfl) (OpT.int Tryd.underlying3))))
    (fun x => ⟨x.1, x.2.1, x.2.2⟩) (fun _ => rfl) (fun x h => trivial)
theorem op_Tab : OpT Tryd.prog 29 (TabV.enc false) (fun x => x.In (2 ^ 48)) :=
  OpT.struct (z := 3) Tryd.underlying29 (by kernel_rfl) (FT.cons (z := 1) rfl (by kernel_rfl) (OpT.slice 7 96 Tryd.underlying26 (by kernel_rfl) (by kernel_rfl) op_Row) (FT.cons (z := 1) rfl (by kernel_rfl) (OpT.int Tryd.underlying3) (FT.one (z := 1) rfl (by kernel_rfl) (OpT.slice 3 24 Tryd.underlying27 (by kernel_rfl) (by kernel_rfl) op_Mark))))
    (fun x => ⟨x.1, x.2.1, x.2.2⟩) (fun _ => rfl) (fun x h => ⟨⟨len_in h.1.1 (by decide), fun y hy => (h.1.2 y hy)⟩, (len_in h.2.2.1 (by decide))⟩)
theorem op_Store : OpT Tryd.prog 31 (StoreV.enc false) (fun x => x.In (2 ^ 48)) :=
  OpT.struct (z := 9) Tryd.underlying31 (by kernel_rfl) (FT.cons (z := 4) rfl (by kernel_rfl) op_Dev (FT.cons (z := 3) rfl (by kernel_rfl) op_Tab (FT.cons (z := 1) rfl (by kernel_rfl) (OpT.int Tryd.underlying3) (FT.one (z := 1) rfl (by kernel_rfl) (OpT.int Tryd.underlying3)))))
    (fun x => ⟨x.1, x.2.1, x.2.2.1, x.2.2.2⟩) (fun _ => rfl) (fun x h => ⟨h.1, h.2.1⟩)
theorem op_Node : OpT Tryd.prog 33 (NodeV.enc false) (fun x => x.In (2 ^ 48)) :=
  OpT.struct (z := 10) Tryd.underlying33 (by kernel_rfl) (FT.cons (z := 9) rfl (by kernel_rfl) op_Store (FT.one (z := 1) rfl (by kernel_rfl) (OpT.int Tryd.underlying3)))
    (fun x => ⟨x.1, x.2⟩) (fun _ => rfl) (fun x h => h.1)
noncomputable def laidWorld (os : Os) : World :=
  let w0 := World.holding Tryd.prog os ⟨#[], #[], []⟩
  let put (h : Array Obj) (g : Nat) (cs : Array Value) : Array Obj := h.modify g fun
    | .cells _ t frozen => .cells cs t frozen
    | o => o
  let h1 := put w0.heap 0 (Lib.firstTab.map fun z => Value.int .u8 z).toArray
  let h2 := put h1 1 ((List.range 16).flatMap fun i => [Value.int .u8 (Lib.accLo i), Value.int .u8 (Lib.accHi i)]).toArray
  { w0 with heap := h2 }
theorem laid_met (os : Os) (args : Array Value) : laidMet Tryd.prog Rows.fnExactNodeOkRow.laid ((laidWorld os).forCall (fun _ _ => 0) ⟨#[], args, []⟩).memory :=
  (LaidIn.of_run (l := Rows.fnExactNodeOkRow.laid) [0, 1] 8 (by kernel_rfl) (by kernel_rfl) (by kernel_rfl) (by kernel_rfl)).met
theorem laid_metH (os : Os) (args : Array Value) : laidMetH Tryd.prog Rows.fnExactNodeOkRow.laid ((laidWorld os).forCall (fun _ _ => 0) ⟨#[], args, []⟩).memory := laid_met os args
def renU : Go.Shelf.Ren := ⟨fun _ => 0, fun n => if n = 5 then 5 else if n = 119 then 127 else if n = 138 then 129 else if n = 139 then 130 else 0, fun n => if n = 3 then 0 else 1⟩
theorem typesU : U8Types Tryd.prog renU := ⟨by kernel_rfl, by kernel_rfl, by kernel_rfl, by kernel_rfl⟩
theorem extraU : U8Extra Tryd.prog renU := ⟨by kernel_rfl, by kernel_rfl, by kernel_rfl, by kernel_rfl, by kernel_rfl, by kernel_rfl, by kernel_rfl⟩
theorem firstE : Rows.laid_unicode_utf8_first = Lib.firstData := Pinned.utf8First_eq
theorem acceptE : (Rows.laid_unicode_utf8_acceptRanges : DataW Unit) = Lib.acceptData := by kernel_rfl
theorem old_of_cell {W : World} {b o : Nat} {v : Value} (h : W.cell? ⟨b, o, none⟩ = some v) : Old W b := by
  show b < W.heap.size
  refine Nat.lt_of_not_le fun hn => ?_
  have e : W.heap[b]? = none := Array.getElem?_eq_none hn
  simp [World.cell?, e] at h
theorem kept {W : World} (hL : laidMetH Tryd.prog Rows.fnExactNodeOkRow.laid W) : (keptU 0 1).ok (Old W) W := by
  have hL' : laidMet Tryd.prog Rows.fnExactNodeOkRow.laid W := hL
  have t : Lib.Utf8Tabs 0 1 W := utf8Tabs_of_readsT typesU extraU (firstE ▸ Lib.laidMet.reads hL' (n := "unicode/utf8.first") (by simp [Rows.fnExactNodeOkRow])) (acceptE ▸ Lib.laidMet.reads hL' (n := "unicode/utf8.acceptRanges") (by simp [Rows.fnExactNodeOkRow]))
  exact ⟨old_of_cell (t.1 0 (by decide)), old_of_cell (t.2 0 (by decide)).1, t⟩
theorem lifted (os : Os) (started : os.Started) (H : Type) (enc : TypeId × Value → H) :
    ReturnsInHanded {} Tryd.checked os 3 .any (fun w args => (Rows.fnExactNodeOkSpec.pre enc Tryd.prog Tryd.f3 [] false w args ∧ laidMetH Tryd.prog Rows.fnExactNodeOkRow.laid w) ∧ sizedMet enc Tryd.prog Tryd.f3 (OpenSpec.ofChange Rows.fnExactNodeOkSpec) false w args) (Rows.fnExactNodeOkSpec.post enc Tryd.prog Tryd.f3 false true false false) := by
  refine returnsInHanded_of_change_and (C := Tryd.checked) (X := fun w _ => laidMetH Tryd.prog Rows.fnExactNodeOkRow.laid w) (fun _ _ _ hh h => h.of_heap hh) own started (by kernel_rfl) Tryd.func3
    (ChangeSpec.witness_shaped (enc := enc) (C := Tryd.checked) (os := os) (X := fun w _ => laidMetH Tryd.prog Rows.fnExactNodeOkRow.laid w) false (laidWorld os) #[.agg #[.slice none 0 0, .slice none 0 0, .int .i64 0, .bool false, .slice none 0 0, .int .i64 0, .slice none 0 0, .int .i64 0, .int .i64 0, .int .i64 0]] 8 rfl (World.shaped_of_RefB (by kernel_rfl) (by kernel_rfl)) (by kernel_rfl) (by kernel_rfl) (by kernel_rfl) (laid_metH os _)) ?_
  intro W base args ds gs before hval0 hW hcnd hsz0 hL _
  have hsz : (DataW.weightsEach Tryd.prog (Tryd.f3.params.toList ++ Rows.fnExactNodeOkSpec.plain.varTypes Tryd.prog) (ds ++ gs)).all (· ≤ reachBytes) = true := hsz0
  have hval : ∀ (j : Nat) t v, Tryd.f3.params[j]? = some t → args[j]? = some v → Value.okWide Tryd.prog W .any base t v := hval0
  have hW' := hW
  obtain ⟨p, q, hA0, hV, rfl, hfz, hnd⟩ := hW
  have hA : DataW.TrodAll enc Tryd.prog W 0 (fun _ => true) true Tryd.f3.params.toList args.toList ds p := hA0
  rw [Tryd.params3] at hA hval hsz
  obtain ⟨v0, vs0, d0, ds0, p0, q0, hargs, rfl, rfl, h0, r0⟩ := trodAll_cons hA
  obtain ⟨rfl, rfl, rfl⟩ := trodAll_nil r0
  obtain rfl : args = #[v0] := by cases args; simp_all
  obtain ⟨rfl, rfl⟩ := trodVars_none hV
  have lt0 := Go.X.lt_of_trod h0
  have k0_ := h0
  obtain ⟨cs0, rfl, hn0⟩ := okWide_struct Tryd.underlying33 (hval 0 33 v0 rfl rfl)
  obtain ⟨l0, w0, hR0⟩ := OpT.param op_Node h0 hsz 0 rfl rfl
  clear hA0 hval0 hsz0 hsz
  refine (asked (t_l_FnExactNodeOk l0 w0) (args := #[Value.agg cs0]) (w := W) ⟨⟨cs0.toList, by simp, hR0⟩, trivial⟩ (kept hL)).mono fun e W' ⟨he, bel⟩ => ?_
  subst he
  exact ⟨_, rfl, _, _, _, [], _, [], hW', trodAll_mk1 (shut_bool Tryd.underlying4 _), (trodAll_cons_mk (Below.trod laidOut (by kernel_rfl) (of_decide_eq_true (by kernel_rfl)) k0_ bel lt0) trodAll_mk0), rfl, bel.frame _, fun h => by cases h⟩
theorem over : Rows.fnExactNodeOkRow.holds Tryd.pinned (OpenSpec.ofChange Rows.fnExactNodeOkSpec) :=
  OpenClaim.holds_of_wide 3 Tryd.f3 rfl rfl rfl rfl rfl rfl rfl ⟨rfl, rfl, rfl, rfl, rfl⟩ rfl rfl rfl rfl rfl (by kernel_rfl) Tryd.func3 (by kernel_rfl)
    (of_decide_eq_true (by kernel_rfl)) (by unfold Func.isWrapper; first | (rw [if_pos (by decide +kernel)]; kernel_rfl) | (rw [if_neg (by decide +kernel)]; exact ⟨rfl, rfl⟩))
    (fun os started H enc _ => lifted os started H enc)
theorem proved : Rows.FnExactNodeOkCardSaid :=
  Claim7.holds_tied_plain_at .later [] [.data, .pinned] true (true, "c8ada43e7fd55194c7520f197b4e6f0cf067e4b87843e0fc24993f31511d2776") false
    over (fun _ h => by cases h) (by kernel_rfl) (fun _ h => by cases h) fnExactNodeOk_row_tie rfl ⟨rfl, rfl⟩ (by kernel_rfl) rfl
    (fun f fn hf hfn => by
      obtain rfl : f = 3 := Option.some.inj ((show Tryd.prog.funcNamed "loop.example/g00475/laws.FnExactNodeOk" = some 3 by kernel_rfl).symm.trans hf) |>.symm
      obtain rfl : fn = Tryd.f3 := (Option.some.inj (Tryd.func3.symm.trans hfn)).symm
      exact ⟨by kernel_rfl, fun j t ht => by
        rw [Tryd.params3] at ht
        have hm : t ∈ [33] := by simpa using Array.mem_of_getElem? ht
        have hall : ([33].all fun u => !Tryd.prog.wantsStandIn u) = true := by kernel_rfl
        exact (show Tryd.prog.wantsStandIn t = false by simpa using List.all_eq_true.1 hall t hm)⟩)
    (by kernel_rfl)
#print axioms proved
end Go.Proofs.YtkclmpglcdojiaaDoor.fnExactNodeOk
namespace Go.Proofs.YtkclmpglcdojiaaDoor
/-- The card, under a short name, for the claim. -/
theorem fnExactNodeOkCard_holds : Rows.FnExactNodeOkCardSaid := fnExactNodeOk.proved
end Go.Proofs.YtkclmpglcdojiaaDoor

