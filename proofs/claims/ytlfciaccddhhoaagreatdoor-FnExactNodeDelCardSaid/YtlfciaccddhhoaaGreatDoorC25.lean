/- The row of the law FnExactNodeDel: for every input it answers true; each argument reads as it did. -/
import Derived.Test.YtlfciaccddhhoaaGreatDoorRows
import Derived.Test.YtlfciaccddhhoaaGreatDoorC24
import Derived.Lib.LaidIn
import Derived.Lib.LaidU8T
import Derived.LaidMore
import Derived.PinnedBridge
import Derived.SevenTiedAt
import Derived.Handed
import Derived.LaidLaws
import Derived.Test.YtlfciaccddhhoaaGreatDoorTie
import Derived.Test.YtlfciaccddhhoaaGreatDoorCards
import Derived.WalkKit
import Derived.ProofKit
import Derived.OpenShut
import Derived.ShutString
import Derived.ChangeOld
import Derived.Below
import Derived.SizedLaws
import Derived.Carry
set_option linter.unusedVariables false
set_option linter.unusedSimpArgs false
namespace Go.Proofs.YtlfciaccddhhoaaGreatDoor.fnExactNodeDel
open Go.X Go.ChangeShapes Go.WideShapes Go.ChangeAt Go.RowKit Go.Lib Go.Shelf
open Go.ChangeMaps (open_string shut_string)
set_option linter.unusedVariables false
set_option linter.unusedSimpArgs false
set_option maxRecDepth 100000
theorem own : ownKnob Tryz.prog.godebug = none := by kernel_rfl
theorem laidOut : laidOutB Tryz.prog = true := by kernel_rfl
theorem len_in {n B : Nat} (h : n * B ≤ 140737488351232) (hB : 0 < B) : n ≤ 2 ^ 48 := by
  have := Nat.le_mul_of_pos_right n hB
  omega
theorem op_Wr : OpT Tryz.prog 174 (WrV.enc false) (fun x => x.In (2 ^ 48)) :=
  OpT.struct (z := 2) Tryz.underlying174 (by kernel_rfl) (FT.cons (z := 1) rfl (by kernel_rfl) (OpT.int Tryz.underlying3) (FT.one (z := 1) rfl (by kernel_rfl) (OpT.slice 1 1 Tryz.underlying34 (by kernel_rfl) (by kernel_rfl) (OpT.byte Tryz.underlying5))))
    (fun x => ⟨x.1, x.2⟩) (fun _ => rfl) (fun x h => (len_in h.2.1 (by decide)))
theorem op_Dev : OpT Tryz.prog 25 (DevV.enc false) (fun x => x.In (2 ^ 48)) :=
  OpT.struct (z := 4) Tryz.underlying25 (by kernel_rfl) (FT.cons (z := 1) rfl (by kernel_rfl) (OpT.slice 1 24 Tryz.underlying22 (by kernel_rfl) (by kernel_rfl) (OpT.slice 1 1 Tryz.underlying34 (by kernel_rfl) (by kernel_rfl) (OpT.byte Tryz.underlying5))) (FT.cons (z := 1) rfl (by kernel_rfl) (OpT.slice 2 32 Tryz.underlying23 (by kernel_rfl) (by kernel_rfl) op_Wr) (FT.cons (z := 1) rfl (by kernel_rfl) (OpT.int Tryz.underlying3) (FT.one (z := 1) rfl (by kernel_rfl) (OpT.bool Tryz.underlying4)))))
    (fun x => ⟨x.1, x.2.1, x.2.2.1, x.2.2.2⟩) (fun _ => rfl) (fun x h => ⟨⟨len_in h.1.1 (by decide), fun y17 hy17 => (len_in (h.1.2 y17 hy17).1 (by decide))⟩, ⟨len_in h.2.1.1 (by decide), fun y19 hy19 => (h.2.1.2 y19 hy19)⟩⟩)
theorem op_Cell : OpT Tryz.prog 176 (CellV.enc false) (fun x => x.In (2 ^ 48)) :=
  OpT.struct (z := 2) Tryz.underlying176 (by kernel_rfl) (FT.cons (z := 1) rfl (by kernel_rfl) (OpT.int Tryz.underlying3) (FT.one (z := 1) rfl (by kernel_rfl) (OpT.slice 1 1 Tryz.underlying34 (by kernel_rfl) (by kernel_rfl) (OpT.byte Tryz.underlying5))))
    (fun x => ⟨x.1, x.2⟩) (fun _ => rfl) (fun x h => (len_in h.2.1 (by decide)))
theorem op_Row : OpT Tryz.prog 178 (RowV.enc false) (fun x => x.In (2 ^ 48)) :=
  OpT.struct (z := 7) Tryz.underlying178 (by kernel_rfl) (FT.cons (z := 1) rfl (by kernel_rfl) (OpT.string Tryz.underlying9) (FT.cons (z := 2) rfl (by kernel_rfl) op_Cell (FT.cons (z := 2) rfl (by kernel_rfl) op_Cell (FT.cons (z := 1) rfl (by kernel_rfl) (OpT.int Tryz.underlying3) (FT.one (z := 1) rfl (by kernel_rfl) (OpT.bool Tryz.underlying4))))))
    (fun x => ⟨x.1, x.2.1, x.2.2.1, x.2.2.2.1, x.2.2.2.2⟩) (fun _ => rfl) (fun x h => ⟨(Nat.le_trans h.1 (by decide)), h.2.1, h.2.2.1⟩)
theorem op_Mark : OpT Tryz.prog 188 MarkV.row (fun x => True) :=
  OpT.struct (z := 3) Tryz.underlying188 (by kernel_rfl) (FT.cons (z := 1) rfl (by kernel_rfl) (OpT.int Tryz.underlying3) (FT.cons (z := 1) rfl (by kernel_rfl) (OpT.int Tryz.underlying3) (FT.one (z := 1) rfl (by kernel_rfl) (OpT.int Tryz.underlying3))))
    (fun x => ⟨x.1, x.2.1, x.2.2⟩) (fun _ => rfl) (fun x h => trivial)
theorem op_Tab : OpT Tryz.prog 29 (TabV.enc false) (fun x => x.In (2 ^ 48)) :=
  OpT.struct (z := 3) Tryz.underlying29 (by kernel_rfl) (FT.cons (z := 1) rfl (by kernel_rfl) (OpT.slice 7 96 Tryz.underlying26 (by kernel_rfl) (by kernel_rfl) op_Row) (FT.cons (z := 1) rfl (by kernel_rfl) (OpT.int Tryz.underlying3) (FT.one (z := 1) rfl (by kernel_rfl) (OpT.slice 3 24 Tryz.underlying27 (by kernel_rfl) (by kernel_rfl) op_Mark))))
    (fun x => ⟨x.1, x.2.1, x.2.2⟩) (fun _ => rfl) (fun x h => ⟨⟨len_in h.1.1 (by decide), fun y21 hy21 => (h.1.2 y21 hy21)⟩, (len_in h.2.2.1 (by decide))⟩)
theorem op_Store : OpT Tryz.prog 31 (StoreV.enc false) (fun x => x.In (2 ^ 48)) :=
  OpT.struct (z := 9) Tryz.underlying31 (by kernel_rfl) (FT.cons (z := 4) rfl (by kernel_rfl) op_Dev (FT.cons (z := 3) rfl (by kernel_rfl) op_Tab (FT.cons (z := 1) rfl (by kernel_rfl) (OpT.int Tryz.underlying3) (FT.one (z := 1) rfl (by kernel_rfl) (OpT.int Tryz.underlying3)))))
    (fun x => ⟨x.1, x.2.1, x.2.2.1, x.2.2.2⟩) (fun _ => rfl) (fun x h => ⟨h.1, h.2.1⟩)
theorem op_Node : OpT Tryz.prog 33 (NodeV.enc false) (fun x => x.In (2 ^ 48)) :=
  OpT.struct (z := 10) Tryz.underlying33 (by kernel_rfl) (FT.cons (z := 9) rfl (by kernel_rfl) op_Store (FT.one (z := 1) rfl (by kernel_rfl) (OpT.int Tryz.underlying3)))
    (fun x => ⟨x.1, x.2⟩) (fun _ => rfl) (fun x h => h.1)
noncomputable def laidWorld (os : Os) : World :=
  let w0 := World.holding Tryz.prog os ⟨#[], #[], []⟩
  let put (h : Array Obj) (g : Nat) (cs : Array Value) : Array Obj := h.modify g fun
    | .cells _ t frozen => .cells cs t frozen
    | o => o
  let h1 := put w0.heap 0 (Lib.firstTab.map fun z => Value.int .u8 z).toArray
  let h2 := put h1 1 ((List.range 16).flatMap fun i => [Value.int .u8 (Lib.accLo i), Value.int .u8 (Lib.accHi i)]).toArray
  { w0 with heap := h2 }
theorem laid_met (os : Os) (args : Array Value) : laidMet Tryz.prog Rows.fnExactNodeDelRow.laid ((laidWorld os).forCall (fun _ _ => 0) ⟨#[], args, []⟩).memory :=
  (LaidIn.of_run (l := Rows.fnExactNodeDelRow.laid) [0, 1] 8 (by kernel_rfl) (by kernel_rfl) (by kernel_rfl) (by kernel_rfl)).met
theorem laid_metH (os : Os) (args : Array Value) : laidMetH Tryz.prog Rows.fnExactNodeDelRow.laid ((laidWorld os).forCall (fun _ _ => 0) ⟨#[], args, []⟩).memory := laid_met os args
def renU : Go.Shelf.Ren := ⟨fun _ => 0, fun n => if n = 5 then 5 else if n = 119 then 210 else if n = 138 then 212 else if n = 139 then 213 else 0, fun n => if n = 3 then 0 else 1⟩
theorem typesU : U8Types Tryz.prog renU := ⟨by kernel_rfl, by kernel_rfl, by kernel_rfl, by kernel_rfl⟩
theorem extraU : U8Extra Tryz.prog renU := ⟨by kernel_rfl, by kernel_rfl, by kernel_rfl, by kernel_rfl, by kernel_rfl, by kernel_rfl, by kernel_rfl⟩
theorem firstE : Rows.laid_unicode_utf8_first = Lib.firstData := Pinned.utf8First_eq
theorem acceptE : (Rows.laid_unicode_utf8_acceptRanges : DataW Unit) = Lib.acceptData := by kernel_rfl
theorem old_of_cell {W : World} {b o : Nat} {v : Value} (h : W.cell? ⟨b, o, none⟩ = some v) : Old W b := by
  show b < W.heap.size
  refine Nat.lt_of_not_le fun hn => ?_
  have e : W.heap[b]? = none := Array.getElem?_eq_none hn
  simp [World.cell?, e] at h
theorem kept {W : World} (hL : laidMetH Tryz.prog Rows.fnExactNodeDelRow.laid W) : (keptU 0 1).ok (Old W) W := by
  have hL' : laidMet Tryz.prog Rows.fnExactNodeDelRow.laid W := hL
  have t : Lib.Utf8Tabs 0 1 W := utf8Tabs_of_readsT typesU extraU (firstE ▸ Lib.laidMet.reads hL' (n := "unicode/utf8.first") (by simp [Rows.fnExactNodeDelRow])) (acceptE ▸ Lib.laidMet.reads hL' (n := "unicode/utf8.acceptRanges") (by simp [Rows.fnExactNodeDelRow]))
  exact ⟨old_of_cell (t.1 0 (by decide)), old_of_cell (t.2 0 (by decide)).1, t⟩
theorem lifted (os : Os) (started : os.Started) (H : Type) (enc : TypeId × Value → H) :
    ReturnsInHanded {} Tryz.checked os 5 .any (fun w args => (Rows.fnExactNodeDelSpec.pre enc Tryz.prog Tryz.f5 [] false w args ∧ laidMetH Tryz.prog Rows.fnExactNodeDelRow.laid w) ∧ sizedMet enc Tryz.prog Tryz.f5 (OpenSpec.ofChange Rows.fnExactNodeDelSpec) false w args) (Rows.fnExactNodeDelSpec.post enc Tryz.prog Tryz.f5 false true false false) := by
  refine returnsInHanded_of_change_and (C := Tryz.checked) (X := fun w _ => laidMetH Tryz.prog Rows.fnExactNodeDelRow.laid w) (fun _ _ _ hh h => h.of_heap hh) own started (by kernel_rfl) Tryz.func5
    (ChangeSpec.witness_shaped (enc := enc) (C := Tryz.checked) (os := os) (X := fun w _ => laidMetH Tryz.prog Rows.fnExactNodeDelRow.laid w) false (laidWorld os) #[.agg #[.slice none 0 0, .slice none 0 0, .int .i64 0, .bool false, .slice none 0 0, .int .i64 0, .slice none 0 0, .int .i64 0, .int .i64 0, .int .i64 0], .int .i64 0, .int .i64 0, .string ByteArray.empty] 8 rfl (World.shaped_of_RefB (by kernel_rfl) (by kernel_rfl)) (by kernel_rfl) (by kernel_rfl) (by kernel_rfl) (laid_metH os _)) ?_
  intro W base args ds gs before hval0 hW hcnd hsz0 hL _
  have hsz : (DataW.weightsEach Tryz.prog (Tryz.f5.params.toList ++ Rows.fnExactNodeDelSpec.plain.varTypes Tryz.prog) (ds ++ gs)).all (· ≤ reachBytes) = true := hsz0
  have hval : ∀ (j : Nat) t v, Tryz.f5.params[j]? = some t → args[j]? = some v → Value.okWide Tryz.prog W .any base t v := hval0
  have hW' := hW
  obtain ⟨p, q, hA0, hV, rfl, hfz, hnd⟩ := hW
  have hA : DataW.TrodAll enc Tryz.prog W 0 (fun _ => true) true Tryz.f5.params.toList args.toList ds p := hA0
  rw [Tryz.params5] at hA hval hsz
  obtain ⟨v0, vs0, d0, ds0, p0, q0, hargs, rfl, rfl, h0, r0⟩ := trodAll_cons hA
  obtain ⟨v1, vs1, d1, ds1, p1, q1, rfl, rfl, rfl, h1, r1⟩ := trodAll_cons r0
  obtain ⟨v2, vs2, d2, ds2, p2, q2, rfl, rfl, rfl, h2, r2⟩ := trodAll_cons r1
  obtain ⟨v3, vs3, d3, ds3, p3, q3, rfl, rfl, rfl, h3, r3⟩ := trodAll_cons r2
  obtain ⟨rfl, rfl, rfl⟩ := trodAll_nil r3
  obtain rfl : args = #[v0, v1, v2, v3] := by cases args; simp_all
  obtain ⟨rfl, rfl⟩ := trodVars_none hV
  have lt0 := Go.X.lt_of_trod h0
  have k0_ := h0
  obtain ⟨cs0, rfl, hn0⟩ := okWide_struct Tryz.underlying33 (hval 0 33 v0 rfl rfl)
  obtain ⟨l0, w0, hR0⟩ := OpT.param op_Node h0 hsz 0 rfl rfl
  have lt1 := Go.X.lt_of_trod h1
  have k1_ := h1
  obtain ⟨a1, rfl, rfl, rfl, w1⟩ := open_int Tryz.underlying3 (hval 1 3 v1 rfl rfl) h1
  have lt2 := Go.X.lt_of_trod h2
  have k2_ := h2
  obtain ⟨a2, rfl, rfl, rfl, w2⟩ := open_int Tryz.underlying3 (hval 2 3 v2 rfl rfl) h2
  have lt3 := Go.X.lt_of_trod h3
  have k3_ := h3
  obtain ⟨a3, rfl, rfl, rfl, y3⟩ := open_string Tryz.underlying9 (hval 3 9 v3 rfl rfl) h3
  have w3 : a3.size ≤ 140737488351232 := by
    have z := sized_string hsz (j := 3) (t := 9) rfl rfl
    rw [Array.length_toList] at z
    exact z
  clear hA0 hval0 hsz0 hsz
  refine (asked (t_l_FnExactNodeDel l0 a1 a2 a3 w0 (Nat.le_trans w3 (by decide))) (args := #[Value.agg cs0, Value.int .i64 a1, Value.int .i64 a2, Value.string a3]) (w := W) ⟨⟨cs0.toList, by simp, hR0⟩, ⟨.pv rfl, ⟨.pv rfl, ⟨.pv rfl, trivial⟩⟩⟩⟩ (kept hL)).mono fun e W' ⟨he, bel⟩ => ?_
  subst he
  exact ⟨_, rfl, _, _, _, [], _, [], hW', trodAll_mk1 (shut_bool Tryz.underlying4 _), (trodAll_cons_mk (Below.trod laidOut (by kernel_rfl) (of_decide_eq_true (by kernel_rfl)) k0_ bel lt0) (trodAll_cons_mk (Below.trod laidOut (by kernel_rfl) (of_decide_eq_true (by kernel_rfl)) k1_ bel lt1) (trodAll_cons_mk (Below.trod laidOut (by kernel_rfl) (of_decide_eq_true (by kernel_rfl)) k2_ bel lt2) (trodAll_cons_mk (Below.trod laidOut (by kernel_rfl) (of_decide_eq_true (by kernel_rfl)) k3_ bel lt3) trodAll_mk0)))), rfl, bel.frame _, fun h => by cases h⟩
theorem over : Rows.fnExactNodeDelRow.holds Tryz.pinned (OpenSpec.ofChange Rows.fnExactNodeDelSpec) :=
  OpenClaim.holds_of_wide 5 Tryz.f5 rfl rfl rfl rfl rfl rfl rfl ⟨rfl, rfl, rfl, rfl, rfl⟩ rfl rfl rfl rfl rfl (by kernel_rfl) Tryz.func5 (by kernel_rfl)
    (of_decide_eq_true (by kernel_rfl)) (by unfold Func.isWrapper; first | (rw [if_pos (by decide +kernel)]; kernel_rfl) | (rw [if_neg (by decide +kernel)]; exact ⟨rfl, rfl⟩))
    (fun os started H enc _ => lifted os started H enc)
theorem proved : Rows.FnExactNodeDelCardSaid :=
  Claim7.holds_tied_plain_at .later [] [.data, .pinned] true (true, "b3b594909e55716b480d55218aa457eb1f62f3c826dfe098122779ea40fc71f3") false
    over (fun _ h => by cases h) (by kernel_rfl) (fun _ h => by cases h) fnExactNodeDel_row_tie rfl ⟨rfl, rfl⟩ (by kernel_rfl) rfl
    (fun f fn hf hfn => by
      obtain rfl : f = 5 := Option.some.inj ((show Tryz.prog.funcNamed "loop.example/g00475/laws.FnExactNodeDel" = some 5 by kernel_rfl).symm.trans hf) |>.symm
      obtain rfl : fn = Tryz.f5 := (Option.some.inj (Tryz.func5.symm.trans hfn)).symm
      exact ⟨by kernel_rfl, fun j t ht => by
        rw [Tryz.params5] at ht
        have hm : t ∈ [33, 3, 3, 9] := by simpa using Array.mem_of_getElem? ht
        have hall : ([33, 3, 3, 9].all fun u => !Tryz.prog.wantsStandIn u) = true := by kernel_rfl
        exact (show Tryz.prog.wantsStandIn t = false by simpa using List.all_eq_true.1 hall t hm)⟩)
    (by kernel_rfl)
#print axioms proved
end Go.Proofs.YtlfciaccddhhoaaGreatDoor.fnExactNodeDel
namespace Go.Proofs.YtlfciaccddhhoaaGreatDoor
/-- The card, under a short name, for the claim. -/
theorem fnExactNodeDelCard_holds : Rows.FnExactNodeDelCardSaid := fnExactNodeDel.proved
end Go.Proofs.YtlfciaccddhhoaaGreatDoor

