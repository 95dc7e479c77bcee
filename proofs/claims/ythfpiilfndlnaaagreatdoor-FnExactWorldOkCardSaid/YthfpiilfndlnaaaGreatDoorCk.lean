/- The row of the law FnExactWorldOk: for every input it answers true; each argument reads as it did. -/
import Derived.Test.YthfpiilfndlnaaaGreatDoorRows
import Derived.Test.YthfpiilfndlnaaaGreatDoorCj
import Derived.Lib.LaidIn
import Derived.Lib.LaidU8T
import Derived.LaidMore
import Derived.PinnedBridge
import Derived.SevenTiedAt
import Derived.Handed
import Derived.LaidLaws
import Derived.Test.YthfpiilfndlnaaaGreatDoorTie
import Derived.Test.YthfpiilfndlnaaaGreatDoorCards
import Derived.WalkKit
import Derived.ProofKit
import Derived.OpenShut
import Derived.ShutString
import Derived.ChangeOld
import Derived.Below
import Derived.SizedLaws
import Derived.Carry
set_option linter.unusedVariables false
set_option linter.unusedSimpArgs false
namespace Go.Proofs.YthfpiilfndlnaaaGreatDoor.fnExactWorldOk
open Go.X Go.ChangeShapes Go.WideShapes Go.ChangeAt Go.RowKit Go.Lib Go.Shelf
open Go.ChangeMaps (open_string shut_string)
set_option linter.unusedVariables false
set_option linter.unusedSimpArgs false
set_option maxRecDepth 100000
theorem own : ownKnob Tryz.prog.godebug = none := by kernel_rfl
theorem laidOut : laidOutB Tryz.prog = true := by kernel_rfl
theorem len_in {n B : Nat} (h : n * B ≤ 140737488351232) (hB : 0 < B) : n ≤ 2 ^ 48 := by
  have := Nat.le_mul_of_pos_right n hB
  omega
theorem op_Lead : OpT Tryz.prog 57 (Lead.enc false) (fun x => x.In (2 ^ 48)) :=
  OpT.struct (z := 4) Tryz.underlying57 (by kernel_rfl) (FT.cons (z := 1) rfl (by kernel_rfl) (OpT.int Tryz.underlying3) (FT.cons (z := 1) rfl (by kernel_rfl) (OpT.slice 1 1 Tryz.underlying54 (by kernel_rfl) (by kernel_rfl) (OpT.bool Tryz.underlying4)) (FT.cons (z := 1) rfl (by kernel_rfl) (OpT.slice 1 1 Tryz.underlying54 (by kernel_rfl) (by kernel_rfl) (OpT.bool Tryz.underlying4)) (FT.one (z := 1) rfl (by kernel_rfl) (OpT.slice 1 16 Tryz.underlying55 (by kernel_rfl) (by kernel_rfl) (OpT.string Tryz.underlying9))))))
    (fun x => ⟨x.1, x.2.1, x.2.2.1, x.2.2.2⟩) (fun _ => rfl) (fun x h => ⟨(len_in h.2.1.1 (by decide)), (len_in h.2.2.1.1 (by decide)), ⟨len_in h.2.2.2.1 (by decide), fun y3 hy3 => (Nat.le_trans (h.2.2.2.2 y3 hy3) (by decide))⟩⟩)
theorem op_Wr : OpT Tryz.prog 204 (WrV.enc false) (fun x => x.In (2 ^ 48)) :=
  OpT.struct (z := 2) Tryz.underlying204 (by kernel_rfl) (FT.cons (z := 1) rfl (by kernel_rfl) (OpT.int Tryz.underlying3) (FT.one (z := 1) rfl (by kernel_rfl) (OpT.slice 1 1 Tryz.underlying83 (by kernel_rfl) (by kernel_rfl) (OpT.byte Tryz.underlying5))))
    (fun x => ⟨x.1, x.2⟩) (fun _ => rfl) (fun x h => (len_in h.2.1 (by decide)))
theorem op_Dev : OpT Tryz.prog 25 (DevV.enc false) (fun x => x.In (2 ^ 48)) :=
  OpT.struct (z := 4) Tryz.underlying25 (by kernel_rfl) (FT.cons (z := 1) rfl (by kernel_rfl) (OpT.slice 1 24 Tryz.underlying22 (by kernel_rfl) (by kernel_rfl) (OpT.slice 1 1 Tryz.underlying83 (by kernel_rfl) (by kernel_rfl) (OpT.byte Tryz.underlying5))) (FT.cons (z := 1) rfl (by kernel_rfl) (OpT.slice 2 32 Tryz.underlying23 (by kernel_rfl) (by kernel_rfl) op_Wr) (FT.cons (z := 1) rfl (by kernel_rfl) (OpT.int Tryz.underlying3) (FT.one (z := 1) rfl (by kernel_rfl) (OpT.bool Tryz.underlying4)))))
    (fun x => ⟨x.1, x.2.1, x.2.2.1, x.2.2.2⟩) (fun _ => rfl) (fun x h => ⟨⟨len_in h.1.1 (by decide), fun y5 hy5 => (len_in (h.1.2 y5 hy5).1 (by decide))⟩, ⟨len_in h.2.1.1 (by decide), fun y7 hy7 => (h.2.1.2 y7 hy7)⟩⟩)
theorem op_Cell : OpT Tryz.prog 206 (CellV.enc false) (fun x => x.In (2 ^ 48)) :=
  OpT.struct (z := 2) Tryz.underlying206 (by kernel_rfl) (FT.cons (z := 1) rfl (by kernel_rfl) (OpT.int Tryz.underlying3) (FT.one (z := 1) rfl (by kernel_rfl) (OpT.slice 1 1 Tryz.underlying83 (by kernel_rfl) (by kernel_rfl) (OpT.byte Tryz.underlying5))))
    (fun x => ⟨x.1, x.2⟩) (fun _ => rfl) (fun x h => (len_in h.2.1 (by decide)))
theorem op_Row : OpT Tryz.prog 208 (RowV.enc false) (fun x => x.In (2 ^ 48)) :=
  OpT.struct (z := 7) Tryz.underlying208 (by kernel_rfl) (FT.cons (z := 1) rfl (by kernel_rfl) (OpT.string Tryz.underlying9) (FT.cons (z := 2) rfl (by kernel_rfl) op_Cell (FT.cons (z := 2) rfl (by kernel_rfl) op_Cell (FT.cons (z := 1) rfl (by kernel_rfl) (OpT.int Tryz.underlying3) (FT.one (z := 1) rfl (by kernel_rfl) (OpT.bool Tryz.underlying4))))))
    (fun x => ⟨x.1, x.2.1, x.2.2.1, x.2.2.2.1, x.2.2.2.2⟩) (fun _ => rfl) (fun x h => ⟨(Nat.le_trans h.1 (by decide)), h.2.1, h.2.2.1⟩)
theorem op_Mark : OpT Tryz.prog 217 MarkV.row (fun x => True) :=
  OpT.struct (z := 3) Tryz.underlying217 (by kernel_rfl) (FT.cons (z := 1) rfl (by kernel_rfl) (OpT.int Tryz.underlying3) (FT.cons (z := 1) rfl (by kernel_rfl) (OpT.int Tryz.underlying3) (FT.one (z := 1) rfl (by kernel_rfl) (OpT.int Tryz.underlying3))))
    (fun x => ⟨x.1, x.2.1, x.2.2⟩) (fun _ => rfl) (fun x h => trivial)
theorem op_Tab : OpT Tryz.prog 29 (TabV.enc false) (fun x => x.In (2 ^ 48)) :=
  OpT.struct (z := 3) Tryz.underlying29 (by kernel_rfl) (FT.cons (z := 1) rfl (by kernel_rfl) (OpT.slice 7 96 Tryz.underlying26 (by kernel_rfl) (by kernel_rfl) op_Row) (FT.cons (z := 1) rfl (by kernel_rfl) (OpT.int Tryz.underlying3) (FT.one (z := 1) rfl (by kernel_rfl) (OpT.slice 3 24 Tryz.underlying27 (by kernel_rfl) (by kernel_rfl) op_Mark))))
    (fun x => ⟨x.1, x.2.1, x.2.2⟩) (fun _ => rfl) (fun x h => ⟨⟨len_in h.1.1 (by decide), fun y9 hy9 => (h.1.2 y9 hy9)⟩, (len_in h.2.2.1 (by decide))⟩)
theorem op_Store : OpT Tryz.prog 31 (StoreV.enc false) (fun x => x.In (2 ^ 48)) :=
  OpT.struct (z := 9) Tryz.underlying31 (by kernel_rfl) (FT.cons (z := 4) rfl (by kernel_rfl) op_Dev (FT.cons (z := 3) rfl (by kernel_rfl) op_Tab (FT.cons (z := 1) rfl (by kernel_rfl) (OpT.int Tryz.underlying3) (FT.one (z := 1) rfl (by kernel_rfl) (OpT.int Tryz.underlying3)))))
    (fun x => ⟨x.1, x.2.1, x.2.2.1, x.2.2.2⟩) (fun _ => rfl) (fun x h => ⟨h.1, h.2.1⟩)
theorem op_Node : OpT Tryz.prog 33 (NodeV.enc false) (fun x => x.In (2 ^ 48)) :=
  OpT.struct (z := 10) Tryz.underlying33 (by kernel_rfl) (FT.cons (z := 9) rfl (by kernel_rfl) op_Store (FT.one (z := 1) rfl (by kernel_rfl) (OpT.int Tryz.underlying3)))
    (fun x => ⟨x.1, x.2⟩) (fun _ => rfl) (fun x h => h.1)
theorem op_Msg : OpT Tryz.prog 141 Msg.row (fun x => x.In (2 ^ 48)) :=
  OpT.struct (z := 8) Tryz.underlying141 (by kernel_rfl) (FT.cons (z := 1) rfl (by kernel_rfl) (OpT.int Tryz.underlying3) (FT.cons (z := 1) rfl (by kernel_rfl) (OpT.int Tryz.underlying3) (FT.cons (z := 1) rfl (by kernel_rfl) (OpT.int Tryz.underlying3) (FT.cons (z := 1) rfl (by kernel_rfl) (OpT.int Tryz.underlying3) (FT.cons (z := 1) rfl (by kernel_rfl) (OpT.string Tryz.underlying9) (FT.cons (z := 1) rfl (by kernel_rfl) (OpT.string Tryz.underlying9) (FT.cons (z := 1) rfl (by kernel_rfl) (OpT.int Tryz.underlying3) (FT.one (z := 1) rfl (by kernel_rfl) (OpT.int Tryz.underlying3)))))))))
    (fun x => ⟨x.1, x.2.1, x.2.2.1, x.2.2.2.1, x.2.2.2.2.1, x.2.2.2.2.2.1, x.2.2.2.2.2.2.1, x.2.2.2.2.2.2.2⟩) (fun _ => rfl) (fun x h => ⟨(Nat.le_trans h.2.2.2.2.1 (by decide)), (Nat.le_trans h.2.2.2.2.2.1 (by decide))⟩)
theorem op_Done : OpT Tryz.prog 233 DoneV.row (fun x => x.In (2 ^ 48)) :=
  OpT.struct (z := 5) Tryz.underlying233 (by kernel_rfl) (FT.cons (z := 1) rfl (by kernel_rfl) (OpT.int Tryz.underlying3) (FT.cons (z := 1) rfl (by kernel_rfl) (OpT.int Tryz.underlying3) (FT.cons (z := 1) rfl (by kernel_rfl) (OpT.string Tryz.underlying9) (FT.cons (z := 1) rfl (by kernel_rfl) (OpT.string Tryz.underlying9) (FT.one (z := 1) rfl (by kernel_rfl) (OpT.int Tryz.underlying3))))))
    (fun x => ⟨x.1, x.2.1, x.2.2.1, x.2.2.2.1, x.2.2.2.2⟩) (fun _ => rfl) (fun x h => ⟨(Nat.le_trans h.2.2.1 (by decide)), (Nat.le_trans h.2.2.2.1 (by decide))⟩)
theorem op_Client : OpT Tryz.prog 144 (ClientV.enc false) (fun x => x.In (2 ^ 48)) :=
  OpT.struct (z := 12) Tryz.underlying144 (by kernel_rfl) (FT.cons (z := 1) rfl (by kernel_rfl) (OpT.int Tryz.underlying3) (FT.cons (z := 1) rfl (by kernel_rfl) (OpT.int Tryz.underlying3) (FT.cons (z := 1) rfl (by kernel_rfl) (OpT.bool Tryz.underlying4) (FT.cons (z := 8) rfl (by kernel_rfl) op_Msg (FT.one (z := 1) rfl (by kernel_rfl) (OpT.slice 5 56 Tryz.underlying142 (by kernel_rfl) (by kernel_rfl) op_Done))))))
    (fun x => ⟨x.1, x.2.1, x.2.2.1, x.2.2.2.1, x.2.2.2.2⟩) (fun _ => rfl) (fun x h => ⟨h.2.2.2.1, ⟨len_in h.2.2.2.2.1 (by decide), fun y11 hy11 => (h.2.2.2.2.2 y11 hy11)⟩⟩)
theorem op_Act : OpT Tryz.prog 148 ActV.row (fun x => x.In (2 ^ 48)) :=
  OpT.struct (z := 6) Tryz.underlying148 (by kernel_rfl) (FT.cons (z := 1) rfl (by kernel_rfl) (OpT.int Tryz.underlying3) (FT.cons (z := 1) rfl (by kernel_rfl) (OpT.int Tryz.underlying3) (FT.cons (z := 1) rfl (by kernel_rfl) (OpT.int Tryz.underlying3) (FT.cons (z := 1) rfl (by kernel_rfl) (OpT.string Tryz.underlying9) (FT.cons (z := 1) rfl (by kernel_rfl) (OpT.string Tryz.underlying9) (FT.one (z := 1) rfl (by kernel_rfl) (OpT.int Tryz.underlying3)))))))
    (fun x => ⟨x.1, x.2.1, x.2.2.1, x.2.2.2.1, x.2.2.2.2.1, x.2.2.2.2.2⟩) (fun _ => rfl) (fun x h => ⟨(Nat.le_trans h.2.2.2.1 (by decide)), (Nat.le_trans h.2.2.2.2.1 (by decide))⟩)
theorem op_World : OpT Tryz.prog 64 (WorldV.enc false) (fun x => x.In (2 ^ 48)) :=
  OpT.struct (z := 9) Tryz.underlying64 (by kernel_rfl) (FT.cons (z := 4) rfl (by kernel_rfl) op_Lead (FT.cons (z := 1) rfl (by kernel_rfl) (OpT.slice 10 144 Tryz.underlying58 (by kernel_rfl) (by kernel_rfl) op_Node) (FT.cons (z := 1) rfl (by kernel_rfl) (OpT.slice 12 128 Tryz.underlying59 (by kernel_rfl) (by kernel_rfl) op_Client) (FT.cons (z := 1) rfl (by kernel_rfl) (OpT.slice 8 80 Tryz.underlying60 (by kernel_rfl) (by kernel_rfl) op_Msg) (FT.cons (z := 1) rfl (by kernel_rfl) (OpT.slice 6 64 Tryz.underlying61 (by kernel_rfl) (by kernel_rfl) op_Act) (FT.one (z := 1) rfl (by kernel_rfl) (OpT.slice 1 24 Tryz.underlying62 (by kernel_rfl) (by kernel_rfl) (OpT.slice 6 64 Tryz.underlying61 (by kernel_rfl) (by kernel_rfl) op_Act))))))))
    (fun x => ⟨x.1, x.2.1, x.2.2.1, x.2.2.2.1, x.2.2.2.2.1, x.2.2.2.2.2⟩) (fun _ => rfl) (fun x h => ⟨h.1, ⟨len_in h.2.1.1 (by decide), fun y12 hy12 => (h.2.1.2 y12 hy12)⟩, ⟨len_in h.2.2.1.1 (by decide), fun y13 hy13 => (h.2.2.1.2 y13 hy13)⟩, ⟨len_in h.2.2.2.1.1 (by decide), fun y14 hy14 => (h.2.2.2.1.2 y14 hy14)⟩, ⟨len_in h.2.2.2.2.1.1 (by decide), fun y15 hy15 => (h.2.2.2.2.1.2 y15 hy15)⟩, ⟨len_in h.2.2.2.2.2.1 (by decide), fun y16 hy16 => ⟨len_in (h.2.2.2.2.2.2 y16 hy16).1 (by decide), fun y17 hy17 => ((h.2.2.2.2.2.2 y16 hy16).2 y17 hy17)⟩⟩⟩)
noncomputable def laidWorld (os : Os) : World :=
  let w0 := World.holding Tryz.prog os ⟨#[], #[], []⟩
  let put (h : Array Obj) (g : Nat) (cs : Array Value) : Array Obj := h.modify g fun
    | .cells _ t frozen => .cells cs t frozen
    | o => o
  let h1 := put w0.heap 0 (Lib.firstTab.map fun z => Value.int .u8 z).toArray
  let h2 := put h1 1 ((List.range 16).flatMap fun i => [Value.int .u8 (Lib.accLo i), Value.int .u8 (Lib.accHi i)]).toArray
  { w0 with heap := h2 }
theorem laid_met (os : Os) (args : Array Value) : laidMet Tryz.prog Rows.fnExactWorldOkRow.laid ((laidWorld os).forCall (fun _ _ => 0) ⟨#[], args, []⟩).memory :=
  (LaidIn.of_run (l := Rows.fnExactWorldOkRow.laid) [0, 1] 8 (by kernel_rfl) (by kernel_rfl) (by kernel_rfl) (by kernel_rfl)).met
theorem laid_metH (os : Os) (args : Array Value) : laidMetH Tryz.prog Rows.fnExactWorldOkRow.laid ((laidWorld os).forCall (fun _ _ => 0) ⟨#[], args, []⟩).memory := laid_met os args
def renU : Go.Shelf.Ren := ⟨fun _ => 0, fun n => if n = 5 then 5 else if n = 119 then 255 else if n = 138 then 257 else if n = 139 then 258 else 0, fun n => if n = 3 then 0 else 1⟩
theorem typesU : U8Types Tryz.prog renU := ⟨by kernel_rfl, by kernel_rfl, by kernel_rfl, by kernel_rfl⟩
theorem extraU : U8Extra Tryz.prog renU := ⟨by kernel_rfl, by kernel_rfl, by kernel_rfl, by kernel_rfl, by kernel_rfl, by kernel_rfl, by kernel_rfl⟩
theorem firstE : Rows.laid_unicode_utf8_first = Lib.firstData := Pinned.utf8First_eq
theorem acceptE : (Rows.laid_unicode_utf8_acceptRanges : DataW Unit) = Lib.acceptData := by kernel_rfl
theorem old_of_cell {W : World} {b o : Nat} {v : Value} (h : W.cell? ⟨b, o, none⟩ = some v) : Old W b := by
  show b < W.heap.size
  refine Nat.lt_of_not_le fun hn => ?_
  have e : W.heap[b]? = none := Array.getElem?_eq_none hn
  simp [World.cell?, e] at h
theorem kept {W : World} (hL : laidMetH Tryz.prog Rows.fnExactWorldOkRow.laid W) : (keptU 0 1).ok (Old W) W := by
  have hL' : laidMet Tryz.prog Rows.fnExactWorldOkRow.laid W := hL
  have t : Lib.Utf8Tabs 0 1 W := utf8Tabs_of_readsT typesU extraU (firstE ▸ Lib.laidMet.reads hL' (n := "unicode/utf8.first") (by simp [Rows.fnExactWorldOkRow])) (acceptE ▸ Lib.laidMet.reads hL' (n := "unicode/utf8.acceptRanges") (by simp [Rows.fnExactWorldOkRow]))
  exact ⟨old_of_cell (t.1 0 (by decide)), old_of_cell (t.2 0 (by decide)).1, t⟩
theorem lifted (os : Os) (started : os.Started) (H : Type) (enc : TypeId × Value → H) :
    ReturnsInHanded {} Tryz.checked os 5 .any (fun w args => (Rows.fnExactWorldOkSpec.pre enc Tryz.prog Tryz.f5 [] false w args ∧ laidMetH Tryz.prog Rows.fnExactWorldOkRow.laid w) ∧ sizedMet enc Tryz.prog Tryz.f5 (OpenSpec.ofChange Rows.fnExactWorldOkSpec) false w args) (Rows.fnExactWorldOkSpec.post enc Tryz.prog Tryz.f5 false true false false) := by
  refine returnsInHanded_of_change_and (C := Tryz.checked) (X := fun w _ => laidMetH Tryz.prog Rows.fnExactWorldOkRow.laid w) (fun _ _ _ hh h => h.of_heap hh) own started (by kernel_rfl) Tryz.func5
    (ChangeSpec.witness_shaped (enc := enc) (C := Tryz.checked) (os := os) (X := fun w _ => laidMetH Tryz.prog Rows.fnExactWorldOkRow.laid w) false (laidWorld os) #[.agg #[.int .i64 0, .slice none 0 0, .slice none 0 0, .slice none 0 0, .slice none 0 0, .slice none 0 0, .slice none 0 0, .slice none 0 0, .slice none 0 0]] 8 rfl (World.shaped_of_RefB (by kernel_rfl) (by kernel_rfl)) (by kernel_rfl) (by kernel_rfl) (by kernel_rfl) (laid_metH os _)) ?_
  intro W base args ds gs before hval0 hW hcnd hsz0 hL _
  have hsz : (DataW.weightsEach Tryz.prog (Tryz.f5.params.toList ++ Rows.fnExactWorldOkSpec.plain.varTypes Tryz.prog) (ds ++ gs)).all (· ≤ reachBytes) = true := hsz0
  have hval : ∀ (j : Nat) t v, Tryz.f5.params[j]? = some t → args[j]? = some v → Value.okWide Tryz.prog W .any base t v := hval0
  have hW' := hW
  obtain ⟨p, q, hA0, hV, rfl, hfz, hnd⟩ := hW
  have hA : DataW.TrodAll enc Tryz.prog W 0 (fun _ => true) true Tryz.f5.params.toList args.toList ds p := hA0
  rw [Tryz.params5] at hA hval hsz
  obtain ⟨v0, vs0, d0, ds0, p0, q0, hargs, rfl, rfl, h0, r0⟩ := trodAll_cons hA
  obtain ⟨rfl, rfl, rfl⟩ := trodAll_nil r0
  obtain rfl : args = #[v0] := by cases args; simp_all
  obtain ⟨rfl, rfl⟩ := trodVars_none hV
  have lt0 := Go.X.lt_of_trod h0
  have k0_ := h0
  obtain ⟨cs0, rfl, hn0⟩ := okWide_struct Tryz.underlying64 (hval 0 64 v0 rfl rfl)
  obtain ⟨l0, w0, hR0⟩ := OpT.param op_World h0 hsz 0 rfl rfl
  clear hA0 hval0 hsz0 hsz
  refine (asked (t_l_FnExactWorldOk l0 w0) (args := #[Value.agg cs0]) (w := W) ⟨⟨cs0.toList, by simp, hR0⟩, trivial⟩ (kept hL)).mono fun e W' ⟨he, bel⟩ => ?_
  subst he
  exact ⟨_, rfl, _, _, _, [], _, [], hW', trodAll_mk1 (shut_bool Tryz.underlying4 _), (trodAll_cons_mk (Below.trod laidOut (by kernel_rfl) (of_decide_eq_true (by kernel_rfl)) k0_ bel lt0) trodAll_mk0), rfl, bel.frame _, fun h => by cases h⟩
theorem over : Rows.fnExactWorldOkRow.holds Tryz.pinned (OpenSpec.ofChange Rows.fnExactWorldOkSpec) :=
  OpenClaim.holds_of_wide 5 Tryz.f5 rfl rfl rfl rfl rfl rfl rfl ⟨rfl, rfl, rfl, rfl, rfl⟩ rfl rfl rfl rfl rfl (by kernel_rfl) Tryz.func5 (by kernel_rfl)
    (of_decide_eq_true (by kernel_rfl)) (by unfold Func.isWrapper; first | (rw [if_pos (by decide +kernel)]; kernel_rfl) | (rw [if_neg (by decide +kernel)]; exact ⟨rfl, rfl⟩))
    (fun os started H enc _ => lifted os started H enc)
theorem proved : Rows.FnExactWorldOkCardSaid :=
  Claim7.holds_tied_plain_at .later [] [.data, .pinned] true (true, "623fe6fd75645a0a81d11f3e73269fd8c50e9af768af3e719f4a64e2fb2fbc11") false
    over (fun _ h => by cases h) (by kernel_rfl) (fun _ h => by cases h) fnExactWorldOk_row_tie rfl ⟨rfl, rfl⟩ (by kernel_rfl) rfl
    (fun f fn hf hfn => by
      obtain rfl : f = 5 := Option.some.inj ((show Tryz.prog.funcNamed "loop.example/g00475/laws.FnExactWorldOk" = some 5 by kernel_rfl).symm.trans hf) |>.symm
      obtain rfl : fn = Tryz.f5 := (Option.some.inj (Tryz.func5.symm.trans hfn)).symm
      exact ⟨by kernel_rfl, fun j t ht => by
        rw [Tryz.params5] at ht
        have hm : t ∈ [64] := by simpa using Array.mem_of_getElem? ht
        have hall : ([64].all fun u => !Tryz.prog.wantsStandIn u) = true := by kernel_rfl
        exact (show Tryz.prog.wantsStandIn t = false by simpa using List.all_eq_true.1 hall t hm)⟩)
    (by kernel_rfl)
#print axioms proved
end Go.Proofs.YthfpiilfndlnaaaGreatDoor.fnExactWorldOk
namespace Go.Proofs.YthfpiilfndlnaaaGreatDoor
/-- The card, under a short name, for the claim. -/
theorem fnExactWorldOkCard_holds : Rows.FnExactWorldOkCardSaid := fnExactWorldOk.proved
end Go.Proofs.YthfpiilfndlnaaaGreatDoor

