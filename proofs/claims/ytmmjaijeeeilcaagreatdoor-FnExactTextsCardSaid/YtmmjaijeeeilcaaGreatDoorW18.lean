/- The row of the law FnExactTexts: for every input it answers true; each argument reads as it did. -/
import Derived.Test.YtmmjaijeeeilcaaGreatDoorRows
import Derived.Test.YtmmjaijeeeilcaaGreatDoorW17
import Derived.Lib.LaidIn
import Derived.Lib.LaidU8T
import Derived.LaidMore
import Derived.PinnedBridge
import Derived.SevenTiedAt
import Derived.Handed
import Derived.LaidLaws
import Derived.Test.YtmmjaijeeeilcaaGreatDoorTie
import Derived.Test.YtmmjaijeeeilcaaGreatDoorCards
import Derived.WalkKit
import Derived.ProofKit
import Derived.OpenShut
import Derived.ShutString
import Derived.ChangeOld
import Derived.Below
import Derived.SizedLaws
import Derived.Carry
set_option linter.unusedVariables false
set_option linter.unusedSimpArgs false
namespace Go.Proofs.YtmmjaijeeeilcaaGreatDoor.fnExactTexts
open Go.X Go.ChangeShapes Go.WideShapes Go.ChangeAt Go.RowKit Go.Lib Go.Shelf
open Go.ChangeMaps (open_string shut_string)
set_option linter.unusedVariables false
set_option linter.unusedSimpArgs false
set_option maxRecDepth 100000
theorem own : ownKnob Tryz.prog.godebug = none := by kernel_rfl
theorem laidOut : laidOutB Tryz.prog = true := by kernel_rfl
theorem len_in {n B : Nat} (h : n * B ≤ 140737488351232) (hB : 0 < B) : n ≤ 2 ^ 48 := by
  have := Nat.le_mul_of_pos_right n hB
  omega
theorem op_Lead : OpT Tryz.prog 81 (Lead.enc false) (fun x => x.In (2 ^ 48)) :=
  OpT.struct (z := 4) Tryz.underlying81 (by kernel_rfl) (FT.cons (z := 1) rfl (by kernel_rfl) (OpT.int Tryz.underlying3) (FT.cons (z := 1) rfl (by kernel_rfl) (OpT.slice 1 1 Tryz.underlying79 (by kernel_rfl) (by kernel_rfl) (OpT.bool Tryz.underlying4)) (FT.cons (z := 1) rfl (by kernel_rfl) (OpT.slice 1 1 Tryz.underlying79 (by kernel_rfl) (by kernel_rfl) (OpT.bool Tryz.underlying4)) (FT.one (z := 1) rfl (by kernel_rfl) (OpT.slice 1 16 Tryz.underlying60 (by kernel_rfl) (by kernel_rfl) (OpT.string Tryz.underlying9))))))
    (fun x => ⟨x.1, x.2.1, x.2.2.1, x.2.2.2⟩) (fun _ => rfl) (fun x h => ⟨(len_in h.2.1.1 (by decide)), (len_in h.2.2.1.1 (by decide)), ⟨len_in h.2.2.2.1 (by decide), fun y3 hy3 => (Nat.le_trans (h.2.2.2.2 y3 hy3) (by decide))⟩⟩)
theorem op_Wr : OpT Tryz.prog 337 (WrV.enc false) (fun x => x.In (2 ^ 48)) :=
  OpT.struct (z := 2) Tryz.underlying337 (by kernel_rfl) (FT.cons (z := 1) rfl (by kernel_rfl) (OpT.int Tryz.underlying3) (FT.one (z := 1) rfl (by kernel_rfl) (OpT.slice 1 1 Tryz.underlying22 (by kernel_rfl) (by kernel_rfl) (OpT.byte Tryz.underlying5))))
    (fun x => ⟨x.1, x.2⟩) (fun _ => rfl) (fun x h => (len_in h.2.1 (by decide)))
theorem op_Dev : OpT Tryz.prog 232 (DevV.enc false) (fun x => x.In (2 ^ 48)) :=
  OpT.struct (z := 4) Tryz.underlying232 (by kernel_rfl) (FT.cons (z := 1) rfl (by kernel_rfl) (OpT.slice 1 24 Tryz.underlying24 (by kernel_rfl) (by kernel_rfl) (OpT.slice 1 1 Tryz.underlying22 (by kernel_rfl) (by kernel_rfl) (OpT.byte Tryz.underlying5))) (FT.cons (z := 1) rfl (by kernel_rfl) (OpT.slice 2 32 Tryz.underlying230 (by kernel_rfl) (by kernel_rfl) op_Wr) (FT.cons (z := 1) rfl (by kernel_rfl) (OpT.int Tryz.underlying3) (FT.one (z := 1) rfl (by kernel_rfl) (OpT.bool Tryz.underlying4)))))
    (fun x => ⟨x.1, x.2.1, x.2.2.1, x.2.2.2⟩) (fun _ => rfl) (fun x h => ⟨⟨len_in h.1.1 (by decide), fun y5 hy5 => (len_in (h.1.2 y5 hy5).1 (by decide))⟩, ⟨len_in h.2.1.1 (by decide), fun y7 hy7 => (h.2.1.2 y7 hy7)⟩⟩)
theorem op_Cell : OpT Tryz.prog 339 (CellV.enc false) (fun x => x.In (2 ^ 48)) :=
  OpT.struct (z := 2) Tryz.underlying339 (by kernel_rfl) (FT.cons (z := 1) rfl (by kernel_rfl) (OpT.int Tryz.underlying3) (FT.one (z := 1) rfl (by kernel_rfl) (OpT.slice 1 1 Tryz.underlying22 (by kernel_rfl) (by kernel_rfl) (OpT.byte Tryz.underlying5))))
    (fun x => ⟨x.1, x.2⟩) (fun _ => rfl) (fun x h => (len_in h.2.1 (by decide)))
theorem op_Row : OpT Tryz.prog 341 (RowV.enc false) (fun x => x.In (2 ^ 48)) :=
  OpT.struct (z := 7) Tryz.underlying341 (by kernel_rfl) (FT.cons (z := 1) rfl (by kernel_rfl) (OpT.string Tryz.underlying9) (FT.cons (z := 2) rfl (by kernel_rfl) op_Cell (FT.cons (z := 2) rfl (by kernel_rfl) op_Cell (FT.cons (z := 1) rfl (by kernel_rfl) (OpT.int Tryz.underlying3) (FT.one (z := 1) rfl (by kernel_rfl) (OpT.bool Tryz.underlying4))))))
    (fun x => ⟨x.1, x.2.1, x.2.2.1, x.2.2.2.1, x.2.2.2.2⟩) (fun _ => rfl) (fun x h => ⟨(Nat.le_trans h.1 (by decide)), h.2.1, h.2.2.1⟩)
theorem op_Mark : OpT Tryz.prog 346 MarkV.row (fun x => True) :=
  OpT.struct (z := 3) Tryz.underlying346 (by kernel_rfl) (FT.cons (z := 1) rfl (by kernel_rfl) (OpT.int Tryz.underlying3) (FT.cons (z := 1) rfl (by kernel_rfl) (OpT.int Tryz.underlying3) (FT.one (z := 1) rfl (by kernel_rfl) (OpT.int Tryz.underlying3))))
    (fun x => ⟨x.1, x.2.1, x.2.2⟩) (fun _ => rfl) (fun x h => trivial)
theorem op_Tab : OpT Tryz.prog 236 (TabV.enc false) (fun x => x.In (2 ^ 48)) :=
  OpT.struct (z := 3) Tryz.underlying236 (by kernel_rfl) (FT.cons (z := 1) rfl (by kernel_rfl) (OpT.slice 7 96 Tryz.underlying233 (by kernel_rfl) (by kernel_rfl) op_Row) (FT.cons (z := 1) rfl (by kernel_rfl) (OpT.int Tryz.underlying3) (FT.one (z := 1) rfl (by kernel_rfl) (OpT.slice 3 24 Tryz.underlying234 (by kernel_rfl) (by kernel_rfl) op_Mark))))
    (fun x => ⟨x.1, x.2.1, x.2.2⟩) (fun _ => rfl) (fun x h => ⟨⟨len_in h.1.1 (by decide), fun y9 hy9 => (h.1.2 y9 hy9)⟩, (len_in h.2.2.1 (by decide))⟩)
theorem op_Store : OpT Tryz.prog 238 (StoreV.enc false) (fun x => x.In (2 ^ 48)) :=
  OpT.struct (z := 9) Tryz.underlying238 (by kernel_rfl) (FT.cons (z := 4) rfl (by kernel_rfl) op_Dev (FT.cons (z := 3) rfl (by kernel_rfl) op_Tab (FT.cons (z := 1) rfl (by kernel_rfl) (OpT.int Tryz.underlying3) (FT.one (z := 1) rfl (by kernel_rfl) (OpT.int Tryz.underlying3)))))
    (fun x => ⟨x.1, x.2.1, x.2.2.1, x.2.2.2⟩) (fun _ => rfl) (fun x h => ⟨h.1, h.2.1⟩)
theorem op_Node : OpT Tryz.prog 240 (NodeV.enc false) (fun x => x.In (2 ^ 48)) :=
  OpT.struct (z := 10) Tryz.underlying240 (by kernel_rfl) (FT.cons (z := 9) rfl (by kernel_rfl) op_Store (FT.one (z := 1) rfl (by kernel_rfl) (OpT.int Tryz.underlying3)))
    (fun x => ⟨x.1, x.2⟩) (fun _ => rfl) (fun x h => h.1)
theorem op_Msg : OpT Tryz.prog 242 Msg.row (fun x => x.In (2 ^ 48)) :=
  OpT.struct (z := 8) Tryz.underlying242 (by kernel_rfl) (FT.cons (z := 1) rfl (by kernel_rfl) (OpT.int Tryz.underlying3) (FT.cons (z := 1) rfl (by kernel_rfl) (OpT.int Tryz.underlying3) (FT.cons (z := 1) rfl (by kernel_rfl) (OpT.int Tryz.underlying3) (FT.cons (z := 1) rfl (by kernel_rfl) (OpT.int Tryz.underlying3) (FT.cons (z := 1) rfl (by kernel_rfl) (OpT.string Tryz.underlying9) (FT.cons (z := 1) rfl (by kernel_rfl) (OpT.string Tryz.underlying9) (FT.cons (z := 1) rfl (by kernel_rfl) (OpT.int Tryz.underlying3) (FT.one (z := 1) rfl (by kernel_rfl) (OpT.int Tryz.underlying3)))))))))
    (fun x => ⟨x.1, x.2.1, x.2.2.1, x.2.2.2.1, x.2.2.2.2.1, x.2.2.2.2.2.1, x.2.2.2.2.2.2.1, x.2.2.2.2.2.2.2⟩) (fun _ => rfl) (fun x h => ⟨(Nat.le_trans h.2.2.2.2.1 (by decide)), (Nat.le_trans h.2.2.2.2.2.1 (by decide))⟩)
theorem op_Done : OpT Tryz.prog 313 DoneV.row (fun x => x.In (2 ^ 48)) :=
  OpT.struct (z := 5) Tryz.underlying313 (by kernel_rfl) (FT.cons (z := 1) rfl (by kernel_rfl) (OpT.int Tryz.underlying3) (FT.cons (z := 1) rfl (by kernel_rfl) (OpT.int Tryz.underlying3) (FT.cons (z := 1) rfl (by kernel_rfl) (OpT.string Tryz.underlying9) (FT.cons (z := 1) rfl (by kernel_rfl) (OpT.string Tryz.underlying9) (FT.one (z := 1) rfl (by kernel_rfl) (OpT.int Tryz.underlying3))))))
    (fun x => ⟨x.1, x.2.1, x.2.2.1, x.2.2.2.1, x.2.2.2.2⟩) (fun _ => rfl) (fun x h => ⟨(Nat.le_trans h.2.2.1 (by decide)), (Nat.le_trans h.2.2.2.1 (by decide))⟩)
theorem op_Client : OpT Tryz.prog 245 (ClientV.enc false) (fun x => x.In (2 ^ 48)) :=
  OpT.struct (z := 12) Tryz.underlying245 (by kernel_rfl) (FT.cons (z := 1) rfl (by kernel_rfl) (OpT.int Tryz.underlying3) (FT.cons (z := 1) rfl (by kernel_rfl) (OpT.int Tryz.underlying3) (FT.cons (z := 1) rfl (by kernel_rfl) (OpT.bool Tryz.underlying4) (FT.cons (z := 8) rfl (by kernel_rfl) op_Msg (FT.one (z := 1) rfl (by kernel_rfl) (OpT.slice 5 56 Tryz.underlying243 (by kernel_rfl) (by kernel_rfl) op_Done))))))
    (fun x => ⟨x.1, x.2.1, x.2.2.1, x.2.2.2.1, x.2.2.2.2⟩) (fun _ => rfl) (fun x h => ⟨h.2.2.2.1, ⟨len_in h.2.2.2.2.1 (by decide), fun y11 hy11 => (h.2.2.2.2.2 y11 hy11)⟩⟩)
theorem op_Act : OpT Tryz.prog 248 ActV.row (fun x => x.In (2 ^ 48)) :=
  OpT.struct (z := 6) Tryz.underlying248 (by kernel_rfl) (FT.cons (z := 1) rfl (by kernel_rfl) (OpT.int Tryz.underlying3) (FT.cons (z := 1) rfl (by kernel_rfl) (OpT.int Tryz.underlying3) (FT.cons (z := 1) rfl (by kernel_rfl) (OpT.int Tryz.underlying3) (FT.cons (z := 1) rfl (by kernel_rfl) (OpT.string Tryz.underlying9) (FT.cons (z := 1) rfl (by kernel_rfl) (OpT.string Tryz.underlying9) (FT.one (z := 1) rfl (by kernel_rfl) (OpT.int Tryz.underlying3)))))))
    (fun x => ⟨x.1, x.2.1, x.2.2.1, x.2.2.2.1, x.2.2.2.2.1, x.2.2.2.2.2⟩) (fun _ => rfl) (fun x h => ⟨(Nat.le_trans h.2.2.2.1 (by decide)), (Nat.le_trans h.2.2.2.2.1 (by decide))⟩)
theorem op_World : OpT Tryz.prog 88 (WorldV.enc false) (fun x => x.In (2 ^ 48)) :=
  OpT.struct (z := 9) Tryz.underlying88 (by kernel_rfl) (FT.cons (z := 4) rfl (by kernel_rfl) op_Lead (FT.cons (z := 1) rfl (by kernel_rfl) (OpT.slice 10 144 Tryz.underlying82 (by kernel_rfl) (by kernel_rfl) op_Node) (FT.cons (z := 1) rfl (by kernel_rfl) (OpT.slice 12 128 Tryz.underlying83 (by kernel_rfl) (by kernel_rfl) op_Client) (FT.cons (z := 1) rfl (by kernel_rfl) (OpT.slice 8 80 Tryz.underlying84 (by kernel_rfl) (by kernel_rfl) op_Msg) (FT.cons (z := 1) rfl (by kernel_rfl) (OpT.slice 6 64 Tryz.underlying85 (by kernel_rfl) (by kernel_rfl) op_Act) (FT.one (z := 1) rfl (by kernel_rfl) (OpT.slice 1 24 Tryz.underlying86 (by kernel_rfl) (by kernel_rfl) (OpT.slice 6 64 Tryz.underlying85 (by kernel_rfl) (by kernel_rfl) op_Act))))))))
    (fun x => ⟨x.1, x.2.1, x.2.2.1, x.2.2.2.1, x.2.2.2.2.1, x.2.2.2.2.2⟩) (fun _ => rfl) (fun x h => ⟨h.1, ⟨len_in h.2.1.1 (by decide), fun y12 hy12 => (h.2.1.2 y12 hy12)⟩, ⟨len_in h.2.2.1.1 (by decide), fun y13 hy13 => (h.2.2.1.2 y13 hy13)⟩, ⟨len_in h.2.2.2.1.1 (by decide), fun y14 hy14 => (h.2.2.2.1.2 y14 hy14)⟩, ⟨len_in h.2.2.2.2.1.1 (by decide), fun y15 hy15 => (h.2.2.2.2.1.2 y15 hy15)⟩, ⟨len_in h.2.2.2.2.2.1 (by decide), fun y16 hy16 => ⟨len_in (h.2.2.2.2.2.2 y16 hy16).1 (by decide), fun y17 hy17 => ((h.2.2.2.2.2.2 y16 hy16).2 y17 hy17)⟩⟩⟩)
noncomputable def laidWorld (os : Os) : World :=
  let w0 := World.holding Tryz.prog os ⟨#[], #[], []⟩
  let put (h : Array Obj) (g : Nat) (cs : Array Value) : Array Obj := h.modify g fun
    | .cells _ t frozen => .cells cs t frozen
    | o => o
  let h1 := put w0.heap 0 (Lib.firstTab.map fun z => Value.int .u8 z).toArray
  let h2 := put h1 1 ((List.range 16).flatMap fun i => [Value.int .u8 (Lib.accLo i), Value.int .u8 (Lib.accHi i)]).toArray
  { w0 with heap := h2 }
theorem laid_met (os : Os) (args : Array Value) : laidMet Tryz.prog Rows.fnExactTextsRow.laid ((laidWorld os).forCall (fun _ _ => 0) ⟨#[], args, []⟩).memory :=
  (LaidIn.of_run (l := Rows.fnExactTextsRow.laid) [0, 1] 8 (by kernel_rfl) (by kernel_rfl) (by kernel_rfl) (by kernel_rfl)).met
theorem laid_metH (os : Os) (args : Array Value) : laidMetH Tryz.prog Rows.fnExactTextsRow.laid ((laidWorld os).forCall (fun _ _ => 0) ⟨#[], args, []⟩).memory := laid_met os args
def renU : Go.Shelf.Ren := ⟨fun _ => 0, fun n => if n = 5 then 5 else if n = 119 then 332 else if n = 138 then 334 else if n = 139 then 335 else 0, fun n => if n = 3 then 0 else 1⟩
theorem typesU : U8Types Tryz.prog renU := ⟨by kernel_rfl, by kernel_rfl, by kernel_rfl, by kernel_rfl⟩
theorem extraU : U8Extra Tryz.prog renU := ⟨by kernel_rfl, by kernel_rfl, by kernel_rfl, by kernel_rfl, by kernel_rfl, by kernel_rfl, by kernel_rfl⟩
theorem firstE : Rows.laid_unicode_utf8_first = Lib.firstData := Pinned.utf8First_eq
theorem acceptE : (Rows.laid_unicode_utf8_acceptRanges : DataW Unit) = Lib.acceptData := by kernel_rfl
theorem old_of_cell {W : World} {b o : Nat} {v : Value} (h : W.cell? ⟨b, o, none⟩ = some v) : Old W b := by
  show b < W.heap.size
  refine Nat.lt_of_not_le fun hn => ?_
  have e : W.heap[b]? = none := Array.getElem?_eq_none hn
  simp [World.cell?, e] at h
theorem kept {W : World} (hL : laidMetH Tryz.prog Rows.fnExactTextsRow.laid W) : (keptU 0 1).ok (Old W) W := by
  have hL' : laidMet Tryz.prog Rows.fnExactTextsRow.laid W := hL
  have t : Lib.Utf8Tabs 0 1 W := utf8Tabs_of_readsT typesU extraU (firstE ▸ Lib.laidMet.reads hL' (n := "unicode/utf8.first") (by simp [Rows.fnExactTextsRow])) (acceptE ▸ Lib.laidMet.reads hL' (n := "unicode/utf8.acceptRanges") (by simp [Rows.fnExactTextsRow]))
  exact ⟨old_of_cell (t.1 0 (by decide)), old_of_cell (t.2 0 (by decide)).1, t⟩
theorem lifted (os : Os) (started : os.Started) (H : Type) (enc : TypeId × Value → H) :
    ReturnsInHanded {} Tryz.checked os 7 .any (fun w args => (Rows.fnExactTextsSpec.pre enc Tryz.prog Tryz.f7 [] false w args ∧ laidMetH Tryz.prog Rows.fnExactTextsRow.laid w) ∧ sizedMet enc Tryz.prog Tryz.f7 (OpenSpec.ofChange Rows.fnExactTextsSpec) false w args) (Rows.fnExactTextsSpec.post enc Tryz.prog Tryz.f7 false true false false) := by
  refine returnsInHanded_of_change_and (C := Tryz.checked) (X := fun w _ => laidMetH Tryz.prog Rows.fnExactTextsRow.laid w) (fun _ _ _ hh h => h.of_heap hh) own started (by kernel_rfl) Tryz.func7
    (ChangeSpec.witness_shaped (enc := enc) (C := Tryz.checked) (os := os) (X := fun w _ => laidMetH Tryz.prog Rows.fnExactTextsRow.laid w) false (laidWorld os) #[.agg #[.int .i64 0, .slice none 0 0, .slice none 0 0, .slice none 0 0, .slice none 0 0, .slice none 0 0, .slice none 0 0, .slice none 0 0, .slice none 0 0]] 8 rfl (World.shaped_of_RefB (by kernel_rfl) (by kernel_rfl)) (by kernel_rfl) (by kernel_rfl) (by kernel_rfl) (laid_metH os _)) ?_
  intro W base args ds gs before hval0 hW hcnd hsz0 hL _
  have hsz : (DataW.weightsEach Tryz.prog (Tryz.f7.params.toList ++ Rows.fnExactTextsSpec.plain.varTypes Tryz.prog) (ds ++ gs)).all (· ≤ reachBytes) = true := hsz0
  have hval : ∀ (j : Nat) t v, Tryz.f7.params[j]? = some t → args[j]? = some v → Value.okWide Tryz.prog W .any base t v := hval0
  have hW' := hW
  obtain ⟨p, q, hA0, hV, rfl, hfz, hnd⟩ := hW
  have hA : DataW.TrodAll enc Tryz.prog W 0 (fun _ => true) true Tryz.f7.params.toList args.toList ds p := hA0
  rw [Tryz.params7] at hA hval hsz
  obtain ⟨v0, vs0, d0, ds0, p0, q0, hargs, rfl, rfl, h0, r0⟩ := trodAll_cons hA
  obtain ⟨rfl, rfl, rfl⟩ := trodAll_nil r0
  obtain rfl : args = #[v0] := by cases args; simp_all
  obtain ⟨rfl, rfl⟩ := trodVars_none hV
  have lt0 := Go.X.lt_of_trod h0
  have k0_ := h0
  obtain ⟨cs0, rfl, hn0⟩ := okWide_struct Tryz.underlying88 (hval 0 88 v0 rfl rfl)
  obtain ⟨l0, w0, hR0⟩ := OpT.param op_World h0 hsz 0 rfl rfl
  clear hA0 hval0 hsz0 hsz
  refine (asked (t_l_FnExactTexts l0 w0) (args := #[Value.agg cs0]) (w := W) ⟨⟨cs0.toList, by simp, hR0⟩, trivial⟩ (kept hL)).mono fun e W' ⟨he, bel⟩ => ?_
  subst he
  exact ⟨_, rfl, _, _, _, [], _, [], hW', trodAll_mk1 (shut_bool Tryz.underlying4 _), (trodAll_cons_mk (Below.trod laidOut (by kernel_rfl) (of_decide_eq_true (by kernel_rfl)) k0_ bel lt0) trodAll_mk0), rfl, bel.frame _, fun h => by cases h⟩
theorem ja : (Rows.fnExactTextsRow.inPlace == Tryz.prog.inPlace 7) = true := by kernel_rfl
theorem jb : (Rows.fnExactTextsRow.unfollowed == Tryz.prog.unfollowed 7) = true := by kernel_rfl
theorem jc : (Rows.fnExactTextsRow.recurses == Tryz.prog.recurses 7) = true := by kernel_rfl
theorem jd : (Rows.fnExactTextsRow.named == Tryz.prog.varsNamed 7) = true := by kernel_rfl
theorem jf : joinedFacts Tryz.prog 7 Tryz.f7 Rows.fnExactTextsSpec Rows.fnExactTextsRow = true := by
  unfold joinedFacts
  rw [ja, jb, jc, jd]
  kernel_rfl
theorem over : Rows.fnExactTextsRow.holds Tryz.pinned (OpenSpec.ofChange Rows.fnExactTextsSpec) :=
  OpenClaim.holds_of_wide 7 Tryz.f7 rfl rfl rfl rfl rfl rfl rfl ⟨rfl, rfl, rfl, rfl, rfl⟩ rfl rfl rfl rfl rfl (by kernel_rfl) Tryz.func7 jf
    (of_decide_eq_true (by kernel_rfl)) (by unfold Func.isWrapper; first | (rw [if_pos (by decide +kernel)]; kernel_rfl) | (rw [if_neg (by decide +kernel)]; exact ⟨rfl, rfl⟩))
    (fun os started H enc _ => lifted os started H enc)
theorem ga : ((Tryz.prog.closure 7).any fun g => (Tryz.prog.funcs[g]?).any Func.goes) = false := by kernel_rfl
theorem gb : (Tryz.prog.funcs.any Func.goes) = false := by kernel_rfl
theorem gc : Tryz.prog.funcNamed Rows.fnExactTextsRow.func = some 7 := by kernel_rfl
theorem gd : false = Rows.fnExactTextsRow.goesBy Tryz.prog := by
  have h : Tryz.prog.goes 7 = false := by
    unfold Program.goes
    rw [ga, gb, Bool.and_false, Bool.or_false]
  show false = Tryz.prog.goesAt Rows.fnExactTextsRow.start Rows.fnExactTextsRow.func
  unfold Program.goesAt Program.goesFrom
  rw [gc, Option.any_some, h]
  rfl
theorem km : Tryz.prog.mainIs = some (true, ("131d098efb71306048f1ef8c79cd4689f47ef742a04ae5d63789172bb7873206" : String).toList) := by kernel_rfl
theorem kl : false = Tryz.prog.looks [] := by kernel_rfl
theorem proved : Rows.FnExactTextsCardSaid :=
  Claim7.holds_tied_plain_at .later [] [.data, .pinned] true (true, "131d098efb71306048f1ef8c79cd4689f47ef742a04ae5d63789172bb7873206") false
    over (fun _ h => by cases h) (by kernel_rfl) (fun _ h => by cases h) fnExactTexts_row_tie rfl ⟨rfl, rfl⟩ km rfl
    (fun f fn hf hfn => by
      obtain rfl : f = 7 := Option.some.inj ((show Tryz.prog.funcNamed "loop.example/g00475/laws.FnExactTexts" = some 7 by kernel_rfl).symm.trans hf) |>.symm
      obtain rfl : fn = Tryz.f7 := (Option.some.inj (Tryz.func7.symm.trans hfn)).symm
      exact ⟨kl, fun j t ht => by
        rw [Tryz.params7] at ht
        have hm : t ∈ [88] := by simpa using Array.mem_of_getElem? ht
        have hall : ([88].all fun u => !Tryz.prog.wantsStandIn u) = true := by kernel_rfl
        exact (show Tryz.prog.wantsStandIn t = false by simpa using List.all_eq_true.1 hall t hm)⟩)
    gd
#print axioms proved
end Go.Proofs.YtmmjaijeeeilcaaGreatDoor.fnExactTexts
namespace Go.Proofs.YtmmjaijeeeilcaaGreatDoor
/-- The card, under a short name, for the claim. -/
theorem fnExactTextsCard_holds : Rows.FnExactTextsCardSaid := fnExactTexts.proved
end Go.Proofs.YtmmjaijeeeilcaaGreatDoor

