/- The row of the law FnDesks: for every input it answers true; each argument reads as it did. -/
import Derived.Test.YtmmjaijeeeilcaaGreatDoorRows
import Derived.Test.YtmmjaijeeeilcaaGreatDoorD16
import Derived.Lib.LaidIn
import Derived.Lib.LaidU8T
import Derived.LaidMore
import Derived.PinnedBridge
import Derived.SevenTiedAt
import Derived.Handed
import Derived.LaidLaws
import Derived.Test.YtmmjaijeeeilcaaGreatDoorTie
import Derived.Test.YtmmjaijeeeilcaaGreatDoorCards
import Derived.WalkKit
import Derived.ProofKit
import Derived.OpenShut
import Derived.ShutString
import Derived.ChangeOld
import Derived.Below
import Derived.SizedLaws
import Derived.Carry
set_option linter.unusedVariables false
set_option linter.unusedSimpArgs false
namespace Go.Proofs.YtmmjaijeeeilcaaGreatDoor.fnDesks
open Go.X Go.ChangeShapes Go.WideShapes Go.ChangeAt Go.RowKit Go.Lib Go.Shelf
open Go.ChangeMaps (open_string shut_string)
set_option linter.unusedVariables false
set_option linter.unusedSimpArgs false
set_option maxRecDepth 100000
theorem own : ownKnob Tryz.prog.godebug = none := by kernel_rfl
theorem laidOut : laidOutB Tryz.prog = true := by kernel_rfl
theorem len_in {n B : Nat} (h : n * B ≤ 140737488351232) (hB : 0 < B) : n ≤ 2 ^ 48 := by
  have := Nat.le_mul_of_pos_right n hB
  omega
noncomputable def laidWorld (os : Os) : World :=
  let w0 := World.holding Tryz.prog os ⟨#[], #[], []⟩
  let put (h : Array Obj) (g : Nat) (cs : Array Value) : Array Obj := h.modify g fun
    | .cells _ t frozen => .cells cs t frozen
    | o => o
  let h1 := put w0.heap 0 (Lib.firstTab.map fun z => Value.int .u8 z).toArray
  let h2 := put h1 1 ((List.range 16).flatMap fun i => [Value.int .u8 (Lib.accLo i), Value.int .u8 (Lib.accHi i)]).toArray
  { w0 with heap := h2 }
theorem laid_met (os : Os) (args : Array Value) : laidMet Tryz.prog Rows.fnDesksRow.laid ((laidWorld os).forCall (fun _ _ => 0) ⟨#[], args, []⟩).memory :=
  (LaidIn.of_run (l := Rows.fnDesksRow.laid) [0, 1] 8 (by kernel_rfl) (by kernel_rfl) (by kernel_rfl) (by kernel_rfl)).met
theorem laid_metH (os : Os) (args : Array Value) : laidMetH Tryz.prog Rows.fnDesksRow.laid ((laidWorld os).forCall (fun _ _ => 0) ⟨#[], args, []⟩).memory := laid_met os args
def renU : Go.Shelf.Ren := ⟨fun _ => 0, fun n => if n = 5 then 5 else if n = 119 then 332 else if n = 138 then 334 else if n = 139 then 335 else 0, fun n => if n = 3 then 0 else 1⟩
theorem typesU : U8Types Tryz.prog renU := ⟨by kernel_rfl, by kernel_rfl, by kernel_rfl, by kernel_rfl⟩
theorem extraU : U8Extra Tryz.prog renU := ⟨by kernel_rfl, by kernel_rfl, by kernel_rfl, by kernel_rfl, by kernel_rfl, by kernel_rfl, by kernel_rfl⟩
theorem firstE : Rows.laid_unicode_utf8_first = Lib.firstData := Pinned.utf8First_eq
theorem acceptE : (Rows.laid_unicode_utf8_acceptRanges : DataW Unit) = Lib.acceptData := by kernel_rfl
theorem old_of_cell {W : World} {b o : Nat} {v : Value} (h : W.cell? ⟨b, o, none⟩ = some v) : Old W b := by
  show b < W.heap.size
  refine Nat.lt_of_not_le fun hn => ?_
  have e : W.heap[b]? = none := Array.getElem?_eq_none hn
  simp [World.cell?, e] at h
theorem kept {W : World} (hL : laidMetH Tryz.prog Rows.fnDesksRow.laid W) : (keptU 0 1).ok (Old W) W := by
  have hL' : laidMet Tryz.prog Rows.fnDesksRow.laid W := hL
  have t : Lib.Utf8Tabs 0 1 W := utf8Tabs_of_readsT typesU extraU (firstE ▸ Lib.laidMet.reads hL' (n := "unicode/utf8.first") (by simp [Rows.fnDesksRow])) (acceptE ▸ Lib.laidMet.reads hL' (n := "unicode/utf8.acceptRanges") (by simp [Rows.fnDesksRow]))
  exact ⟨old_of_cell (t.1 0 (by decide)), old_of_cell (t.2 0 (by decide)).1, t⟩
theorem lifted (os : Os) (started : os.Started) (H : Type) (enc : TypeId × Value → H) :
    ReturnsInHanded {} Tryz.checked os 3 .any (fun w args => (Rows.fnDesksSpec.pre enc Tryz.prog Tryz.f3 [] false w args ∧ laidMetH Tryz.prog Rows.fnDesksRow.laid w) ∧ sizedMet enc Tryz.prog Tryz.f3 (OpenSpec.ofChange Rows.fnDesksSpec) false w args) (Rows.fnDesksSpec.post enc Tryz.prog Tryz.f3 false true false false) := by
  refine returnsInHanded_of_change_and (C := Tryz.checked) (X := fun w _ => laidMetH Tryz.prog Rows.fnDesksRow.laid w) (fun _ _ _ hh h => h.of_heap hh) own started (by kernel_rfl) Tryz.func3
    (ChangeSpec.witness_shaped (enc := enc) (C := Tryz.checked) (os := os) (X := fun w _ => laidMetH Tryz.prog Rows.fnDesksRow.laid w) false (laidWorld os) #[.slice none 0 0] 8 rfl (World.shaped_of_RefB (by kernel_rfl) (by kernel_rfl)) (by kernel_rfl) (by kernel_rfl) (by kernel_rfl) (laid_metH os _)) ?_
  intro W base args ds gs before hval0 hW hcnd hsz0 hL _
  have hsz : (DataW.weightsEach Tryz.prog (Tryz.f3.params.toList ++ Rows.fnDesksSpec.plain.varTypes Tryz.prog) (ds ++ gs)).all (· ≤ reachBytes) = true := hsz0
  have hval : ∀ (j : Nat) t v, Tryz.f3.params[j]? = some t → args[j]? = some v → Value.okWide Tryz.prog W .any base t v := hval0
  have hW' := hW
  obtain ⟨p, q, hA0, hV, rfl, hfz, hnd⟩ := hW
  have hA : DataW.TrodAll enc Tryz.prog W 0 (fun _ => true) true Tryz.f3.params.toList args.toList ds p := hA0
  rw [Tryz.params3] at hA hval hsz
  obtain ⟨v0, vs0, d0, ds0, p0, q0, hargs, rfl, rfl, h0, r0⟩ := trodAll_cons hA
  obtain ⟨rfl, rfl, rfl⟩ := trodAll_nil r0
  obtain rfl : args = #[v0] := by cases args; simp_all
  obtain ⟨rfl, rfl⟩ := trodVars_none hV
  have lt0 := Go.X.lt_of_trod h0
  have k0_ := h0
  obtain ⟨a0, len0, cap0, rfl⟩ := okWide_slice Tryz.underlying22 (hval 0 22 v0 rfl rfl)
  obtain ⟨l0, w0, hR0⟩ := OpT.param (OpT.slice 1 1 Tryz.underlying22 (by kernel_rfl) (by kernel_rfl) (OpT.byte Tryz.underlying5)) h0 hsz 0 rfl rfl
  clear hA0 hval0 hsz0 hsz
  refine (asked (t_Ci l0 (len_in w0.1 (by decide))) (args := #[Value.slice a0 len0 cap0]) (w := W) ⟨hR0.2 0 _ _ rfl rfl, trivial⟩ (kept hL)).mono fun e W' ⟨he, bel⟩ => ?_
  subst he
  exact ⟨_, rfl, _, _, _, [], _, [], hW', trodAll_mk1 (shut_bool Tryz.underlying4 _), (trodAll_cons_mk (Below.trod laidOut (by kernel_rfl) (of_decide_eq_true (by kernel_rfl)) k0_ bel lt0) trodAll_mk0), rfl, bel.frame _, fun h => by cases h⟩
theorem ja : (Rows.fnDesksRow.inPlace == Tryz.prog.inPlace 3) = true := by kernel_rfl
theorem jb : (Rows.fnDesksRow.unfollowed == Tryz.prog.unfollowed 3) = true := by kernel_rfl
theorem jc : (Rows.fnDesksRow.recurses == Tryz.prog.recurses 3) = true := by kernel_rfl
theorem jd : (Rows.fnDesksRow.named == Tryz.prog.varsNamed 3) = true := by kernel_rfl
theorem jf : joinedFacts Tryz.prog 3 Tryz.f3 Rows.fnDesksSpec Rows.fnDesksRow = true := by
  unfold joinedFacts
  rw [ja, jb, jc, jd]
  kernel_rfl
theorem over : Rows.fnDesksRow.holds Tryz.pinned (OpenSpec.ofChange Rows.fnDesksSpec) :=
  OpenClaim.holds_of_wide 3 Tryz.f3 rfl rfl rfl rfl rfl rfl rfl ⟨rfl, rfl, rfl, rfl, rfl⟩ rfl rfl rfl rfl rfl (by kernel_rfl) Tryz.func3 jf
    (of_decide_eq_true (by kernel_rfl)) (by unfold Func.isWrapper; first | (rw [if_pos (by decide +kernel)]; kernel_rfl) | (rw [if_neg (by decide +kernel)]; exact ⟨rfl, rfl⟩))
    (fun os started H enc _ => lifted os started H enc)
theorem ga : ((Tryz.prog.closure 3).any fun g => (Tryz.prog.funcs[g]?).any Func.goes) = false := by kernel_rfl
theorem gb : (Tryz.prog.funcs.any Func.goes) = false := by kernel_rfl
theorem gc : Tryz.prog.funcNamed Rows.fnDesksRow.func = some 3 := by kernel_rfl
theorem gd : false = Rows.fnDesksRow.goesBy Tryz.prog := by
  have h : Tryz.prog.goes 3 = false := by
    unfold Program.goes
    rw [ga, gb, Bool.and_false, Bool.or_false]
  show false = Tryz.prog.goesAt Rows.fnDesksRow.start Rows.fnDesksRow.func
  unfold Program.goesAt Program.goesFrom
  rw [gc, Option.any_some, h]
  rfl
theorem km : Tryz.prog.mainIs = some (true, ("131d098efb71306048f1ef8c79cd4689f47ef742a04ae5d63789172bb7873206" : String).toList) := by kernel_rfl
theorem kl : false = Tryz.prog.looks [] := by kernel_rfl
theorem proved : Rows.FnDesksCardSaid :=
  Claim7.holds_tied_plain_at .later [] [.data, .pinned] true (true, "131d098efb71306048f1ef8c79cd4689f47ef742a04ae5d63789172bb7873206") false
    over (fun _ h => by cases h) (by kernel_rfl) (fun _ h => by cases h) fnDesks_row_tie rfl ⟨rfl, rfl⟩ km rfl
    (fun f fn hf hfn => by
      obtain rfl : f = 3 := Option.some.inj ((show Tryz.prog.funcNamed "loop.example/g00475/laws.FnDesks" = some 3 by kernel_rfl).symm.trans hf) |>.symm
      obtain rfl : fn = Tryz.f3 := (Option.some.inj (Tryz.func3.symm.trans hfn)).symm
      exact ⟨kl, fun j t ht => by
        rw [Tryz.params3] at ht
        have hm : t ∈ [22] := by simpa using Array.mem_of_getElem? ht
        have hall : ([22].all fun u => !Tryz.prog.wantsStandIn u) = true := by kernel_rfl
        exact (show Tryz.prog.wantsStandIn t = false by simpa using List.all_eq_true.1 hall t hm)⟩)
    gd
#print axioms proved
end Go.Proofs.YtmmjaijeeeilcaaGreatDoor.fnDesks
namespace Go.Proofs.YtmmjaijeeeilcaaGreatDoor
/-- The card, under a short name, for the claim. -/
theorem fnDesksCard_holds : Rows.FnDesksCardSaid := fnDesks.proved
end Go.Proofs.YtmmjaijeeeilcaaGreatDoor

