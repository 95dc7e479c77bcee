/- Texts: CW_NodeOk XLib XUtf8. -/
import Derived.Test.YtkclmpglcdojiaaDoorCd
import Derived.Test.YtkclmpglcdojiaaDoorCe
import Derived.Test.YtkclmpglcdojiaaDoorCf
import Derived.Test.YtkclmpglcdojiaaDoorCg
import Derived.Shelf.Spec.DecodeRune
import Derived.Lib.LaidU8T
import Derived.Lib.SpaceU
set_option linter.unusedVariables false
set_option linter.unusedSimpArgs false
/- W_NodeOk -/
namespace Go.X
set_option maxRecDepth 100000
set_option maxHeartbeats 8000000
def x_l_FnExactNodeOk : FnX := ⟨27, [.tmp 2],
  .seq (.reg [⟨none, some 1, 1, .box (.t 0)⟩,
   ⟨none, some 2, 2, .mv (.k (.one (.pv (.bool false))))⟩])
 (.seq (.reg [⟨none, some 3, 3, .mv (.k (.one (.pv (.int .i64 1048576))))⟩])
 (.seq (.reg [⟨none, some 7, 7, .load (some 10) (.t 1)⟩,
   ⟨none, some 8, 8, .mv (.t 3)⟩,
   ⟨none, some 9, 9, .call 4 [0, 0] [(.t 7), (.t 8)]⟩,
   ⟨none, some 3, 3, .mv (.t 9)⟩])
 (.seq (.seq (.reg [⟨none, some 10, 10, .mv (.t 3)⟩,
   ⟨none, some 11, 11, .bin .lss (.t 10) (.k (.one (.pv (.int .i64 0))))⟩])
 (.cond 11 (.seq (.reg [⟨none, some 2, 2, .mv (.k (.one (.pv (.bool true))))⟩])
 (.ret)) (.skip)))
 (.seq (.reg [⟨none, some 12, 12, .load (some 10) (.t 1)⟩,
   ⟨none, some 13, 13, .call 6 [0] [(.t 12)]⟩,
   ⟨none, some 14, 14, .call 5 [0] [(.t 13)]⟩,
   ⟨none, some 4, 4, .mv (.t 14)⟩])
 (.seq (.reg [⟨none, some 15, 15, .load (some 10) (.t 1)⟩,
   ⟨none, some 16, 16, .call 6 [0] [(.t 15)]⟩,
   ⟨none, some 5, 5, .alloc [.nils 1, .nils 2, .pv (.int .i64 0), .pv (.bool false), .nils 7, .pv (.int .i64 0), .nils 3, .pv (.int .i64 0), .pv (.int .i64 0), .pv (.int .i64 0)]⟩,
   ⟨none, none, 100001, .store 10 (.t 5) (.t 16)⟩])
 (.seq (.reg [⟨none, some 17, 17, .load (some 10) (.t 5)⟩,
   ⟨none, some 18, 18, .call 7 [0] [(.t 17)]⟩,
   ⟨none, some 6, 6, .mv (.t 18)⟩])
 (.seq (.seq (.reg [⟨none, some 19, 19, .mv (.t 6)⟩,
   ⟨none, some 20, 20, .mv (.t 4)⟩,
   ⟨none, some 21, 21, .beq true (.t 19) (.t 20)⟩])
 (.cond 21 (.seq (.reg [⟨none, some 2, 2, .mv (.k (.one (.pv (.bool false))))⟩])
 (.ret)) (.skip)))
 (.seq (.seq (.draw [⟨none, some 22, 22, .load (some 10) (.t 5)⟩,
   ⟨none, some 23, 23, .load (some 10) (.t 1)⟩,
   ⟨none, some 24, 24, .call 6 [0] [(.t 23)]⟩,
   ⟨none, some 25, 25, .call 8 [0, 0] [(.t 22), (.t 24)]⟩,
   ⟨none, some 26, 26, .not (.t 25)⟩] [[], [], [1], [0, 2, 2], [3]])
 (.cond 26 (.seq (.reg [⟨none, some 2, 2, .mv (.k (.one (.pv (.bool false))))⟩])
 (.ret)) (.skip)))
 (.seq (.reg [⟨none, some 2, 2, .mv (.k (.one (.pv (.bool true))))⟩])
 (.ret))))))))))⟩
abbrev C_l_FnExactNodeOk (Te : Nat → List AV → Res → Prop) : Prop := ∀ (aN : NodeV) (h_aN : aN.In (2 ^ 48)), Te 3 [.agg (aN.enc false)] ⟨[.one (bT true)], [(aN.enc false)]⟩
theorem r_l_FnExactNodeOk {Te : Nat → List AV → Res → Prop} (c_l_szNode : C_l_szNode Te) (c_l_toNode : C_l_toNode Te) (c_s_NodeOk : C_s_NodeOk Te) (c_i_NodeOk : C_i_NodeOk Te) (c_l_eqNode : C_l_eqNode Te) : ∀ (aN : NodeV) (h_aN : aN.In (2 ^ 48)), RunFn Te x_l_FnExactNodeOk [.agg (aN.enc false)] ⟨[.one (bT true)], [(aN.enc false)]⟩ := by
  intro aN h_aN
  refine ⟨by simp -implicitDefEqProofs (maxSteps := 1000000) only [x_l_FnExactNodeOk, go_sem], ?_⟩
  simp -implicitDefEqProofs (maxSteps := 1000000) only [x_l_FnExactNodeOk, go_sem]
  refine .of (c_l_szNode aN (1048576) h_aN (by omega)) ?_
  simp -implicitDefEqProofs (maxSteps := 1000000) only [go_sem]
  refine fun q0 => ?_
  replace q0 : 0 ≤ (szNode aN (1048576)) := by simpa using q0
  have cb_aN : (0 : Int) ≤ (1048576) ∧ (1048576) ≤ (1048576 : Int) := by omega
  have n_aN : aN.In (1048576) := szNode_in (n := 1048576) cb_aN.1 cb_aN.2 q0
  have b_aN : 0 ≤ (szNode aN (1048576)) ∧ (szNode aN (1048576)) ≤ 1048576 := ⟨q0, Int.le_trans (szNode_sane aN _ cb_aN.1) cb_aN.2⟩
  refine .of (c_l_toNode aN (n_aN.len (by decide))) ?_
  simp -implicitDefEqProofs (maxSteps := 1000000) only [go_sem, eq_self, bne_self_eq_false, Bool.xor_self, true_implies, false_implies, marks_length, marks_take, take_map]
  repeat (first | refine ⟨rfl, ?_⟩ | refine ⟨by decide, ?_⟩ | refine ⟨⟨by decide, by decide⟩, ?_⟩)
  refine .of (c_s_NodeOk _ (n_aN.mono (by decide))) ?_
  simp -implicitDefEqProofs (maxSteps := 1000000) only [go_sem, eq_self, bne_self_eq_false, Bool.xor_self, true_implies, false_implies, marks_length, marks_take, take_map]
  repeat (first | refine ⟨rfl, ?_⟩ | refine ⟨by decide, ?_⟩ | refine ⟨⟨by decide, by decide⟩, ?_⟩)
  refine .of (c_l_toNode aN (n_aN.len (by decide))) ?_
  simp -implicitDefEqProofs (maxSteps := 1000000) only [go_sem, eq_self, bne_self_eq_false, Bool.xor_self, true_implies, false_implies, marks_length, marks_take, take_map]
  repeat (first | refine ⟨rfl, ?_⟩ | refine ⟨by decide, ?_⟩ | refine ⟨⟨by decide, by decide⟩, ?_⟩)
  refine .of (c_i_NodeOk _ (n_aN.mono (by decide))) ?_
  simp -implicitDefEqProofs (maxSteps := 1000000) only [go_sem, eq_self, bne_self_eq_false, Bool.xor_self, true_implies, false_implies, marks_length, marks_take, take_map]
  repeat (first | refine ⟨rfl, ?_⟩ | refine ⟨by decide, ?_⟩ | refine ⟨⟨by decide, by decide⟩, ?_⟩)
  refine .of (c_l_toNode aN (n_aN.len (by decide))) ?_
  simp -implicitDefEqProofs (maxSteps := 1000000) only [go_sem, eq_self, bne_self_eq_false, Bool.xor_self, true_implies, false_implies, marks_length, marks_take, take_map]
  repeat (first | refine ⟨rfl, ?_⟩ | refine ⟨by decide, ?_⟩ | refine ⟨⟨by decide, by decide⟩, ?_⟩)
  refine .of (c_l_eqNode (aN) (aN) (n_aN.len (by decide))) ?_
  simp -implicitDefEqProofs (maxSteps := 1000000) only [go_sem, eq_self, bne_self_eq_false, Bool.xor_self, true_implies, false_implies, marks_length, marks_take, take_map]
  repeat (first | refine ⟨rfl, ?_⟩ | refine ⟨by decide, ?_⟩ | refine ⟨⟨by decide, by decide⟩, ?_⟩)
  try (first | decide | rfl)
end Go.X

/- A library function's contract of another make, as what it tells. -/
namespace Go.X
open Go.RowKit
def plainA : AV → Bool
  | .one (.pv _) => true
  | .one (.sl false _ _ _) => true
  | _ => false
theorem plainA_ts {x : GA} {a : AV} (h : x.er = a) (hp : plainA a = true) : ∃ t, x = .one t ∧ (∀ b, cnt b t = 0) := by
  subst h
  cases x with
  | one t =>
    refine ⟨t, rfl, fun b => ?_⟩
    cases t with
    | pv v => rfl
    | no v => simp [GA.er, X.er, plainA] at hp
    | sl o z v rows =>
      cases o with
      | false => rfl
      | true => simp [GA.er, X.er, plainA] at hp
  | agg ts => simp [GA.er, plainA] at hp
  | ptr A ts => simp [GA.er, plainA] at hp
theorem tells_lib {P : Program} {KP : Kept} {f : Nat} {avs : List AV} {us : List Value} (hp : avs.all plainA = true) (hu : us.all Value.oneCell' = true)
    (h : ∀ (S : Nat → Prop) (gs : List GA) (w : World), gs.map GA.er = avs → (∀ x ∈ gs, x.ok S w) → KP.ok S w → Calls P f (gs.map GA.val).toArray w fun e w' => e = .returned (resVal (us.map fun u => .one (.pv u))) ∧ Below w.heap.size w w') :
    Tells P KP f avs ⟨us.map fun u => .one (.pv u), avs.map AV.ts⟩ := by
  intro S gs w ha hS hok _ _ hK
  refine (h S gs w ha hok hK).mono ?_
  rintro e w' ⟨rfl, hB⟩
  have hpl : ∀ x ∈ gs, ∃ t, x = .one t ∧ (∀ b, cnt b t = 0) := fun x hx => by
    refine plainA_ts rfl ?_
    have : x.er ∈ avs := by rw [← ha]; exact List.mem_map_of_mem hx
    exact List.all_eq_true.1 hp _ this
  have hcl : ∀ b, ∀ l : List GA, (∀ x ∈ l, ∃ t, x = .one t ∧ (∀ b, cnt b t = 0)) → treeCnt b l = 0 ∧ ptrCnt b l = 0 ∧ cntL b (l.map GA.ts).flatten = 0 := fun b l => by
    induction l with
    | nil => intro _; exact ⟨rfl, rfl, rfl⟩
    | cons x l ih =>
      intro hl
      obtain ⟨t, rfl, ht⟩ := hl x (List.mem_cons_self ..)
      obtain ⟨h1, h2, h3⟩ := ih fun y hy => hl y (List.mem_cons_of_mem _ hy)
      have := ht b
      simp only [treeCnt, List.flatMap_cons, cntL_append, GA.ts, cntL, ptrCnt, GA.pb, List.map_cons, List.flatten_cons] at h1 h2 h3 ⊢
      omega
  have hmv : ∀ x ∈ gs, ∀ t ∈ x.ts, Rp S w' t := fun x hx t ht => by
    obtain ⟨t', rfl, hc⟩ := hpl x hx
    simp only [GA.ts, List.mem_singleton] at ht
    subst ht
    refine ((hok _ hx).1 t (by simp [GA.ts])).move (fun _ h => h) (fun b hb => hB.block b (hS b hb)) (fun b hb => ?_)
    have := hc b
    omega
  have hus : ∀ b, ∀ l : List Value, treeCnt b (l.map fun u => GA.one (.pv u)) = 0 ∧ ptrCnt b (l.map fun u => GA.one (.pv u)) = 0 := fun b l => by
    induction l with
    | nil => exact ⟨rfl, rfl⟩
    | cons u l ih =>
      obtain ⟨h1, h2⟩ := ih
      simp only [treeCnt, List.map_cons, List.flatMap_cons, cntL_append, GA.ts, cntL, cnt, ptrCnt, GA.pb] at h1 h2 ⊢
      omega
  refine ⟨us.map fun u => .one (.pv u), gs.map GA.ts, rfl, by simp [GA.er, X.er, Function.comp_def], ?_, ?_, ?_, ?_, ?_, ?_, ?_, ?_⟩
  · rw [← ha, List.map_map, List.map_map]
    exact List.map_congr_left fun x _ => (GA.er_ts x).symm
  · intro x hx
    obtain ⟨u, hu', rfl⟩ := List.mem_map.1 hx
    refine ⟨fun t ht => ?_, fun A ts e => by cases e⟩
    simp only [GA.ts, List.mem_singleton] at ht
    subst ht
    exact .pv (List.all_eq_true.1 hu _ hu')
  · intro o ho t ht
    obtain ⟨x, hx, rfl⟩ := List.mem_map.1 ho
    exact hmv x hx t ht
  · have : ∀ l : List GA, (∀ x ∈ l, ∃ t, x = .one t ∧ (∀ b, cnt b t = 0)) → OutsOK w' l (l.map GA.ts) := fun l => by
      induction l with
      | nil => intro _; trivial
      | cons x l ih =>
        intro hl
        obtain ⟨t, rfl, _⟩ := hl x (List.mem_cons_self ..)
        exact ⟨rfl, ih fun y hy => hl y (List.mem_cons_of_mem _ hy)⟩
    exact this gs hpl
  · intro b
    have h1 := hcl b gs hpl
    have h2 := hus b us
    omega
  · intro b hb
    have h1 := hcl b gs hpl
    have h2 := hus b us
    omega
  · refine ⟨hB.os, hB.tape, hB.output, hB.size, fun b hb _ => hB.block b hb, fun A ts hm => ?_⟩
    obtain ⟨t, e, _⟩ := hpl _ hm
    cases e
  · intro A ts hm
    obtain ⟨u, _, e⟩ := List.mem_map.1 hm
    cases e
/-- How bytes that are read lie in memory. -/
theorem rd_bytes {S : Nat → Prop} {w : World} {l : List UInt8} {v : Value} (h : Rd S w (.sl false 1 () (l.map fun a => [.pv (.int .u8 a.toNat)])) v) (hl : l ≠ []) :
    ∃ b off cap, v = .slice (some ⟨b, off, none⟩) l.length cap ∧ ∀ j (hj : j < l.length), w.cell? ⟨b, off + j, none⟩ = some (.int .u8 (l[j]).toNat) := by
  generalize ht : (Tr.sl false 1 () (l.map fun a => [.pv (.int .u8 a.toNat)]) : T) = t at h
  cases h with
  | pv h => cases ht
  | @sl z cap a rows u h1 h2 h3 h4 h5 =>
    cases ht
    have hlen : (l.map fun a => ([.pv (.int .u8 a.toNat)] : List T)).length = l.length := by simp
    have key : ∀ j (hj : j < l.length), ∃ ad, a = some ad ∧ w.cell? (ad.add j) = some (.int .u8 (l[j]).toNat) := fun j hj => by
      have hr : (l.map fun a => ([.pv (.int .u8 a.toNat)] : List T))[j]? = some [.pv (.int .u8 (l[j]).toNat)] := by simp [hj]
      obtain ⟨ad, e1, _, e2⟩ := h4 j _ 0 _ hr rfl
      have e3 := h5 j _ 0 _ hr rfl
      have e4 : u j 0 = .int .u8 (l[j]).toNat := by
        generalize hq : (Tr.pv (Value.int .u8 (l[j]).toNat) : T) = q at e3
        generalize u j 0 = x at e3
        cases e3 with
        | pv => cases hq; rfl
        | sl => cases hq
      exact ⟨ad, e1, by simpa [e4] using e2⟩
    obtain ⟨ad, rfl, e0⟩ := key 0 (by rcases l with _ | _; exact absurd rfl hl; simp)
    have hs : ad.spot = none := by
      have e0' : w.cell? ad = some (.int .u8 (l[0]'(by rcases l with _ | _; exact absurd rfl hl; simp)).toNat) := by simpa [Addr.add] using e0
      unfold World.cell? at e0'
      split at e0'
      · split at e0'
        · cases e0'
        · rename_i q; simpa using q
      · cases e0'
    obtain ⟨b, off, sp⟩ := ad
    simp only at hs
    subst hs
    refine ⟨b, off, cap, by rw [hlen], fun j hj => ?_⟩
    obtain ⟨ad', e1, e2⟩ := key j hj
    cases e1
    by_cases hz : j = 0
    · subst hz; simpa [Addr.add] using e2
    · simpa [Addr.add, hz] using e2
end Go.X

/- utf8.DecodeRune and utf8.ValidString, as they are told; the tables that they read stay. -/
namespace Go.X
open Go.RowKit Go.Proofs Go.Shelf
def keptU (g3 g4 : Nat) : Kept := ⟨fun S w => S g3 ∧ S g4 ∧ Lib.Utf8Tabs g3 g4 w, fun {S S' w w'} h hs hb => by
  obtain ⟨h1, h2, h3, h4⟩ := h
  refine ⟨hs _ h1, hs _ h2, fun c hc => ?_, fun i hi => ?_⟩
  · rw [World.cell?_of_block (w := w) (hb _ h1)]; exact h3 c hc
  · rw [World.cell?_of_block (w := w) (hb _ h2), World.cell?_of_block (w := w) (hb _ h2)]; exact h4 i hi⟩
theorem tells_decode {P : Program} {ρ : Ren} (L : Lays7.n32 P ρ) (l : List UInt8) (hl : l ≠ []) :
    Tells P (keptU (ρ.g 2) (ρ.g 3)) (ρ.f 32) [.one (.sl false 1 () (l.map fun a => [.pv (.int .u8 a.toNat)]))] ⟨[.one (.pv (.int .i32 (Lib.decodeGo ⟨l.toArray⟩).1)), .one (.pv (.int .i64 (Lib.decodeGo ⟨l.toArray⟩).2))], [[.sl false 1 () (l.map fun a => [.pv (.int .u8 a.toNat)])]]⟩ := by
  refine tells_lib (us := [.int .i32 (Lib.decodeGo ⟨l.toArray⟩).1, .int .i64 (Lib.decodeGo ⟨l.toArray⟩).2]) rfl rfl ?_
  intro S gs w ha hok hK
  rcases gs with _ | ⟨x, _ | ⟨y, gs⟩⟩
  · simp at ha
  · simp only [List.map_cons, List.map_nil, List.cons.injEq, and_true] at ha
    have hx := (hok x (List.mem_cons_self ..)).1
    cases x with
    | one t =>
      simp only [GA.er, AV.one.injEq] at ha
      have ht := hx t (by simp [GA.ts])
      have hrd : Rd S w (.sl false 1 () (l.map fun a => [.pv (.int .u8 a.toNat)])) (hdr t) := by
        rw [← ha]
        cases ht with
        | pv => simp [er] at ha
        | no => simp [er] at ha
        | ro h => exact h
        | nil => simp [er] at ha
        | own => simp [er] at ha
      obtain ⟨b, off, cap, e1, e2⟩ := rd_bytes hrd hl
      have := Any7.utf8_DecodeRune L ⟨l.toArray⟩ b off cap w hK.2.2 (fun j hj => by
        have hj' : j < l.length := by simpa [ByteArray.size] using hj
        rw [e2 j hj']
        congr 3
        simp [ByteArray.get!, hj'])
      have e3 : (⟨l.toArray⟩ : ByteArray).size = l.length := by simp [ByteArray.size]
      rw [e3, ← e1] at this
      exact this
    | agg ts => simp [GA.er] at ha
    | ptr A ts => simp [GA.er] at ha
  · simp at ha
theorem decodeGo_L {l : List UInt8} (hl : l ≠ []) : Lib.decodeGo ⟨l.toArray⟩ = Lib.decodeL l := by
  have : ¬ (⟨l.toArray⟩ : ByteArray).size = 0 := by
    simp only [ByteArray.size, List.size_toArray]
    intro e
    exact hl (List.length_eq_zero_iff.1 e)
  unfold Lib.decodeGo Lib.decodeL
  rw [if_neg this]
theorem tells_decodeL {P : Program} {ρ : Ren} (L : Lays7.n32 P ρ) (l : List UInt8) (hl : l ≠ []) :
    Tells P (keptU (ρ.g 2) (ρ.g 3)) (ρ.f 32) [.one (.sl false 1 () (l.map fun a => [.pv (.int .u8 a.toNat)]))] ⟨[.one (.pv (.int .i32 (Lib.decodeL l).1)), .one (.pv (.int .i64 (Lib.decodeL l).2))], [[.sl false 1 () (l.map fun a => [.pv (.int .u8 a.toNat)])]]⟩ := by
  have h := tells_decode L l hl
  rw [decodeGo_L hl] at h
  exact h
end Go.X

