/- A region whose operations come in any order. -/
import Derived.Test.YtihpdefnajimgaaXReg
namespace Go.X
abbrev Log := List Loc × List Loc
def runDraw (Te : Nat → List AV → Res → Prop) : List GOp → St → List Log → (St → List Log → Prop) → Prop
  | [], st, l, Q => Q st l
  | o :: os, st, l, Q => runL Te o.prg st [] [] fun _ st' rd wr => runDraw Te os st' (l ++ [(rd, wr)]) Q
def clear (x y : Log) : Bool := (x.2.all fun k => !y.1.contains k && !y.2.contains k) && y.2.all fun k => !x.1.contains k
def logsOk : List Log → List Log → List (List Nat) → Bool
  | _, [], _ => true
  | l, x :: xs, es => (l.zipIdx.all fun y => clear y.1 x || (es.getD l.length []).contains y.2) && logsOk (l ++ [x]) xs es
/-- What has to come before. -/
def ancs : List (List Nat) → List (List Nat) → List (List Nat)
  | tab, [] => tab
  | tab, e :: es => ancs (tab ++ [(e ++ e.flatMap fun i => tab.getD i []).eraseDups]) es
def drawOk (es : List (List Nat)) (ls : List Log) : Bool := logsOk [] ls (ancs [] es) && es.zipIdx.all fun x => x.1.all fun i => decide (i < x.2)
def edgesOf (ops : Array Oper) : List (List Nat) := ops.toList.map fun o => (o.after.toList.filter (Region.binds .any)).map (·.on)
inductive Anc (es : List (List Nat)) : Nat → Nat → Prop
  | base {i j : Nat} {e : List Nat} : es[j]? = some e → i ∈ e → Anc es i j
  | step {i j k : Nat} {e : List Nat} : es[j]? = some e → k ∈ e → Anc es i k → Anc es i j
theorem ancs_ok (all : List (List Nat)) : ∀ (es tab : List (List Nat)), (∀ k (e : List Nat), es[k]? = some e → all[tab.length + k]? = some e) → (∀ j e, tab[j]? = some e → ∀ i ∈ e, Anc all i j) → ∀ j e, (ancs tab es)[j]? = some e → ∀ i ∈ e, Anc all i j
  | [], tab, _, ht, j, e, h => ht j e h
  | x :: es, tab, he, ht, j, e, h => by
    refine ancs_ok all es _ (fun k e' h' => ?_) (fun j' e' h' i hi => ?_) j e h
    · have := he (k + 1) e' (by simpa using h')
      simpa [Nat.add_assoc, Nat.add_comm 1 k] using this
    · rw [List.getElem?_append] at h'
      split at h'
      · exact ht j' e' h' i hi
      · rename_i hl
        have hj : j' = tab.length := by
          have := (List.getElem?_eq_some_iff.1 h').1
          simp at this
          omega
        subst hj
        simp at h'
        subst h'
        have hx := he 0 x rfl
        simp only [Nat.add_zero] at hx
        rw [List.mem_eraseDups] at hi
        rcases List.mem_append.1 hi with hi | hi
        · exact .base hx hi
        · obtain ⟨k, hk, hi⟩ := List.mem_flatMap.1 hi
          cases hkt : tab[k]? with
          | none => simp [List.getD_eq_getElem?_getD, hkt] at hi
          | some e'' =>
            simp only [List.getD_eq_getElem?_getD, hkt, Option.getD_some] at hi
            exact .step hx hk (ht k e'' hkt i hi)
theorem clear_spec {x y : Log} (h : clear x y = true) : (∀ k ∈ x.2, k ∉ y.1 ∧ k ∉ y.2) ∧ ∀ k ∈ y.2, k ∉ x.1 := by
  simp only [clear, Bool.and_eq_true, List.all_eq_true, Bool.not_eq_true', List.contains_eq_mem, decide_eq_false_iff_not] at h
  exact h
theorem logsOk_spec : ∀ (xs l : List Log) (es : List (List Nat)), logsOk l xs es = true → ∀ (j : Nat) (y : Log), xs[j]? = some y → ∀ (i : Nat) (x : Log), (l ++ xs)[i]? = some x → i < l.length + j → clear x y = true ∨ i ∈ es.getD (l.length + j) []
  | [], _, _, _, j, y, h, _, _, _, _ => by simp at h
  | z :: xs, l, es, h, j, y, hy, i, x, hx, hi => by
    simp only [logsOk, Bool.and_eq_true, List.all_eq_true, Bool.or_eq_true, List.contains_eq_mem, decide_eq_true_eq] at h
    cases j with
    | zero =>
      simp at hy
      subst hy
      simp only [Nat.add_zero] at hi ⊢
      have hx' : l[i]? = some x := by rwa [List.getElem?_append_left hi] at hx
      exact h.1 (x, i) (List.mk_mem_zipIdx_iff_getElem?.2 hx')
    | succ j =>
      have := logsOk_spec xs (l ++ [z]) es h.2 j y (by simpa using hy) i x (by simpa using hx) (by simp; omega)
      simpa [Nat.add_assoc, Nat.add_comm 1 j] using this
section
variable {P : Program} {X : Ctx} {n : Nat} {g : Gh} {st : St} {a : Act} {w : World} {o : Oper} {ops : Array Oper} {Te : Nat → List AV → Res → Prop}
def StepOf (Te : Nat → List AV → Res → Prop) (x : GOp) (st st' : St) (l : Log) : Prop := (∀ k, k ∉ l.2 → Agree st st' k) ∧
  ∀ st2, (∀ k ∈ l.1, Agree st st2 k) → runP Te x.prg st2 (fun _ st2' => (∀ k ∈ l.2, Agree st' st2' k) ∧ ∀ k, k ∉ l.2 → Agree st2 st2' k)
theorem draw_seq {Q : St → List Log → Prop} : ∀ (xs : List GOp) (st : St) (l : List Log), runDraw Te xs st l Q → ∃ (sts : Nat → St) (L : List Log), sts 0 = st ∧ L.length = xs.length ∧ Q (sts xs.length) (l ++ L) ∧ ∀ (i : Nat) (x : GOp) (y : Log), xs[i]? = some x → L[i]? = some y → StepOf Te x (sts i) (sts (i + 1)) y
  | [], st, l, h => ⟨fun _ => st, [], rfl, rfl, by simpa [runDraw] using h, fun i x y hx => by simp at hx⟩
  | x :: xs, st, l, h => by
    obtain ⟨_, st', rd, wr, h1, _, _, h2, h3⟩ := runL_frame _ _ _ _ h
    obtain ⟨sts, L, e0, el, hq, hs⟩ := draw_seq xs st' _ h1
    refine ⟨fun i => match i with | 0 => st | i + 1 => sts i, (rd, wr) :: L, rfl, by simp [el], by simpa using hq, fun i y z hy hz => ?_⟩
    cases i with
    | zero =>
      simp at hy hz
      subst hy; subst hz
      simp only [e0]
      exact ⟨h2, fun st2 hh => h3 st2 hh (fun k hk => by cases hk)⟩
    | succ i => exact hs i y z (by simpa using hy) (by simpa using hz)
theorem chain {sts : Nat → St} {L : List Log} {N : Nat} (hs : ∀ i, i < N → ∀ y, L[i]? = some y → ∀ k, k ∉ y.2 → Agree (sts i) (sts (i + 1)) k) (hL : L.length = N) {k : Loc} : ∀ (b a : Nat), a ≤ b → b ≤ N → (∀ i y, a ≤ i → i < b → L[i]? = some y → k ∉ y.2) → Agree (sts a) (sts b) k
  | 0, a, h, _, _ => by
    have : a = 0 := by omega
    subst this
    exact Agree.refl _ _
  | b + 1, a, h, hb, hn => by
    by_cases e : a = b + 1
    · subst e; exact Agree.refl _ _
    · have h1 := chain hs hL b a (by omega) (by omega) (fun i y h1 h2 hy => hn i y h1 (by omega) hy)
      have hy : L[b]? = some L[b] := List.getElem?_eq_getElem (by omega)
      exact h1.trans (hs b (by omega) _ hy k (hn b _ (by omega) (by omega) hy))
/-- The value at a place is that of the last in line that has written it. -/
def RelOf (sts : Nat → St) (L : List Log) (S : Nat → Prop) (cur : St) : Prop := ∀ k, (∃ i y, S i ∧ L[i]? = some y ∧ k ∈ y.2 ∧ (∀ i' y', S i' → L[i']? = some y' → k ∈ y'.2 → i' ≤ i) ∧ Agree (sts (i + 1)) cur k) ∨ ((∀ i y, S i → L[i]? = some y → k ∉ y.2) ∧ Agree (sts 0) cur k)
structure DrawFacts (es : List (List Nat)) (sts : Nat → St) (L : List Log) : Prop where
  ord : ∀ (i j : Nat) (x y : Log), i < j → L[i]? = some x → L[j]? = some y → clear x y = true ∨ Anc es i j
  low : ∀ (j : Nat) (e : List Nat), es[j]? = some e → ∀ i ∈ e, i < j
  keep : ∀ (i : Nat) (y : Log), L[i]? = some y → ∀ k, k ∉ y.2 → Agree (sts i) (sts (i + 1)) k
theorem Anc.lt {es : List (List Nat)} (hl : ∀ (j : Nat) (e : List Nat), es[j]? = some e → ∀ i ∈ e, i < j) {i j : Nat} (h : Anc es i j) : i < j := by
  induction h with
  | base h1 h2 => exact hl _ _ h1 _ h2
  | step h1 h2 _ ih => have := hl _ _ h1 _ h2; omega
theorem Anc.inS {es : List (List Nat)} {S : Nat → Prop} (hc : ∀ (j : Nat) (e : List Nat), S j → es[j]? = some e → ∀ i ∈ e, S i) {i j : Nat} (h : Anc es i j) (hj : ∀ (e : List Nat), es[j]? = some e → ∀ i ∈ e, S i) : S i := by
  induction h with
  | base h1 h2 => exact hj _ h1 _ h2
  | step h1 h2 _ ih => exact ih (fun e he => hc _ e (hj _ h1 _ h2) he)
theorem rel_before {es : List (List Nat)} {sts : Nat → St} {L : List Log} {S : Nat → Prop} {cur : St} (F : DrawFacts es sts L) (hc : ∀ (j : Nat) (e : List Nat), S j → es[j]? = some e → ∀ i ∈ e, S i) (hr : RelOf sts L S cur) {j : Nat} {y : Log} (hy : L[j]? = some y) (hj : ¬ S j) (hp : ∀ e, es[j]? = some e → ∀ i ∈ e, S i) :
    ∀ k ∈ y.1, Agree (sts j) cur k := by
  intro k hk
  have hjl := (List.getElem?_eq_some_iff.1 hy).1
  have conf : ∀ i x, i < j → L[i]? = some x → k ∈ x.2 → S i := fun i x hi hx hkx => by
    rcases F.ord i j x y hi hx hy with h | h
    · exact absurd hk ((clear_spec h).1 k hkx).1
    · exact h.inS hc hp
  rcases hr k with ⟨i, x, hi, hx, hkx, hm, ha⟩ | ⟨hn, ha⟩
  · have hne : i ≠ j := fun e => hj (e ▸ hi)
    by_cases hlt : i < j
    · exact (chain (N := L.length) (fun i _ => F.keep i) rfl j (i + 1) (by omega) (by omega) (fun i' y' h1 h2 hy' hk' => by
        have := hm i' y' (conf i' y' h2 hy' hk') hy' hk'
        omega)).symm.trans ha
    · rcases F.ord j i y x (by omega) hy hx with h | h
      · exact absurd hk ((clear_spec h).2 k hkx)
      · exact absurd (h.inS hc (fun e he => hc i e hi he)) hj
  · exact (chain (N := L.length) (fun i _ => F.keep i) rfl j 0 (by omega) (by omega) (fun i' y' _ h2 hy' hk' => hn i' y' (conf i' y' h2 hy' hk') hy' hk')).symm.trans ha
theorem rel_after {es : List (List Nat)} {sts : Nat → St} {L : List Log} {S : Nat → Prop} {cur cur' : St} (F : DrawFacts es sts L) (hc : ∀ (j : Nat) (e : List Nat), S j → es[j]? = some e → ∀ i ∈ e, S i) (hr : RelOf sts L S cur) {j : Nat} {y : Log} (hy : L[j]? = some y) (hj : ¬ S j)
    (h1 : ∀ k ∈ y.2, Agree (sts (j + 1)) cur' k) (h2 : ∀ k, k ∉ y.2 → Agree cur cur' k) : RelOf sts L (fun i => S i ∨ i = j) cur' := by
  intro k
  by_cases hk : k ∈ y.2
  · refine .inl ⟨j, y, .inr rfl, hy, hk, fun i' y' hi' hy' hk' => ?_, h1 k hk⟩
    rcases hi' with hi' | rfl
    · by_cases hlt : j < i'
      · rcases F.ord j i' y y' hlt hy hy' with h | h
        · exact absurd hk' ((clear_spec h).1 k hk).2
        · exact absurd (h.inS hc (fun e he => hc i' e hi' he)) hj
      · omega
    · exact Nat.le_refl _
  · rcases hr k with ⟨i, x, hi, hx, hkx, hm, ha⟩ | ⟨hn, ha⟩
    · refine .inl ⟨i, x, .inl hi, hx, hkx, fun i' y' hi' hy' hk' => ?_, ha.trans (h2 k hk)⟩
      rcases hi' with hi' | rfl
      · exact hm i' y' hi' hy' hk'
      · rw [hy] at hy'
        simp at hy'
        subst hy'
        exact absurd hk' hk
    · refine .inr ⟨fun i x hi hx => ?_, ha.trans (h2 k hk)⟩
      rcases hi with hi | rfl
      · exact hn i x hi hx
      · rw [hy] at hx
        simp at hx
        subst hx
        exact hk
theorem rel_end {es : List (List Nat)} {sts : Nat → St} {L : List Log} {S : Nat → Prop} {cur : St} (F : DrawFacts es sts L) (hr : RelOf sts L S cur) (hS : ∀ i, i < L.length → S i) (k : Loc) : Agree (sts L.length) cur k := by
  rcases hr k with ⟨i, x, hi, hx, hkx, hm, ha⟩ | ⟨hn, ha⟩
  · have hil := (List.getElem?_eq_some_iff.1 hx).1
    exact (chain (N := L.length) (fun i _ => F.keep i) rfl L.length (i + 1) (by omega) (Nat.le_refl _) (fun i' y' h1 h2 hy' hk' => by
      have := hm i' y' (hS i' h2) hy' hk'
      omega)).symm.trans ha
  · exact (chain (N := L.length) (fun i _ => F.keep i) rfl L.length 0 (by omega) (Nat.le_refl _) (fun i' y' _ h2 hy' hk' => hn i' y' (hS i' h2) hy' hk')).symm.trans ha
theorem drawOk_spec {es : List (List Nat)} {sts : Nat → St} {L : List Log} (h : drawOk es L = true) (hk : ∀ (i : Nat) (y : Log), L[i]? = some y → ∀ k, k ∉ y.2 → Agree (sts i) (sts (i + 1)) k) : DrawFacts es sts L := by
  simp only [drawOk, Bool.and_eq_true] at h
  obtain ⟨h1, h2⟩ := h
  refine ⟨fun i j x y hij hx hy => ?_, fun j e he i hi => ?_, hk⟩
  · rcases logsOk_spec L [] _ h1 j y hy i x (by simpa using hx) (by simpa using hij) with h | h
    · exact .inl h
    · right
      simp only [List.length_nil, Nat.zero_add, List.getD_eq_getElem?_getD] at h
      cases ht : (ancs [] es)[j]? with
      | none => simp [ht] at h
      | some e =>
        simp only [ht, Option.getD_some] at h
        exact ancs_ok es es [] (fun k e h => by simpa using h) (fun j e h => by simp at h) j e ht i h
  · simp only [List.all_eq_true] at h2
    simpa using h2 (e, j) (List.mk_mem_zipIdx_iff_getElem?.2 he) i hi
theorem edges_get {j : Nat} {o : Oper} (h : ops[j]? = some o) : (edgesOf ops)[j]? = some ((o.after.toList.filter (Region.binds .any)).map (·.on)) := by
  simp [edgesOf, h]
theorem draw_any {es : List (List Nat)} {sts : Nat → St} {L : List Log} {xs : List GOp} {Q : Exit → Act → World → Prop} (hes : es = edgesOf ops) (F : DrawFacts es sts L) (hlen : L.length = ops.size)
    (hx : ∀ (i : Nat) (o : Oper), ops[i]? = some o → ∃ x, xs[i]? = some x ∧ gopOk P n ops o x = true) (hs : ∀ (i : Nat) (x : GOp) (y : Log), xs[i]? = some x → L[i]? = some y → StepOf (Tells P) x (sts i) (sts (i + 1)) y)
    (hQ : ∀ g a w, Sim X n g (sts L.length) [] a w → Q .normal a w) : ∀ (fuel : Nat) (listed : Array Bool) {g : Gh} {cur : St} {a : Act} {w : World}, listed.size = ops.size →
    tot (fun i => if listed.getD i true then 0 else 1) ops.size = fuel → (∀ (j : Nat) (e : List Nat), listed.getD j false = true → es[j]? = some e → ∀ i ∈ e, listed.getD i false = true) →
    RelOf sts L (fun i => listed.getD i false = true) cur → Sim X n g cur [] a w → wpAny P .any ops Q fuel listed a w := by
  have fin : ∀ (listed : Array Bool) {g : Gh} {cur : St} {a : Act} {w : World}, listed.size = ops.size → Region.ready .any ops listed = [] → RelOf sts L (fun i => listed.getD i false = true) cur → Sim X n g cur [] a w → Q .normal a w := by
    intro listed g cur a w hsz hr hrel h
    have hall : ∀ i, i < L.length → listed.getD i false = true := by
      intro i
      induction i using Nat.strongRecOn with
      | _ i ih =>
        intro hi
        cases hb : listed.getD i false with
        | true => rfl
        | false =>
          have hi' : i < ops.size := by omega
          have ho : ops[i]? = some ops[i] := Array.getElem?_eq_getElem hi'
          have : i ∈ Region.ready .any ops listed := mem_ready.2 ⟨by
            rw [Array.getD_eq_getD_getElem?] at hb ⊢
            rw [Array.getElem?_eq_getElem (by omega)] at hb ⊢
            simpa using hb, _, ho, fun e he hbnd => by
            have hlt := F.low i _ (by rw [hes]; exact edges_get ho) e.on (List.mem_map.2 ⟨e, List.mem_filter.2 ⟨by simpa using he, hbnd⟩, rfl⟩)
            exact ih e.on hlt (by omega)⟩
          rw [hr] at this
          cases this
    have := rel_end F hrel hall
    exact hQ g a w (h.ext (fun k => (this (.s k))) (fun k => this (.b k)) (fun k => this (.r k)))
  intro fuel
  induction fuel with
  | zero =>
    intro listed g cur a w hsz ht hc hrel h
    have hr : Region.ready .any ops listed = [] := by
      cases hr : Region.ready .any ops listed with
      | nil => rfl
      | cons j l =>
        have hj : j ∈ Region.ready .any ops listed := by rw [hr]; exact List.mem_cons_self ..
        obtain ⟨h1, o, ho, _⟩ := mem_ready.1 hj
        have := tot_le (f := fun i => if listed.getD i true then 0 else 1) (k := j) (n := ops.size) (Array.getElem?_eq_some_iff.1 ho).1
        simp only [h1] at this
        rw [ht] at this
        simp at this
    exact ⟨hr, fin listed hsz hr hrel h⟩
  | succ fuel ih =>
    intro listed g cur a w hsz ht hc hrel h
    refine ⟨fun hr => fin listed hsz hr hrel h, fun j hj => ?_⟩
    obtain ⟨h1, o, ho, hed⟩ := mem_ready.1 hj
    have hjs := (Array.getElem?_eq_some_iff.1 ho).1
    obtain ⟨x, hxj, hk⟩ := hx j o ho
    have hy : L[j]? = some L[j] := List.getElem?_eq_getElem (by omega)
    have hnS : ¬ listed.getD j false = true := by
      rw [Array.getD_eq_getD_getElem?] at h1 ⊢
      rw [Array.getElem?_eq_getElem (by omega)] at h1 ⊢
      simpa using h1
    have hp : ∀ e, es[j]? = some e → ∀ i ∈ e, listed.getD i false = true := fun e he i hi => by
      rw [hes, edges_get ho] at he
      simp at he
      subst he
      obtain ⟨e', he', rfl⟩ := List.mem_map.1 hi
      obtain ⟨h3, h4⟩ := List.mem_filter.1 he'
      exact hed e' (by simpa using h3) h4
    have hst := hs j x _ hxj hy
    have hb := rel_before (S := fun i => listed.getD i false = true) F hc hrel hy hnS hp
    have hrun := hst.2 cur hb
    refine wpOp_mono ?_ (gop_ok (Q := Q) h ho hk hrun)
    rintro a' w' ⟨g', st', ⟨r1, r2⟩, h'⟩
    have hset : ∀ i d, (listed.setIfInBounds j true).getD i d = if i = j then true else listed.getD i d := fun i d => by
      rw [Array.getD_eq_getD_getElem?, Array.getD_eq_getD_getElem?, Array.getElem?_setIfInBounds]
      by_cases e : i = j
      · subst e; simp [show i < listed.size by omega]
      · rw [if_neg (fun e' => e e'.symm), if_neg e]
    refine ih (listed.setIfInBounds j true) (by simpa using hsz) ?_ (fun i e hi he k hk' => ?_) ?_ h'
    · have := tot_upd (f := fun i => if listed.getD i true then 0 else 1) (f' := fun i => if (listed.setIfInBounds j true).getD i true then 0 else 1) (k := j) (n := ops.size) hjs (fun i hi => by simp only [hset, if_neg hi])
      simp only [hset, if_true, h1] at this
      rw [ht] at this
      simp only [hset]
      simp at this ⊢
      omega
    · rw [hset] at hi ⊢
      split
      · rfl
      · split at hi
        · rename_i e'; subst e'; exact hp e he k hk'
        · exact hc i e hi he k hk'
    · have := rel_after (S := fun i => listed.getD i false = true) F hc hrel hy hnS r1 r2
      have e : (fun i => (listed.setIfInBounds j true).getD i false = true) = (fun i => listed.getD i false = true ∨ i = j) := by
        funext i
        simp only [hset]
        by_cases e : i = j
        · simp [e]
        · simp [e]
      rw [e]
      exact this
theorem x_draw {id : Nat} {st : St} {Q : Ex → St → Prop} {xs : List GOp} {es : List (List Nat)} (hm : P.follows .mixedOrders = true) (hr : regL P n ops ops.toList xs = true) (hes : edgesOf ops = es)
    (hp : runDraw (Tells P) xs st [] (fun st' l => drawOk es l = true ∧ Q .nrm st')) : xC P X n (.region id ops true) st Q := fun g a w hs => by
  obtain ⟨h1, h2⟩ := regL_get hr
  obtain ⟨sts, L, e0, el, ⟨hd, hq⟩, hst⟩ := draw_seq xs st [] hp
  rw [List.nil_append] at hd
  have hlen : L.length = ops.size := by rw [el, ← h1]; simp
  have hkeep : ∀ (i : Nat) (y : Log), L[i]? = some y → ∀ k, k ∉ y.2 → Agree (sts i) (sts (i + 1)) k := fun i y hy => by
    have hi := (List.getElem?_eq_some_iff.1 hy).1
    exact (hst i xs[i] y (List.getElem?_eq_getElem (by omega)) hy).1
  have F := drawOk_spec hd hkeep
  refine wp_region_any hm ?_
  refine draw_any (X := X) (n := n) (xs := xs) hes.symm F hlen (fun i o ho => h2 i o (by rw [Array.getElem?_toList]; exact ho)) hst (fun g a w h => ⟨.nrm, g, _, trivial, by rw [← el] at hq; exact hq, h⟩) ops.size (Array.replicate ops.size false) (cur := st) (by simp) ?_ ?_ ?_ (hs.quiet (w' := { w with drawn := w.drawn + 1 }) ⟨rfl, rfl, rfl, Nat.le_refl _, fun _ _ _ => rfl⟩)
  · have : ∀ m, m ≤ ops.size → tot (fun i => if (Array.replicate ops.size false).getD i true then 0 else 1) m = m := by
      intro m
      induction m with
      | zero => intro _; rfl
      | succ m ih =>
        intro hm
        have e : (Array.replicate ops.size false).getD m true = false := by
          rw [Array.getD_eq_getD_getElem?, Array.getElem?_replicate, if_pos (by omega)]; rfl
        simp only [tot, ih (by omega), e]
        simp
    exact this _ (Nat.le_refl _)
  · intro j e hj
    rw [Array.getD_eq_getD_getElem?, Array.getElem?_replicate] at hj
    split at hj <;> simp at hj
  · intro k
    refine .inr ⟨fun i y hi => ?_, by rw [e0]; exact Agree.refl _ _⟩
    simp only [Array.getD_eq_getD_getElem?, Array.getElem?_replicate] at hi
    split at hi <;> simp at hi
end
end Go.X
