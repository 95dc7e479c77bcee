/- Texts: XOpen CA CB CC CD CE CEa. -/
import Derived.Test.YthfpiilfndlnaaaGreatDoorCc
import Derived.SizedLaws
import Derived.Deep.Slices
import Derived.ChangeArms
import Derived.WideShapes
import Derived.Below
set_option linter.unusedVariables false
set_option linter.unusedSimpArgs false
/- How what comes in reads; how a law is asked. -/
namespace Go.X
open Go.WideShapes Go.RowKit
def Old (w : World) : Nat → Prop := fun b => b < w.heap.size
def RdL (S : Nat → Prop) (w : World) (ts : List T) (vs : List Value) : Prop := ts.length = vs.length ∧ ∀ (k : Nat) (t : T) (v : Value), ts[k]? = some t → vs[k]? = some v → Rd S w t v
theorem RdL.app {S : Nat → Prop} {w : World} {a b : List T} {vs us : List Value} (h : RdL S w a vs) (h' : RdL S w b us) : RdL S w (a ++ b) (vs ++ us) :=
  ⟨by simp [h.1, h'.1], fun k t v ht hv => by
    by_cases hk : k < a.length
    · rw [List.getElem?_append_left hk] at ht
      rw [List.getElem?_append_left (by have := h.1; omega)] at hv
      exact h.2 k t v ht hv
    · rw [List.getElem?_append_right (by omega)] at ht
      rw [List.getElem?_append_right (by have := h.1; omega), ← h.1] at hv
      exact h'.2 _ t v ht hv⟩
theorem RdL.one {S : Nat → Prop} {w : World} {t : T} {v : Value} (h : Rd S w t v) : RdL S w [t] [v] := ⟨rfl, fun k t' v' ht hv => by
  cases k with
  | zero => simp at ht hv; subst ht; subst hv; exact h
  | succ k => simp at ht⟩
/-- Every reading of type t is a value that is told so and meets p. -/
def OpT {α : Type} (P : Program) (t : TypeId) (e : α → List T) (p : α → Prop) : Prop :=
  ∀ (H : Type) (enc : TypeId × Value → H) (w : World) (fuel : Nat) (cs : List Value) (x : DataW H × List MemPlace), DataW.trod enc P w 0 (fun _ => true) true fuel t cs = some x →
    (∀ n ∈ x.1.weights P t, n ≤ 140737488351232) → ∃ a, p a ∧ RdL (Old w) w (e a) cs
def FT {α : Type} (P : Program) (fs : List Field) (off z : Nat) (e : α → List T) (p : α → Prop) : Prop :=
  ∀ (H : Type) (enc : TypeId × Value → H) (w : World) (n : Nat) (cs : List Value) (xs : List (DataW H × List MemPlace)),
    (∀ (i : Nat) (f : Field), fs[i]? = some f → DataW.trod enc P w 0 (fun _ => true) true n f.type ((cs.drop f.offset).take (P.cellsOf f.type)) = xs[i]?) → xs.length = fs.length →
    (∀ m ∈ DataW.weightsEach P (fs.map (·.type)) (xs.map (·.1)), m ≤ 140737488351232) → cs.length = off + z → ∃ a, p a ∧ RdL (Old w) w (e a) (cs.drop off)
def InI (k : IntKind) (a : Int) : Prop := (Lit.int k a).wf = true
section
variable {P : Program} {t : TypeId}
theorem OpT.int {k : IntKind} (ht : P.underlying t = some (.int k)) : OpT P t (fun a => [.pv (.int k a)]) (InI k) := fun H enc w fuel cs x h _ => by
  obtain ⟨n, rfl, _, hw⟩ := DataW.trod_int ht h
  exact ⟨n, hw, .one (.pv rfl)⟩
theorem OpT.byte (ht : P.underlying t = some (.int .u8)) : OpT P t (fun a : UInt8 => [.pv (.int .u8 a.toNat)]) (fun _ => True) := fun H enc w fuel cs x h _ => by
  obtain ⟨n, rfl, _, hw⟩ := DataW.trod_int ht h
  have hn : 0 ≤ n ∧ n ≤ 255 := by
    have hw' := hw
    simp only [Lit.wf, Bool.and_eq_true, decide_eq_true_eq] at hw'
    exact hw'
  refine ⟨UInt8.ofNat n.toNat, trivial, ?_⟩
  have e : ((UInt8.ofNat n.toNat).toNat : Int) = n := by rw [UInt8.toNat_ofNat']; omega
  show RdL (Old w) w [.pv (.int .u8 ((UInt8.ofNat n.toNat).toNat : Int))] _
  rw [e]
  exact .one (.pv rfl)
theorem OpT.bool (ht : P.underlying t = some .bool) : OpT P t (fun a => [.pv (.bool a)]) (fun _ => True) := fun H enc w fuel cs x h _ => by
  obtain ⟨n, rfl, _⟩ := DataW.trod_bool ht h
  exact ⟨n, trivial, .one (.pv rfl)⟩
theorem OpT.string (ht : P.underlying t = some .string) : OpT P t (fun a => [.pv (.string a)]) (fun a => a.size ≤ 140737488351232) := fun H enc w fuel cs x h hw => by
  obtain ⟨s, rfl, rfl, hs⟩ := DataW.trod_string ht h
  refine ⟨s, ?_, .one (.pv rfl)⟩
  have := hw s.data.toList.length (by simp [DataW.weights])
  simpa using this
theorem old_of_cell {w : World} {ad : Addr} {v : Value} (h : w.cell? ad = some v) : ad.block < w.heap.size := by
  unfold World.cell? at h
  cases hb : w.heap[ad.block]? with
  | none => simp [hb] at h
  | some _ => exact (Array.getElem?_eq_some_iff.1 hb).1
theorem mem_allW {H : Type} {e : TypeId} {d : DataW H} {n : Nat} (hn : n ∈ d.weights P e) : ∀ {l : List (DataW H)}, d ∈ l → n ∈ DataW.weightsAll P e l
  | [], h => by cases h
  | y :: l, h => by
    simp only [DataW.weightsAll, List.mem_append]
    rcases List.mem_cons.1 h with rfl | h
    · exact .inl hn
    · exact .inr (mem_allW hn h)
theorem OpT.slice {α : Type} {e : TypeId} {en : α → List T} {p : α → Prop} (z B : Nat) (ht : P.underlying t = some (.slice e)) (hc : P.cellsOf e = z) (hB : P.bytesOf e = B) (h : OpT P e en p) :
    OpT P t (fun l : List α => [.sl false z () (l.map en)]) (fun l => l.length * B ≤ 140737488351232 ∧ ∀ a ∈ l, p a) := fun H enc w fuel cs x hx hw => by
  rcases Deep.open_slice ht hx with ⟨rfl, rfl⟩ | ⟨ad, len, cap, m, n, D, Pl, rfl, _, hl, hm, hmm, rfl, hel⟩
  · refine ⟨[], ⟨by simp, fun _ h => by cases h⟩, .one ?_⟩
    exact Rd.sl (rows := []) (fun _ _ => undef) (Nat.le_refl _) (by simp [maxLen]) (fun r hr => by cases hr) (fun i r j t hr => by simp at hr) (fun i r j t hr => by simp at hr)
  · simp only [if_true] at hmm
    replace hmm := hmm.symm
    subst hmm
    have hel' : ∀ i, i < len → ∃ a, p a ∧ ∃ c : List Value, c.length = z ∧ RdL (Old w) w (en a) c ∧ ∀ j u, c[j]? = some u → w.cell? (ad.add (i * z + j)) = some u := fun i hi => by
      obtain ⟨c, h1, h2⟩ := hel i (by omega)
      have hww : ∀ k ∈ (D i).weights P e, k ≤ 140737488351232 := fun k hk => hw k (by
        simp only [DataW.weights, ht, List.mem_cons, List.mem_append]
        exact .inr (.inl (mem_allW hk (List.mem_map.2 ⟨i, by simpa using hi, rfl⟩))))
      obtain ⟨a, hpa, ha⟩ := h H enc w n c _ h2 hww
      obtain ⟨_, hlen, hcell⟩ := World.cells?_some h1
      refine ⟨a, hpa, c, hlen.trans hc, ha, fun j u hu => ?_⟩
      have hj : j < c.length := (List.getElem?_eq_some_iff.1 hu).1
      have := hcell j (by omega)
      rw [hu, Deep.add_add, hc] at this
      exact this
    have : ∃ l : List α, l.length = len ∧ ∀ i a, l[i]? = some a → p a ∧ ∃ c : List Value, c.length = z ∧ RdL (Old w) w (en a) c ∧ ∀ j u, c[j]? = some u → w.cell? (ad.add (i * z + j)) = some u := by
      clear hx hw hel hl
      induction len with
      | zero => exact ⟨[], rfl, fun i a h => by simp at h⟩
      | succ len ih =>
        obtain ⟨l, hl, hh⟩ := ih (fun i hi => hel' i (by omega))
        obtain ⟨a, ha⟩ := hel' len (by omega)
        refine ⟨l ++ [a], by simp [hl], fun i b hb => ?_⟩
        by_cases hi : i < l.length
        · exact hh i b (by rwa [List.getElem?_append_left hi] at hb)
        · have hi' : i = len := by
            have := (List.getElem?_eq_some_iff.1 hb).1
            simp at this
            omega
          subst hi'
          rw [List.getElem?_append_right (by omega), hl] at hb
          simp at hb
          subst hb
          exact ha
    obtain ⟨l, hll, hh⟩ := this
    have hsz : len * B ≤ 140737488351232 := by
      have z := hw ((((List.range len).map D).length + ((List.range (cap - len)).map fun j => D (len + j)).length) * P.bytesOf e) (by simp [DataW.weights, ht])
      rw [hB] at z
      simp only [List.length_map, List.length_range] at z
      exact Nat.le_trans (Nat.mul_le_mul_right _ (by omega)) z
    refine ⟨l, ⟨by rw [hll]; exact hsz, fun a ha => ?_⟩, .one ?_⟩
    · obtain ⟨i, hi, rfl⟩ := List.mem_iff_getElem.1 ha
      exact (hh i _ (List.getElem?_eq_getElem hi)).1
    · have key : ∀ i r j t, (l.map en)[i]? = some r → r[j]? = some t → w.cell? (ad.add (i * z + j)) = some ((w.cell? (ad.add (i * z + j))).getD undef) ∧ Rd (Old w) w t ((w.cell? (ad.add (i * z + j))).getD undef) := fun i r j t hr hj => by
        rw [List.getElem?_map] at hr
        cases hi : l[i]? with
        | none => simp [hi] at hr
        | some a =>
          simp [hi] at hr
          subst hr
          obtain ⟨_, c, h1, h2, h3⟩ := hh i a hi
          have hjl : j < c.length := by rw [← h2.1]; exact (List.getElem?_eq_some_iff.1 hj).1
          have h4 := h3 j c[j] (List.getElem?_eq_getElem hjl)
          rw [h4]
          exact ⟨rfl, h2.2 j t _ hj (List.getElem?_eq_getElem hjl)⟩
      have := Rd.sl (S := Old w) (w := w) (z := z) (cap := cap) (a := some ad) (rows := l.map en) (fun i j => (w.cell? (ad.add (i * z + j))).getD undef) (by simp; omega) hm (fun r hr => by
        obtain ⟨a, ha, rfl⟩ := List.mem_map.1 hr
        obtain ⟨i, hi, rfl⟩ := List.mem_iff_getElem.1 ha
        obtain ⟨_, c, h1, h2, h3⟩ := hh i _ (List.getElem?_eq_getElem hi)
        rw [h2.1, h1]) (fun i r j t hr hj => by
        obtain ⟨h1, h2⟩ := key i r j t hr hj
        refine ⟨ad, rfl, ?_, h1⟩
        have := old_of_cell h1
        rwa [add_block] at this) (fun i r j t hr hj => (key i r j t hr hj).2)
      rw [List.length_map, hll] at this
      exact this
theorem FT.one {α : Type} {e : α → List T} {p : α → Prop} {f : Field} {off z : Nat} (ho : f.offset = off) (hc : P.cellsOf f.type = z) (h : OpT P f.type e p) : FT P [f] off z e p := fun H enc w n cs xs hx hl hw hlen => by
  match xs, hl with
  | [x], _ =>
    have h0 := hx 0 f rfl
    rw [ho, hc, List.take_of_length_le (by rw [List.length_drop]; omega)] at h0
    exact h H enc w n _ x (by simpa using h0) (fun m hm => hw m (by simp only [List.map_cons, List.map_nil, DataW.weightsEach, List.append_nil]; exact hm))
theorem FT.cons {α β : Type} {e : α → List T} {e' : β → List T} {p : α → Prop} {p' : β → Prop} {f : Field} {fs : List Field} {off z z' : Nat} (ho : f.offset = off) (hc : P.cellsOf f.type = z) (h : OpT P f.type e p) (h' : FT P fs (off + z) z' e' p') :
    FT P (f :: fs) off (z + z') (fun a : α × β => e a.1 ++ e' a.2) (fun a => p a.1 ∧ p' a.2) := fun H enc w n cs xs hx hl hw hlen => by
  match xs, hl with
  | x :: xs, hl =>
    have h0 := hx 0 f rfl
    rw [ho, hc] at h0
    obtain ⟨a, hpa, ha⟩ := h H enc w n _ x (by simpa using h0) (fun m hm => hw m (by simp only [List.map_cons, DataW.weightsEach, List.mem_append]; exact .inl hm))
    obtain ⟨b, hpb, hb⟩ := h' H enc w n cs xs (fun i g hg => by simpa using hx (i + 1) g (by simpa using hg)) (by simpa using hl)
      (fun m hm => hw m (by simp only [List.map_cons, DataW.weightsEach, List.mem_append]; exact .inr hm)) (by omega)
    refine ⟨(a, b), ⟨hpa, hpb⟩, ?_⟩
    have := ha.app hb
    rwa [← List.drop_drop, List.take_append_drop] at this
theorem OpT.struct {α β : Type} {e : α → List T} {e' : β → List T} {p : α → Prop} {q : β → Prop} {fs : Array Field} {z : Nat} (ht : P.underlying t = some (.struct fs)) (hc : P.cellsOf t = z) (h : FT P fs.toList 0 z e p) (g : α → β) (hg : ∀ a, e' (g a) = e a) (hq : ∀ a, p a → q (g a)) :
    OpT P t e' q := fun H enc w fuel cs x hx hw => by
  obtain ⟨xs, n, _, rfl, hl, hlen, hf⟩ := DataW.trod_struct ht hx
  obtain ⟨a, hpa, ha⟩ := h H enc w n cs xs (fun i f hi => hf i f (by simpa using hi)) (by simpa using hlen) (fun m hm => hw m (by simpa only [DataW.weights, ht] using hm)) (by omega)
  exact ⟨g a, hq a hpa, by rw [hg]; simpa using ha⟩
theorem OpT.weaken {α : Type} {e : α → List T} {p q : α → Prop} (h : OpT P t e p) (hq : ∀ a, p a → q a) : OpT P t e q := fun H enc w fuel cs x hx hw => by
  obtain ⟨a, hp, ha⟩ := h H enc w fuel cs x hx hw
  exact ⟨a, hq a hp, ha⟩
/-- A parameter's value. -/
theorem OpT.param {α : Type} {e : α → List T} {p : α → Prop} (h : OpT P t e p) {H : Type} {enc : TypeId × Value → H} {W : World} {v : Value} {x : DataW H} {ps : List MemPlace} {ts : List TypeId} {ds : List (DataW H)} (hT : DataW.Trod enc P W 0 (fun _ => true) true t v x ps)
    (hsz : (DataW.weightsEach P ts ds).all (· ≤ reachBytes) = true) (j : Nat) (hj : ts[j]? = some t) (hd : ds[j]? = some x) : ∃ a, p a ∧ RdL (Old W) W (e a) v.cells.toList := by
  obtain ⟨fuel, hf⟩ := hT
  exact h H enc W fuel _ _ hf (fun n hn => by
    have := List.all_eq_true.1 hsz _ (DataW.weights_mem_each hj hd n hn)
    exact of_decide_eq_true this)
theorem lt_of_trod {H : Type} {enc : TypeId × Value → H} {W : World} {v : Value} {x : DataW H} {ps : List MemPlace} (h : DataW.Trod enc P W 0 (fun _ => true) true t v x ps) : ∀ y ∈ ps, y.block < W.heap.size := by
  obtain ⟨m, hm⟩ := h
  exact DataW.trod_lt m _ _ _ hm
/-- An argument, and how it reads. -/
def RdA (w : World) : AV → Value → Prop
  | .one t, v => Rd (Old w) w t v
  | .agg ts, v => ∃ vs : List Value, v = .agg vs.toArray ∧ RdL (Old w) w ts vs
  | .ptr _, _ => False
def RdAs (w : World) : List AV → List Value → Prop
  | [], [] => True
  | a :: as, v :: vs => RdA w a v ∧ RdAs w as vs
  | _, _ => False
theorem rdL_ghost {w : World} : ∀ {ts : List T} {vs : List Value}, RdL (Old w) w ts vs → ∃ gs : List G, gs.map er = ts ∧ gs.map hdr = vs ∧ ∀ t ∈ gs, Rp (Old w) w t ∧ ∀ b, cnt b t = 0
  | [], [], _ => ⟨[], rfl, rfl, fun t h => by cases h⟩
  | t :: ts, v :: vs, h => by
    obtain ⟨gs, e1, e2, e3⟩ := rdL_ghost (ts := ts) (vs := vs) ⟨by simpa using h.1, fun k t v ht hv => h.2 (k + 1) t v (by simpa using ht) (by simpa using hv)⟩
    obtain ⟨f1, f2, f3⟩ := gro_ok (h.2 0 t v rfl rfl)
    exact ⟨gro t v :: gs, by simp [gro_er, e1], by simp [f1, e2], fun t' ht' => by
      rcases List.mem_cons.1 ht' with rfl | ht'
      · exact ⟨f2, f3⟩
      · exact e3 t' ht'⟩
  | [], _ :: _, h => by simp [RdL] at h
  | _ :: _, [], h => by simp [RdL] at h
theorem rdAs_ghost {w : World} : ∀ {as : List AV} {vs : List Value}, RdAs w as vs → ∃ gs : List GA, gs.map GA.er = as ∧ gs.map GA.val = vs ∧ (∀ x ∈ gs, x.ok (Old w) w ∧ noPtr x) ∧ ∀ b, treeCnt b gs + ptrCnt b gs = 0
  | [], [], _ => ⟨[], rfl, rfl, fun x h => (by cases h), fun b => rfl⟩
  | a :: as, v :: vs, h => by
    obtain ⟨gs, e1, e2, e3, e4⟩ := rdAs_ghost h.2
    have h1 := h.1
    cases a with
    | one t =>
      obtain ⟨f1, f2, f3⟩ := gro_ok (show Rd (Old w) w t v from h1)
      refine ⟨.one (gro t v) :: gs, by simp [GA.er, gro_er, e1], by simp [GA.val, f1, e2], fun x hx => ?_, fun b => ?_⟩
      · rcases List.mem_cons.1 hx with rfl | hx
        · exact ⟨⟨fun t ht => by simp only [GA.ts, List.mem_singleton] at ht; subst ht; exact f2, fun A ts e => by cases e⟩, trivial⟩
        · exact e3 x hx
      · have := e4 b
        have := f3 b
        simp only [treeCnt, ptrCnt, List.flatMap_cons, cntL_append, GA.ts, GA.pb, cntL] at *
        omega
    | agg ts =>
      obtain ⟨us, rfl, hR⟩ := h1
      obtain ⟨ys, f1, f2, f3⟩ := rdL_ghost hR
      refine ⟨.agg ys :: gs, by simp [GA.er, f1, e1], by simp [GA.val, f2, e2], fun x hx => ?_, fun b => ?_⟩
      · rcases List.mem_cons.1 hx with rfl | hx
        · exact ⟨⟨fun t ht => (f3 t ht).1, fun A ts e => by cases e⟩, trivial⟩
        · exact e3 x hx
      · have h4 := e4 b
        have z : cntL b ys = 0 := by
          have : ∀ l : List G, (∀ t ∈ l, cnt b t = 0) → cntL b l = 0 := fun l => by
            induction l with
            | nil => intro _; rfl
            | cons t l ih => intro h; simp [cntL, h t (List.mem_cons_self ..), ih (fun t ht => h t (List.mem_cons_of_mem _ ht))]
          exact this _ (fun t ht => (f3 t ht).2 b)
        simp only [treeCnt, ptrCnt, List.flatMap_cons, cntL_append, GA.ts, GA.pb] at *
        omega
    | ptr => exact h1.elim
  | [], _ :: _, h => h.elim
  | _ :: _, [], h => h.elim
/-- A law is asked. -/
theorem asked {KP : Kept} {f : Nat} {as : List AV} {args : Array Value} {w : World} {u : Value} {os : List (List T)} (hT : Tells P KP f as ⟨[.one (.pv u)], os⟩) (ha : RdAs w as args.toList) (hK : KP.ok (Old w) w) : Calls P f args w fun e w' => e = .returned u ∧ Below w.heap.size w w' := by
  obtain ⟨gs, e1, e2, e3, e4⟩ := rdAs_ghost ha
  have := hT (Old w) gs w e1 (fun b h => h) (fun x hx => (e3 x hx).1) (fun b => by have := e4 b; omega) (fun b hb => by have := e4 b; omega) hK
  rw [e2] at this
  refine this.mono ?_
  rintro e w1 ⟨rs, os', rfl, er1, er2, hrs, hos, hOut, hc1, hc2, hF, _⟩
  have hrs' : rs = [.one (.pv u)] := by
    cases rs with
    | nil => simp at er1
    | cons y ys =>
      cases ys with
      | cons => simp at er1
      | nil =>
        simp at er1
        cases y with
        | one t =>
          simp only [GA.er, AV.one.injEq] at er1
          cases t <;> simp_all [er]
        | _ => simp [GA.er] at er1
  subst hrs'
  exact ⟨rfl, ⟨hF.os, hF.tape, hF.output, hF.size, fun b hb => hF.block b hb (e4 b)⟩⟩
end
end Go.X

/- A -/
namespace Go.X
set_option maxRecDepth 100000
set_option maxHeartbeats 8000000
abbrev iT (a : Int) : T := .pv (.int .i64 a)
abbrev bT (a : Bool) : T := .pv (.bool a)
abbrev sT (s : ByteArray) : T := .pv (.string s)
abbrev uT (a : UInt8) : T := .pv (.int .u8 a.toNat)
abbrev slT {α : Type} (o : Bool) (z : Nat) (f : α → List T) (l : List α) : T := .sl o z () (l.map f)
abbrev bR (a : Bool) : List T := [bT a]
abbrev sR (a : ByteArray) : List T := [sT a]
abbrev iR (a : Int) : List T := [iT a]
abbrev uR (a : UInt8) : List T := [uT a]
/-- What is left of a measure. -/
def left (a : Int) : Int := if a < 0 then -1 else a
def Sane (f : Int → Int) : Prop := ∀ k, 0 ≤ k → f k ≤ k
def SaneL (fs : List (Int → Int)) : Prop := ∀ f ∈ fs, Sane f
theorem SaneL.nil : SaneL [] := fun _ h => by cases h
theorem SaneL.cons {f : Int → Int} {fs : List (Int → Int)} (h : Sane f) (t : SaneL fs) : SaneL (f :: fs) := fun g hg => by
  rcases List.mem_cons.1 hg with rfl | hg
  · exact h
  · exact t _ hg
/-- One measure behind the other, as long as something is left. -/
def szAll : List (Int → Int) → Int → Int
  | [], k => k
  | f :: fs, k => if f k < 0 then -1 else szAll fs (f k)
def ExL (n : Int) : List (Int → Int) → Prop
  | [] => True
  | f :: fs => (∃ j, 0 ≤ j ∧ j ≤ n ∧ 0 ≤ f j) ∧ ExL n fs
theorem Sane.all {fs : List (Int → Int)} (h : SaneL fs) : Sane (szAll fs) := by
  induction fs with
  | nil => intro k hk; exact Int.le_refl _
  | cons f fs ih =>
    intro k hk
    have h1 := h f (List.mem_cons_self ..) k hk
    simp only [szAll]
    split
    · omega
    · have := ih (fun g hg => h g (List.mem_cons_of_mem _ hg)) (f k) (by omega)
      omega
theorem szAll_ex {fs : List (Int → Int)} (h : SaneL fs) {k n : Int} (hk : 0 ≤ k) (hn : k ≤ n) (h0 : 0 ≤ szAll fs k) : ExL n fs := by
  induction fs generalizing k with
  | nil => trivial
  | cons f fs ih =>
    have h1 := h f (List.mem_cons_self ..) k hk
    simp only [szAll] at h0
    split at h0
    · omega
    · exact ⟨⟨k, hk, hn, by omega⟩, ih (fun g hg => h g (List.mem_cons_of_mem _ hg)) (k := f k) (by omega) (by omega) h0⟩
theorem Sane.sub (n : Nat) : Sane (fun k => k - n) := fun k hk => by show k - (n : Int) ≤ k; omega
theorem Sane.left (n : Nat) : Sane (fun k => left (k - n)) := fun k hk => by
  show Go.X.left (k - (n : Int)) ≤ k
  unfold Go.X.left
  split <;> omega
theorem left_nn {a : Int} (h : ¬ left a < 0) : left a = a := by
  unfold left at h ⊢
  split at h
  · omega
  · rw [if_neg (by assumption)]
theorem left_in {k : Int} {n : Nat} (h : 0 ≤ left (k - n)) : (n : Int) ≤ k := by
  unfold left at h
  split at h <;> omega
/-- What is left of a measure behind a row of things. -/
def szSl {α : Type} (f : α → Int → Int) (l : List α) (k : Int) : Int := szAll ((fun k => k - l.length) :: l.map f) k
theorem Sane.sl {α : Type} {f : α → Int → Int} (hf : ∀ a, Sane (f a)) (l : List α) : Sane (szSl f l) := by
  refine Sane.all (.cons (.sub _) fun g hg => ?_)
  obtain ⟨a, _, rfl⟩ := List.mem_map.1 hg
  exact hf a
theorem ExL_map {α : Type} {f : α → Int → Int} {n : Int} : ∀ {l : List α}, ExL n (l.map f) → ∀ a ∈ l, ∃ j, 0 ≤ j ∧ j ≤ n ∧ 0 ≤ f a j
  | [], _, a, h => by cases h
  | b :: l, ⟨h1, h2⟩, a, h => by
    rcases List.mem_cons.1 h with rfl | h
    · exact h1
    · exact ExL_map h2 a h
theorem szSl_in {α : Type} {f : α → Int → Int} {P : α → Prop} {n : Nat} (hf : ∀ a, Sane (f a)) (hP : ∀ a j, 0 ≤ j → j ≤ (n : Int) → 0 ≤ f a j → P a) {l : List α} {k : Int} (hk : 0 ≤ k) (hn : k ≤ n) (h : 0 ≤ szSl f l k) : l.length ≤ n ∧ ∀ a ∈ l, P a := by
  obtain ⟨⟨j, h1, h2, h3⟩, h4⟩ := szAll_ex (.cons (.sub _) fun g hg => by obtain ⟨a, _, rfl⟩ := List.mem_map.1 hg; exact hf a) hk hn h
  refine ⟨by have h5 : (0 : Int) ≤ j - (l.length : Nat) := h3; omega, fun a ha => ?_⟩
  obtain ⟨j, q1, q2, q3⟩ := ExL_map h4 a ha
  exact hP a j q1 q2 q3
def szStr (s : ByteArray) (k : Int) : Int := left (k - s.size)
theorem szStr_sane (s : ByteArray) : Sane (szStr s) := Sane.left _
theorem fill_get {α : Type} (f : α → List T) (l : List α) (z : List T) {i : Nat} (hi : i < l.length) : ((l.take i).map f ++ List.replicate (l.length - i) z)[i]? = some z := by
  rw [List.getElem?_append_right (by simp; omega), List.getElem?_replicate, if_pos (by simp; omega)]
theorem fill_set {α : Type} (f : α → List T) (l : List α) (z : List T) {i : Nat} (hi : i < l.length) : ((l.take i).map f ++ List.replicate (l.length - i) z).set i (f l[i]) = (l.take (i + 1)).map f ++ List.replicate (l.length - (i + 1)) z := by
  rw [List.set_append_right _ _ (by simp; omega), List.take_succ_eq_append_getElem hi, List.map_append, List.append_assoc]
  congr 1
  have e : l.length - i = (l.length - (i + 1)) + 1 := by omega
  rw [e, List.replicate_succ]
  have : i - ((l.take i).map f).length = 0 := by simp; omega
  rw [this]
  rfl
theorem fill_len {α : Type} (f : α → List T) (l : List α) (z : List T) {i : Nat} (hi : i ≤ l.length) : ((l.take i).map f ++ List.replicate (l.length - i) z).length = l.length := by simp; omega
theorem fill_end {α : Type} (f : α → List T) (l : List α) (z : List T) : (l.take l.length).map f ++ List.replicate (l.length - l.length) z = l.map f := by simp
/-- As far as i they are the same. -/
theorem same_step {α : Type} {l m : List α} {i : Nat} (hl : i < l.length) (hm : i < m.length) (h : l.take i = m.take i) (he : l[i] = m[i]) : l.take (i + 1) = m.take (i + 1) := by
  rw [List.take_succ_eq_append_getElem hl, List.take_succ_eq_append_getElem hm, h, he]
theorem same_end {α : Type} {l m : List α} {i : Nat} (hl : l.length ≤ i) (hm : m.length ≤ i) (h : l.take i = m.take i) : l = m := by
  rwa [List.take_of_length_le hl, List.take_of_length_le hm] at h
theorem all_step {α : Type} {l : List α} {p : α → Bool} {i : Nat} (hi : i < l.length) (h : (l.take i).all p = true) (h2 : p l[i] = true) : (l.take (i + 1)).all p = true := by
  rw [List.take_succ_eq_append_getElem hi, List.all_append, h, List.all_cons, h2]; rfl
theorem all_not {α : Type} {l : List α} {p : α → Bool} {i : Nat} (hi : i < l.length) (h2 : p l[i] = false) : l.all p = false := by
  rw [List.all_eq_false]; exact ⟨l[i], List.getElem_mem hi, by simp [h2]⟩
theorem all_end {α : Type} {l : List α} {p : α → Bool} {i : Nat} (hi : l.length ≤ i) (h : (l.take i).all p = true) : l.all p = true := by
  rwa [List.take_of_length_le hi] at h
/-- The marks of n things from k on, w to each. -/
def marks {α : Type} (w : Nat) (mk : Int → α) (n : Nat) (k : Int) : List α := (List.range n).map fun i => mk (k + (w * i : Nat))
theorem marks_length {α : Type} (w : Nat) (mk : Int → α) (n : Nat) (k : Int) : (marks w mk n k).length = n := by simp [marks]
theorem marks_succ {α : Type} (w : Nat) (mk : Int → α) (n : Nat) (k : Int) : marks w mk (n + 1) k = marks w mk n k ++ [mk (k + (w * n : Nat))] := by simp [marks, List.range_succ]
theorem marks_get {α : Type} (w : Nat) (mk : Int → α) {n i : Nat} (k : Int) (h : i < n) : (marks w mk n k)[i]? = some (mk (k + (w * i : Nat))) := by simp [marks, h]
theorem mark_get {α : Type} (f : α → List T) (w : Nat) (mk : Int → α) (l : List α) (k : Int) {i : Nat} (hi : i < l.length) : ((marks w mk i k).map f ++ (l.drop i).map f)[i]? = some (f l[i]) := by
  rw [List.getElem?_append_right (by simp [marks_length]), List.length_map, marks_length, Nat.sub_self, List.getElem?_map, List.getElem?_drop]
  simp [hi]
theorem mark_set {α : Type} (f : α → List T) (w : Nat) (mk : Int → α) (l : List α) (k : Int) {i : Nat} (hi : i < l.length) : ((marks w mk i k).map f ++ (l.drop i).map f).set i (f (mk (k + (w * i : Nat)))) = (marks w mk (i + 1) k).map f ++ (l.drop (i + 1)).map f := by
  rw [List.set_append_right _ _ (by simp [marks_length]), List.length_map, marks_length, Nat.sub_self, List.drop_eq_getElem_cons hi, List.map_cons, List.set_cons_zero, marks_succ, List.map_append, List.append_assoc]
  rfl
theorem mark_len {α : Type} (f : α → List T) (w : Nat) (mk : Int → α) (l : List α) (k : Int) {i : Nat} (hi : i ≤ l.length) : ((marks w mk i k).map f ++ (l.drop i).map f).length = l.length := by simp [marks_length]; omega
theorem mark_reget {α : Type} (f : α → List T) (w : Nat) (mk : Int → α) (l : List α) (k : Int) {i : Nat} (hi : i < l.length) (r : List T) : (((marks w mk i k).map f ++ (l.drop i).map f).set i r)[i]? = some r := by
  rw [List.getElem?_set_self (by rw [mark_len f w mk l k (by omega)]; exact hi)]
theorem mark_end {α : Type} (f : α → List T) (w : Nat) (mk : Int → α) (l : List α) (k : Int) : (marks w mk l.length k).map f ++ (l.drop l.length).map f = (marks w mk l.length k).map f := by simp
theorem marks_take {α β : Type} (f : α → β) (w : Nat) (mk : Int → α) (n : Nat) (k : Int) : ((marks w mk n k).map f).take n = (marks w mk n k).map f := by rw [List.take_of_length_le (by simp [marks_length])]
/-- Marks of things that are not of one size. -/
def markL {α : Type} (m : α → Int → α) (f : α → Int → Int) : List α → Int → List α
  | [], _ => []
  | x :: l, k => m x k :: markL m f l (f x k)
def farL {α : Type} (f : α → Int → Int) : List α → Int → Int
  | [], k => k
  | x :: l, k => farL f l (f x k)
theorem markL_length {α : Type} (m : α → Int → α) (f : α → Int → Int) : ∀ (l : List α) (k : Int), (markL m f l k).length = l.length
  | [], _ => rfl
  | x :: l, k => by simp only [markL, List.length_cons, markL_length m f l]
theorem farL_take {α : Type} (f : α → Int → Int) : ∀ (l : List α) (k : Int) {i : Nat} (h : i < l.length), farL f (l.take (i + 1)) k = f l[i] (farL f (l.take i) k)
  | x :: l, k, 0, h => by simp [farL]
  | x :: l, k, i + 1, h => by
    simp only [List.take_succ_cons, farL, List.getElem_cons_succ]
    exact farL_take f l _ (by simpa using h)
theorem markL_get {α : Type} (m : α → Int → α) (f : α → Int → Int) : ∀ (l : List α) (k : Int) {i : Nat} (h : i < l.length), (markL m f l k)[i]? = some (m l[i] (farL f (l.take i) k))
  | x :: l, k, 0, h => by simp [markL, farL]
  | x :: l, k, i + 1, h => by
    simp only [markL, List.getElem?_cons_succ, List.take_succ_cons, farL, List.getElem_cons_succ]
    exact markL_get m f l _ (by simpa using h)
theorem markL_take {α : Type} (m : α → Int → α) (f : α → Int → Int) : ∀ (l : List α) (k : Int) {i : Nat} (h : i < l.length), markL m f (l.take (i + 1)) k = markL m f (l.take i) k ++ [m l[i] (farL f (l.take i) k)]
  | x :: l, k, 0, h => by simp [markL, farL]
  | x :: l, k, i + 1, h => by
    simp only [List.take_succ_cons, markL, farL, List.cons_append, List.getElem_cons_succ]
    rw [markL_take m f l _ (by simpa using h)]
theorem farL_le {α : Type} {f : α → Int → Int} {p : α → Prop} {l : List α} {n c : Nat} {k : Int} (h : l.length ≤ n ∧ ∀ y ∈ l, p y) (hf : ∀ y, p y → ∀ k, k ≤ f y k ∧ f y k ≤ k + (c : Nat)) : k ≤ farL f l k ∧ farL f l k ≤ k + ((n * c : Nat) : Int) := by
  obtain ⟨h1, h2⟩ := h
  have key : ∀ (l : List α) (k : Int), (∀ y ∈ l, p y) → k ≤ farL f l k ∧ farL f l k ≤ k + ((l.length * c : Nat) : Int) := by
    intro l
    induction l with
    | nil => intro k _; simp [farL]
    | cons x l ih =>
      intro k hp
      have a := hf x (hp x (List.mem_cons_self ..)) k
      have b := ih (f x k) fun y hy => hp y (List.mem_cons_of_mem _ hy)
      simp only [farL, List.length_cons, Nat.add_mul, Nat.one_mul]
      omega
  have a := key l k h2
  have b := Nat.mul_le_mul_right c h1
  omega
theorem markL_len {α : Type} (R : α → List T) (m : α → Int → α) (f : α → Int → Int) (l : List α) (k : Int) {i : Nat} (hi : i ≤ l.length) : ((markL m f (l.take i) k).map R ++ (l.drop i).map R).length = l.length := by simp [markL_length]; omega
theorem markL_at {α : Type} (R : α → List T) (m : α → Int → α) (f : α → Int → Int) (l : List α) (k : Int) {i : Nat} (hi : i < l.length) : ((markL m f (l.take i) k).map R ++ (l.drop i).map R)[i]? = some (R l[i]) := by
  rw [List.getElem?_append_right (by simp [markL_length]; omega), List.length_map, markL_length, List.length_take, Nat.min_eq_left (by omega), Nat.sub_self, List.getElem?_map, List.getElem?_drop]
  simp [hi]
theorem markL_reat {α : Type} (R : α → List T) (m : α → Int → α) (f : α → Int → Int) (l : List α) (k : Int) {i : Nat} (hi : i < l.length) (r : List T) : (((markL m f (l.take i) k).map R ++ (l.drop i).map R).set i r)[i]? = some r := by
  rw [List.getElem?_set_self (by rw [markL_len R m f l k (by omega)]; exact hi)]
theorem markL_set {α : Type} (R : α → List T) (m : α → Int → α) (f : α → Int → Int) (l : List α) (k : Int) {i : Nat} (hi : i < l.length) : ((markL m f (l.take i) k).map R ++ (l.drop i).map R).set i (R (m l[i] (farL f (l.take i) k))) = (markL m f (l.take (i + 1)) k).map R ++ (l.drop (i + 1)).map R := by
  have e : ((markL m f (l.take i) k).map R).length = i := by rw [List.length_map, markL_length, List.length_take]; omega
  rw [List.set_append_right _ _ (by omega), e, Nat.sub_self, List.drop_eq_getElem_cons hi, List.map_cons, List.set_cons_zero, markL_take m f l k hi, List.map_append, List.append_assoc]
  rfl
def mkB (k : Int) : Bool := k.tmod 3 == 0
theorem byte_neq (a b : UInt8) : binV .neq (.int .u8 a.toNat) (.int .u8 b.toNat) = some (.bool (!decide (a = b))) := by
  have : ((a.toNat : Int) = b.toNat) ↔ a = b := by rw [Int.ofNat_inj]; exact UInt8.toNat_inj
  rw [bI_neq]
  by_cases h : a = b
  · subst h; simp
  · have h2 : ¬ ((a.toNat : Int) = b.toNat) := fun e => h (this.1 e)
    simp [h, bne, h2]
def digs (n : Nat) (out : ByteArray) : ByteArray := if h : n = 0 then out else digs (n / 10) (⟨#[UInt8.ofNat (48 + n % 10)]⟩ ++ out)
termination_by n
decreasing_by omega
def mkS (k : Int) : ByteArray := if k ≤ 0 then ⟨#[109, 48]⟩ else ⟨#[109]⟩ ++ digs k.toNat ⟨#[]⟩
def mkI (k : Int) : Int := k
def mkU (k : Int) : UInt8 := UInt8.ofNat (k % 256).toNat
theorem mkU_wrap (k : Int) : IntKind.u8.wrap k = ((mkU k).toNat : Int) := by
  have h1 := Int.emod_nonneg k (show (256 : Int) ≠ 0 by decide)
  have h2 := Int.emod_lt_of_pos k (show (0 : Int) < 256 by decide)
  have h3 : (mkU k).toNat = (k % 256).toNat := by
    rw [mkU, UInt8.toNat_ofNat', Nat.mod_eq_of_lt (by omega)]
  rw [h3, IntKind.wrap_u8]
  omega
end Go.X

/- B -/
namespace Go.X
set_option maxRecDepth 100000
set_option maxHeartbeats 8000000
def x_l_szBoolS : FnX := ⟨12, [.tmp 4],
  .seq (.reg [⟨none, some 4, 4, .mv (.k (.one (.pv (.int .i64 0))))⟩])
 (.seq (.reg [⟨none, some 5, 5, .mv (.t 1)⟩,
   ⟨none, some 6, 6, .mv (.t 0)⟩,
   ⟨none, some 7, 7, .len (.t 6)⟩,
   ⟨none, some 8, 8, .bin .sub (.t 5) (.t 7)⟩,
   ⟨none, some 1, 1, .mv (.t 8)⟩])
 (.seq (.seq (.reg [⟨none, some 9, 9, .mv (.t 1)⟩,
   ⟨none, some 10, 10, .bin .lss (.t 9) (.k (.one (.pv (.int .i64 0))))⟩])
 (.cond 10 (.seq (.reg [⟨none, some 4, 4, .mv (.k (.one (.pv (.int .i64 (-1)))))⟩])
 (.ret)) (.skip)))
 (.seq (.reg [⟨none, some 11, 11, .mv (.t 1)⟩,
   ⟨none, some 4, 4, .mv (.t 11)⟩])
 (.ret))))⟩
abbrev C_l_szBoolS (Te : Nat → List AV → Res → Prop) : Prop := ∀ (l : List Bool) (k : Int) (hl : l.length ≤ 2 ^ 48) (hk : 0 ≤ k ∧ k ≤ 2 ^ 48), Te 83 [.one (slT false 1 bR l), .one (iT k)] ⟨[.one (iT (left (k - (l.length : Nat))))], [[slT false 1 bR l], [iT k]]⟩
theorem r_l_szBoolS {Te : Nat → List AV → Res → Prop} : ∀ (l : List Bool) (k : Int) (hl : l.length ≤ 2 ^ 48) (hk : 0 ≤ k ∧ k ≤ 2 ^ 48), RunFn Te x_l_szBoolS [.one (slT false 1 bR l), .one (iT k)] ⟨[.one (iT (left (k - (l.length : Nat))))], [[slT false 1 bR l], [iT k]]⟩ := by
  intro l k hl hk
  refine ⟨by simp -implicitDefEqProofs only [x_l_szBoolS, go_sem], ?_⟩
  simp -implicitDefEqProofs (disch := omega) only [x_l_szBoolS, go_sem, IntWalk.i64_in]
  refine ⟨fun h => ?_, fun h => ?_⟩
  · simp only [decide_eq_true_eq] at h
    simp only [left, if_pos h]
  · simp only [decide_eq_false_iff_not] at h
    simp only [left, if_neg h]
def x_l_toBoolS : FnX := ⟨22, [.tmp 2],
  .seq (.reg [⟨none, some 2, 2, .mv (.k (.one (.nils 1)))⟩])
 (.seq (.reg [⟨none, some 5, 5, .mv (.t 0)⟩,
   ⟨none, some 6, 6, .len (.t 5)⟩,
   ⟨none, some 7, 7, .mks 1 1 [.pv (.bool false)] (.t 6)⟩,
   ⟨none, some 3, 3, .mv (.t 7)⟩])
 (.seq (.seq (.reg [⟨none, some 4, 4, .mv (.k (.one (.pv (.int .i64 0))))⟩])
 (.block 0 (.loop [0, 3, 4] (.seq (.seq (.reg [⟨none, some 8, 8, .mv (.t 4)⟩,
   ⟨none, some 9, 9, .mv (.t 0)⟩,
   ⟨none, some 10, 10, .len (.t 9)⟩,
   ⟨none, some 11, 11, .bin .lss (.t 8) (.t 10)⟩])
 (.cond 11 (.skip) (.exit 0)))
 (.seq (.block 1 (.reg [⟨none, some 14, 14, .mv (.t 3)⟩,
   ⟨none, some 15, 15, .mv (.t 4)⟩,
   ⟨none, some 16, 16, .mv (.t 0)⟩,
   ⟨none, some 17, 17, .mv (.t 4)⟩,
   ⟨none, some 18, 18, .iaddr 1 (.t 16) (.t 17)⟩,
   ⟨none, some 19, 19, .load none (.t 18)⟩,
   ⟨none, some 20, 20, .iaddr 1 (.t 14) (.t 15)⟩,
   ⟨none, none, 100001, .store 1 (.t 20) (.t 19)⟩]))
 (.reg [⟨none, some 12, 12, .mv (.t 4)⟩,
   ⟨none, some 13, 13, .bin .add (.t 12) (.k (.one (.pv (.int .i64 1))))⟩,
   ⟨none, some 4, 4, .mv (.t 13)⟩]))))))
 (.norm [3] (.seq (.reg [⟨none, some 21, 21, .mv (.t 3)⟩,
   ⟨none, some 2, 2, .mv (.t 21)⟩])
 (.ret)))))⟩
abbrev C_l_toBoolS (Te : Nat → List AV → Res → Prop) : Prop := ∀ (l : List Bool) (hl : l.length ≤ 2 ^ 31), Te 93 [.one (slT false 1 bR l)] ⟨[.one (slT true 1 bR l)], [[slT false 1 bR l]]⟩
theorem r_l_toBoolS {Te : Nat → List AV → Res → Prop} : ∀ (l : List Bool) (hl : l.length ≤ 2 ^ 31), RunFn Te x_l_toBoolS [.one (slT false 1 bR l)] ⟨[.one (slT true 1 bR l)], [[slT false 1 bR l]]⟩ := by
  intro l hl
  refine ⟨by simp -implicitDefEqProofs only [x_l_toBoolS, go_sem], ?_⟩
  simp -implicitDefEqProofs (disch := omega) only [x_l_toBoolS, go_sem, IntWalk.i64_in]
  refine ⟨⟨by simp only [decide_eq_true_eq]; omega, by simp only [decide_eq_true_eq]; omega⟩, ?_⟩
  refine loop_of (σ := Nat) (fun i => ⟨[(0, .one (.ro 1 (l.map bR))), (3, .one (.rf 23 0 [] 1 0 l.length)), (4, .one (.pv (.int .i64 i)))], [],
    [(0, [slT false 1 bR l]), (23, [.sl true 1 () ((l.take i).map bR ++ List.replicate (l.length - i) [.pv (.bool false)])])]⟩) (fun i => i ≤ l.length) (fun i => l.length - i) 0 ?_ (Nat.zero_le _) ?_
  · simp -implicitDefEqProofs only [go_sem]; rfl
  · intro i hi
    simp -implicitDefEqProofs only [go_sem]
    refine ⟨fun h => ?_, fun h => ?_⟩
    · have hi' : i < l.length := by simp only [decide_eq_true_eq] at h; omega
      simp -implicitDefEqProofs only [go_sem, List.getElem?_eq_getElem hi', fill_len bR l [.pv (.bool false)] hi, storeAp, setCells, List.getD_eq_getElem?_getD, fill_get bR l [.pv (.bool false)] hi']
      repeat (first | refine ⟨by decide, ?_⟩ | refine ⟨by simpa using hi', ?_⟩)
      refine ⟨i + 1, ?_, hi', by omega⟩
      rw [← fill_set bR l [.pv (.bool false)] hi', IntWalk.i64_in _ (by omega)]
      rfl
    · have : i = l.length := by simp only [decide_eq_false_iff_not] at h; omega
      subst this
      simp -implicitDefEqProofs only [go_sem, fill_len bR l [.pv (.bool false)] hi, fill_end]
      refine ⟨by simp, ?_⟩
      simp [take_map]
def x_l_eqBoolS : FnX := ⟨26, [.tmp 4],
  .seq (.reg [⟨none, some 4, 4, .mv (.k (.one (.pv (.bool false))))⟩])
 (.seq (.seq (.reg [⟨none, some 6, 6, .mv (.t 0)⟩,
   ⟨none, some 7, 7, .len (.t 6)⟩,
   ⟨none, some 8, 8, .mv (.t 1)⟩,
   ⟨none, some 9, 9, .len (.t 8)⟩,
   ⟨none, some 10, 10, .bin .neq (.t 7) (.t 9)⟩])
 (.cond 10 (.seq (.reg [⟨none, some 4, 4, .mv (.k (.one (.pv (.bool false))))⟩])
 (.ret)) (.skip)))
 (.seq (.seq (.reg [⟨none, some 5, 5, .mv (.k (.one (.pv (.int .i64 0))))⟩])
 (.block 0 (.loop [0, 1, 5] (.seq (.seq (.reg [⟨none, some 11, 11, .mv (.t 5)⟩,
   ⟨none, some 12, 12, .mv (.t 0)⟩,
   ⟨none, some 13, 13, .len (.t 12)⟩,
   ⟨none, some 14, 14, .bin .lss (.t 11) (.t 13)⟩])
 (.cond 14 (.skip) (.exit 0)))
 (.seq (.block 1 (.seq (.draw [⟨none, some 17, 17, .mv (.t 0)⟩,
   ⟨none, some 18, 18, .mv (.t 5)⟩,
   ⟨none, some 19, 19, .iaddr 1 (.t 17) (.t 18)⟩,
   ⟨none, some 20, 20, .load none (.t 19)⟩,
   ⟨none, some 21, 21, .mv (.t 1)⟩,
   ⟨none, some 22, 22, .mv (.t 5)⟩,
   ⟨none, some 23, 23, .iaddr 1 (.t 21) (.t 22)⟩,
   ⟨none, some 24, 24, .load none (.t 23)⟩,
   ⟨none, some 25, 25, .beq true (.t 20) (.t 24)⟩] [[], [], [0, 1], [2], [], [], [4, 5], [6], [3, 7]])
 (.cond 25 (.seq (.reg [⟨none, some 4, 4, .mv (.k (.one (.pv (.bool false))))⟩])
 (.ret)) (.skip))))
 (.reg [⟨none, some 15, 15, .mv (.t 5)⟩,
   ⟨none, some 16, 16, .bin .add (.t 15) (.k (.one (.pv (.int .i64 1))))⟩,
   ⟨none, some 5, 5, .mv (.t 16)⟩]))))))
 (.norm [] (.seq (.reg [⟨none, some 4, 4, .mv (.k (.one (.pv (.bool true))))⟩])
 (.ret)))))⟩
abbrev C_l_eqBoolS (Te : Nat → List AV → Res → Prop) : Prop := ∀ (l m : List Bool) (hl : l.length ≤ 2 ^ 31), Te 103 [.one (slT false 1 bR l), .one (slT false 1 bR m)] ⟨[.one (bT (decide (l = m)))], [[slT false 1 bR l], [slT false 1 bR m]]⟩
theorem r_l_eqBoolS {Te : Nat → List AV → Res → Prop} : ∀ (l m : List Bool) (hl : l.length ≤ 2 ^ 31), RunFn Te x_l_eqBoolS [.one (slT false 1 bR l), .one (slT false 1 bR m)] ⟨[.one (bT (decide (l = m)))], [[slT false 1 bR l], [slT false 1 bR m]]⟩ := by
  intro l m hl
  refine ⟨by simp -implicitDefEqProofs only [x_l_eqBoolS, go_sem], ?_⟩
  simp -implicitDefEqProofs (disch := omega) only [x_l_eqBoolS, go_sem, IntWalk.i64_in]
  refine ⟨fun h => ?_, fun h => ?_⟩
  · have : l ≠ m := fun e => by simp [e] at h
    simp [this]
  · have hlen : l.length = m.length := by simp at h; omega
    refine loop_of (σ := Nat) (fun i => ⟨[(0, .one (.ro 1 (l.map bR))), (1, .one (.ro 1 (m.map bR))), (5, .one (.pv (.int .i64 i)))], [], [(0, [slT false 1 bR l]), (1, [slT false 1 bR m])]⟩) (fun i => i ≤ l.length ∧ l.take i = m.take i) (fun i => l.length - i) 0 ?_ ⟨Nat.zero_le _, by simp⟩ ?_
    · simp -implicitDefEqProofs only [go_sem]; rfl
    · intro i ⟨hi, hs⟩
      simp -implicitDefEqProofs only [go_sem]
      refine ⟨fun h => ?_, fun h => ?_⟩
      · have hi' : i < l.length := by simp only [decide_eq_true_eq] at h; omega
        have hj' : i < m.length := by omega
        simp -implicitDefEqProofs only [go_sem, List.getElem?_eq_getElem hi', List.getElem?_eq_getElem hj']
        refine ⟨by decide, fun h2 => ?_, fun h2 => ?_⟩
        · have : l ≠ m := fun e => by subst e; simp at h2
          simp [this]
        · refine ⟨i + 1, by rw [IntWalk.i64_in _ (by omega)]; rfl, ⟨hi', same_step hi' hj' hs ?_⟩, by omega⟩
          simpa using h2
      · have hle : l.length ≤ i := by simp only [decide_eq_false_iff_not] at h; omega
        have : l = m := same_end hle (by omega) hs
        simp [this]
def x_l_szByteS : FnX := ⟨12, [.tmp 4],
  .seq (.reg [⟨none, some 4, 4, .mv (.k (.one (.pv (.int .i64 0))))⟩])
 (.seq (.reg [⟨none, some 5, 5, .mv (.t 1)⟩,
   ⟨none, some 6, 6, .mv (.t 0)⟩,
   ⟨none, some 7, 7, .len (.t 6)⟩,
   ⟨none, some 8, 8, .bin .sub (.t 5) (.t 7)⟩,
   ⟨none, some 1, 1, .mv (.t 8)⟩])
 (.seq (.seq (.reg [⟨none, some 9, 9, .mv (.t 1)⟩,
   ⟨none, some 10, 10, .bin .lss (.t 9) (.k (.one (.pv (.int .i64 0))))⟩])
 (.cond 10 (.seq (.reg [⟨none, some 4, 4, .mv (.k (.one (.pv (.int .i64 (-1)))))⟩])
 (.ret)) (.skip)))
 (.seq (.reg [⟨none, some 11, 11, .mv (.t 1)⟩,
   ⟨none, some 4, 4, .mv (.t 11)⟩])
 (.ret))))⟩
abbrev C_l_szByteS (Te : Nat → List AV → Res → Prop) : Prop := ∀ (l : List UInt8) (k : Int) (hl : l.length ≤ 2 ^ 48) (hk : 0 ≤ k ∧ k ≤ 2 ^ 48), Te 153 [.one (slT false 1 uR l), .one (iT k)] ⟨[.one (iT (left (k - (l.length : Nat))))], [[slT false 1 uR l], [iT k]]⟩
theorem r_l_szByteS {Te : Nat → List AV → Res → Prop} : ∀ (l : List UInt8) (k : Int) (hl : l.length ≤ 2 ^ 48) (hk : 0 ≤ k ∧ k ≤ 2 ^ 48), RunFn Te x_l_szByteS [.one (slT false 1 uR l), .one (iT k)] ⟨[.one (iT (left (k - (l.length : Nat))))], [[slT false 1 uR l], [iT k]]⟩ := by
  intro l k hl hk
  refine ⟨by simp -implicitDefEqProofs only [x_l_szByteS, go_sem], ?_⟩
  simp -implicitDefEqProofs (disch := omega) only [x_l_szByteS, go_sem, IntWalk.i64_in]
  refine ⟨fun h => ?_, fun h => ?_⟩
  · simp only [decide_eq_true_eq] at h
    simp only [left, if_pos h]
  · simp only [decide_eq_false_iff_not] at h
    simp only [left, if_neg h]
def x_l_toByteS : FnX := ⟨22, [.tmp 2],
  .seq (.reg [⟨none, some 2, 2, .mv (.k (.one (.nils 1)))⟩])
 (.seq (.reg [⟨none, some 5, 5, .mv (.t 0)⟩,
   ⟨none, some 6, 6, .len (.t 5)⟩,
   ⟨none, some 7, 7, .mks 1 1 [.pv (.int .u8 0)] (.t 6)⟩,
   ⟨none, some 3, 3, .mv (.t 7)⟩])
 (.seq (.seq (.reg [⟨none, some 4, 4, .mv (.k (.one (.pv (.int .i64 0))))⟩])
 (.block 0 (.loop [0, 3, 4] (.seq (.seq (.reg [⟨none, some 8, 8, .mv (.t 4)⟩,
   ⟨none, some 9, 9, .mv (.t 0)⟩,
   ⟨none, some 10, 10, .len (.t 9)⟩,
   ⟨none, some 11, 11, .bin .lss (.t 8) (.t 10)⟩])
 (.cond 11 (.skip) (.exit 0)))
 (.seq (.block 1 (.reg [⟨none, some 14, 14, .mv (.t 3)⟩,
   ⟨none, some 15, 15, .mv (.t 4)⟩,
   ⟨none, some 16, 16, .mv (.t 0)⟩,
   ⟨none, some 17, 17, .mv (.t 4)⟩,
   ⟨none, some 18, 18, .iaddr 1 (.t 16) (.t 17)⟩,
   ⟨none, some 19, 19, .load none (.t 18)⟩,
   ⟨none, some 20, 20, .iaddr 1 (.t 14) (.t 15)⟩,
   ⟨none, none, 100001, .store 1 (.t 20) (.t 19)⟩]))
 (.reg [⟨none, some 12, 12, .mv (.t 4)⟩,
   ⟨none, some 13, 13, .bin .add (.t 12) (.k (.one (.pv (.int .i64 1))))⟩,
   ⟨none, some 4, 4, .mv (.t 13)⟩]))))))
 (.norm [3] (.seq (.reg [⟨none, some 21, 21, .mv (.t 3)⟩,
   ⟨none, some 2, 2, .mv (.t 21)⟩])
 (.ret)))))⟩
abbrev C_l_toByteS (Te : Nat → List AV → Res → Prop) : Prop := ∀ (l : List UInt8) (hl : l.length ≤ 2 ^ 31), Te 159 [.one (slT false 1 uR l)] ⟨[.one (slT true 1 uR l)], [[slT false 1 uR l]]⟩
theorem r_l_toByteS {Te : Nat → List AV → Res → Prop} : ∀ (l : List UInt8) (hl : l.length ≤ 2 ^ 31), RunFn Te x_l_toByteS [.one (slT false 1 uR l)] ⟨[.one (slT true 1 uR l)], [[slT false 1 uR l]]⟩ := by
  intro l hl
  refine ⟨by simp -implicitDefEqProofs only [x_l_toByteS, go_sem], ?_⟩
  simp -implicitDefEqProofs (disch := omega) only [x_l_toByteS, go_sem, IntWalk.i64_in]
  refine ⟨⟨by simp only [decide_eq_true_eq]; omega, by simp only [decide_eq_true_eq]; omega⟩, ?_⟩
  refine loop_of (σ := Nat) (fun i => ⟨[(0, .one (.ro 1 (l.map uR))), (3, .one (.rf 23 0 [] 1 0 l.length)), (4, .one (.pv (.int .i64 i)))], [],
    [(0, [slT false 1 uR l]), (23, [.sl true 1 () ((l.take i).map uR ++ List.replicate (l.length - i) [.pv (.int .u8 0)])])]⟩) (fun i => i ≤ l.length) (fun i => l.length - i) 0 ?_ (Nat.zero_le _) ?_
  · simp -implicitDefEqProofs only [go_sem]; rfl
  · intro i hi
    simp -implicitDefEqProofs only [go_sem]
    refine ⟨fun h => ?_, fun h => ?_⟩
    · have hi' : i < l.length := by simp only [decide_eq_true_eq] at h; omega
      simp -implicitDefEqProofs only [go_sem, List.getElem?_eq_getElem hi', fill_len uR l [.pv (.int .u8 0)] hi, storeAp, setCells, List.getD_eq_getElem?_getD, fill_get uR l [.pv (.int .u8 0)] hi']
      repeat (first | refine ⟨by decide, ?_⟩ | refine ⟨by simpa using hi', ?_⟩)
      refine ⟨i + 1, ?_, hi', by omega⟩
      rw [← fill_set uR l [.pv (.int .u8 0)] hi', IntWalk.i64_in _ (by omega)]
      rfl
    · have : i = l.length := by simp only [decide_eq_false_iff_not] at h; omega
      subst this
      simp -implicitDefEqProofs only [go_sem, fill_len uR l [.pv (.int .u8 0)] hi, fill_end]
      refine ⟨by simp, ?_⟩
      simp [take_map]
def x_l_eqByteS : FnX := ⟨26, [.tmp 4],
  .seq (.reg [⟨none, some 4, 4, .mv (.k (.one (.pv (.bool false))))⟩])
 (.seq (.seq (.reg [⟨none, some 6, 6, .mv (.t 0)⟩,
   ⟨none, some 7, 7, .len (.t 6)⟩,
   ⟨none, some 8, 8, .mv (.t 1)⟩,
   ⟨none, some 9, 9, .len (.t 8)⟩,
   ⟨none, some 10, 10, .bin .neq (.t 7) (.t 9)⟩])
 (.cond 10 (.seq (.reg [⟨none, some 4, 4, .mv (.k (.one (.pv (.bool false))))⟩])
 (.ret)) (.skip)))
 (.seq (.seq (.reg [⟨none, some 5, 5, .mv (.k (.one (.pv (.int .i64 0))))⟩])
 (.block 0 (.loop [0, 1, 5] (.seq (.seq (.reg [⟨none, some 11, 11, .mv (.t 5)⟩,
   ⟨none, some 12, 12, .mv (.t 0)⟩,
   ⟨none, some 13, 13, .len (.t 12)⟩,
   ⟨none, some 14, 14, .bin .lss (.t 11) (.t 13)⟩])
 (.cond 14 (.skip) (.exit 0)))
 (.seq (.block 1 (.seq (.draw [⟨none, some 17, 17, .mv (.t 0)⟩,
   ⟨none, some 18, 18, .mv (.t 5)⟩,
   ⟨none, some 19, 19, .iaddr 1 (.t 17) (.t 18)⟩,
   ⟨none, some 20, 20, .load none (.t 19)⟩,
   ⟨none, some 21, 21, .mv (.t 1)⟩,
   ⟨none, some 22, 22, .mv (.t 5)⟩,
   ⟨none, some 23, 23, .iaddr 1 (.t 21) (.t 22)⟩,
   ⟨none, some 24, 24, .load none (.t 23)⟩,
   ⟨none, some 25, 25, .bin .neq (.t 20) (.t 24)⟩] [[], [], [0, 1], [2], [], [], [4, 5], [6], [3, 7]])
 (.cond 25 (.seq (.reg [⟨none, some 4, 4, .mv (.k (.one (.pv (.bool false))))⟩])
 (.ret)) (.skip))))
 (.reg [⟨none, some 15, 15, .mv (.t 5)⟩,
   ⟨none, some 16, 16, .bin .add (.t 15) (.k (.one (.pv (.int .i64 1))))⟩,
   ⟨none, some 5, 5, .mv (.t 16)⟩]))))))
 (.norm [] (.seq (.reg [⟨none, some 4, 4, .mv (.k (.one (.pv (.bool true))))⟩])
 (.ret)))))⟩
abbrev C_l_eqByteS (Te : Nat → List AV → Res → Prop) : Prop := ∀ (l m : List UInt8) (hl : l.length ≤ 2 ^ 31), Te 166 [.one (slT false 1 uR l), .one (slT false 1 uR m)] ⟨[.one (bT (decide (l = m)))], [[slT false 1 uR l], [slT false 1 uR m]]⟩
theorem r_l_eqByteS {Te : Nat → List AV → Res → Prop} : ∀ (l m : List UInt8) (hl : l.length ≤ 2 ^ 31), RunFn Te x_l_eqByteS [.one (slT false 1 uR l), .one (slT false 1 uR m)] ⟨[.one (bT (decide (l = m)))], [[slT false 1 uR l], [slT false 1 uR m]]⟩ := by
  intro l m hl
  refine ⟨by simp -implicitDefEqProofs only [x_l_eqByteS, go_sem], ?_⟩
  simp -implicitDefEqProofs (disch := omega) only [x_l_eqByteS, go_sem, IntWalk.i64_in]
  refine ⟨fun h => ?_, fun h => ?_⟩
  · have : l ≠ m := fun e => by simp [e] at h
    simp [this]
  · have hlen : l.length = m.length := by simp at h; omega
    refine loop_of (σ := Nat) (fun i => ⟨[(0, .one (.ro 1 (l.map uR))), (1, .one (.ro 1 (m.map uR))), (5, .one (.pv (.int .i64 i)))], [], [(0, [slT false 1 uR l]), (1, [slT false 1 uR m])]⟩) (fun i => i ≤ l.length ∧ l.take i = m.take i) (fun i => l.length - i) 0 ?_ ⟨Nat.zero_le _, by simp⟩ ?_
    · simp -implicitDefEqProofs only [go_sem]; rfl
    · intro i ⟨hi, hs⟩
      simp -implicitDefEqProofs only [go_sem]
      refine ⟨fun h => ?_, fun h => ?_⟩
      · have hi' : i < l.length := by simp only [decide_eq_true_eq] at h; omega
        have hj' : i < m.length := by omega
        simp -implicitDefEqProofs only [go_sem, List.getElem?_eq_getElem hi', List.getElem?_eq_getElem hj', byte_neq]
        refine ⟨by decide, fun h2 => ?_, fun h2 => ?_⟩
        · have : l ≠ m := fun e => by subst e; simp at h2
          simp [this]
        · refine ⟨i + 1, by rw [IntWalk.i64_in _ (by omega)]; rfl, ⟨hi', same_step hi' hj' hs ?_⟩, by omega⟩
          simpa using h2
      · have hle : l.length ≤ i := by simp only [decide_eq_false_iff_not] at h; omega
        have : l = m := same_end hle (by omega) hs
        simp [this]
def x_l_szStringS : FnX := ⟨28, [.tmp 4],
  .seq (.reg [⟨none, some 4, 4, .mv (.k (.one (.pv (.int .i64 0))))⟩])
 (.seq (.reg [⟨none, some 6, 6, .mv (.t 1)⟩,
   ⟨none, some 7, 7, .mv (.t 0)⟩,
   ⟨none, some 8, 8, .len (.t 7)⟩,
   ⟨none, some 9, 9, .bin .sub (.t 6) (.t 8)⟩,
   ⟨none, some 1, 1, .mv (.t 9)⟩])
 (.seq (.seq (.reg [⟨none, some 10, 10, .mv (.t 1)⟩,
   ⟨none, some 11, 11, .bin .lss (.t 10) (.k (.one (.pv (.int .i64 0))))⟩])
 (.cond 11 (.seq (.reg [⟨none, some 4, 4, .mv (.k (.one (.pv (.int .i64 (-1)))))⟩])
 (.ret)) (.skip)))
 (.seq (.seq (.reg [⟨none, some 5, 5, .mv (.k (.one (.pv (.int .i64 0))))⟩])
 (.block 0 (.loop [0, 1, 5] (.seq (.seq (.reg [⟨none, some 12, 12, .mv (.t 5)⟩,
   ⟨none, some 13, 13, .mv (.t 0)⟩,
   ⟨none, some 14, 14, .len (.t 13)⟩,
   ⟨none, some 15, 15, .bin .lss (.t 12) (.t 14)⟩])
 (.cond 15 (.skip) (.exit 0)))
 (.seq (.block 1 (.seq (.reg [⟨none, some 18, 18, .mv (.t 1)⟩,
   ⟨none, some 19, 19, .mv (.t 0)⟩,
   ⟨none, some 20, 20, .mv (.t 5)⟩,
   ⟨none, some 21, 21, .iaddr 1 (.t 19) (.t 20)⟩,
   ⟨none, some 22, 22, .load none (.t 21)⟩,
   ⟨none, some 23, 23, .slen (.t 22)⟩,
   ⟨none, some 24, 24, .bin .sub (.t 18) (.t 23)⟩,
   ⟨none, some 1, 1, .mv (.t 24)⟩])
 (.seq (.reg [⟨none, some 25, 25, .mv (.t 1)⟩,
   ⟨none, some 26, 26, .bin .lss (.t 25) (.k (.one (.pv (.int .i64 0))))⟩])
 (.cond 26 (.seq (.reg [⟨none, some 4, 4, .mv (.k (.one (.pv (.int .i64 (-1)))))⟩])
 (.ret)) (.skip)))))
 (.reg [⟨none, some 16, 16, .mv (.t 5)⟩,
   ⟨none, some 17, 17, .bin .add (.t 16) (.k (.one (.pv (.int .i64 1))))⟩,
   ⟨none, some 5, 5, .mv (.t 17)⟩]))))))
 (.norm [1] (.seq (.reg [⟨none, some 27, 27, .mv (.t 1)⟩,
   ⟨none, some 4, 4, .mv (.t 27)⟩])
 (.ret))))))⟩
abbrev C_l_szStringS (Te : Nat → List AV → Res → Prop) : Prop := ∀ (l : List ByteArray) (k : Int) (hk : 0 ≤ k ∧ k ≤ 2 ^ 48) (hl : l.length ≤ 2 ^ 48) (hs : ∀ y ∈ l, y.size ≤ 2 ^ 48), Te 84 [.one (slT false 1 sR l), .one (iT k)] ⟨[.one (iT (szSl szStr l k))], [[slT false 1 sR l], [iT k]]⟩
theorem r_l_szStringS {Te : Nat → List AV → Res → Prop} : ∀ (l : List ByteArray) (k : Int) (hk : 0 ≤ k ∧ k ≤ 2 ^ 48) (hl : l.length ≤ 2 ^ 48) (hs : ∀ y ∈ l, y.size ≤ 2 ^ 48), RunFn Te x_l_szStringS [.one (slT false 1 sR l), .one (iT k)] ⟨[.one (iT (szSl szStr l k))], [[slT false 1 sR l], [iT k]]⟩ := by
  intro l k hk hl hs
  refine ⟨by simp -implicitDefEqProofs only [x_l_szStringS, go_sem], ?_⟩
  simp -implicitDefEqProofs (disch := omega) only [x_l_szStringS, go_sem, IntWalk.i64_in]
  refine ⟨fun h => ?_, fun h => ?_⟩
  · simp only [decide_eq_true_eq] at h
    simp only [szSl, szAll, if_pos h]
  · simp only [decide_eq_false_iff_not] at h
    refine loop_of (σ := Nat × Int) (fun x => ⟨[(0, .one (.ro 1 (l.map sR))), (1, .one (.pv (.int .i64 x.2))), (5, .one (.pv (.int .i64 x.1)))], [], [(0, [slT false 1 sR l]), (1, [iT k])]⟩) (fun x => x.1 ≤ l.length ∧ 0 ≤ x.2 ∧ x.2 ≤ k ∧ szSl szStr l k = szAll ((l.drop x.1).map szStr) x.2) (fun x => l.length - x.1) (0, k - l.length) ?_ ⟨Nat.zero_le _, by omega, by omega, by simp only [szSl, szAll, if_neg h, List.drop_zero]⟩ ?_
    · simp -implicitDefEqProofs only [go_sem]; rfl
    · rintro ⟨i, c⟩ ⟨hi, h0, h1, he⟩
      simp only at hi h0 h1 he
      simp -implicitDefEqProofs only [go_sem]
      refine ⟨fun h => ?_, fun h => ?_⟩
      · have hi' : i < l.length := by simp only [decide_eq_true_eq] at h; omega
        have hsz := hs l[i] (List.getElem_mem hi')
        rw [List.drop_eq_getElem_cons hi'] at he
        simp -implicitDefEqProofs (disch := omega) only [go_sem, List.getElem?_eq_getElem hi', IntWalk.i64_in]
        refine ⟨fun h2 => ?_, fun h2 => ?_⟩
        · simp only [decide_eq_true_eq] at h2
          rw [he]
          simp only [List.map_cons, szAll, szStr, left, if_pos h2, show (-1 : Int) < 0 by decide, if_true]
        · simp only [decide_eq_false_iff_not] at h2
          refine ⟨(i + 1, c - (l[i]).size), rfl, ⟨hi', by omega, by simp only; omega, ?_⟩, by simp only; omega⟩
          rw [he]
          simp only [List.map_cons, szAll, szStr, left, if_neg h2]
      · have hle : l.length ≤ i := by simp only [decide_eq_false_iff_not] at h; omega
        rw [List.drop_of_length_le hle] at he
        simp only [szAll, List.map_nil] at he
        rw [he]
def x_l_toStringS : FnX := ⟨22, [.tmp 2],
  .seq (.reg [⟨none, some 2, 2, .mv (.k (.one (.nils 1)))⟩])
 (.seq (.reg [⟨none, some 5, 5, .mv (.t 0)⟩,
   ⟨none, some 6, 6, .len (.t 5)⟩,
   ⟨none, some 7, 7, .mks 1 16 [.pv (.string ⟨#[]⟩)] (.t 6)⟩,
   ⟨none, some 3, 3, .mv (.t 7)⟩])
 (.seq (.seq (.reg [⟨none, some 4, 4, .mv (.k (.one (.pv (.int .i64 0))))⟩])
 (.block 0 (.loop [0, 3, 4] (.seq (.seq (.reg [⟨none, some 8, 8, .mv (.t 4)⟩,
   ⟨none, some 9, 9, .mv (.t 0)⟩,
   ⟨none, some 10, 10, .len (.t 9)⟩,
   ⟨none, some 11, 11, .bin .lss (.t 8) (.t 10)⟩])
 (.cond 11 (.skip) (.exit 0)))
 (.seq (.block 1 (.reg [⟨none, some 14, 14, .mv (.t 3)⟩,
   ⟨none, some 15, 15, .mv (.t 4)⟩,
   ⟨none, some 16, 16, .mv (.t 0)⟩,
   ⟨none, some 17, 17, .mv (.t 4)⟩,
   ⟨none, some 18, 18, .iaddr 1 (.t 16) (.t 17)⟩,
   ⟨none, some 19, 19, .load none (.t 18)⟩,
   ⟨none, some 20, 20, .iaddr 1 (.t 14) (.t 15)⟩,
   ⟨none, none, 100001, .store 1 (.t 20) (.t 19)⟩]))
 (.reg [⟨none, some 12, 12, .mv (.t 4)⟩,
   ⟨none, some 13, 13, .bin .add (.t 12) (.k (.one (.pv (.int .i64 1))))⟩,
   ⟨none, some 4, 4, .mv (.t 13)⟩]))))))
 (.norm [3] (.seq (.reg [⟨none, some 21, 21, .mv (.t 3)⟩,
   ⟨none, some 2, 2, .mv (.t 21)⟩])
 (.ret)))))⟩
abbrev C_l_toStringS (Te : Nat → List AV → Res → Prop) : Prop := ∀ (l : List ByteArray) (hl : l.length ≤ 2 ^ 31), Te 94 [.one (slT false 1 sR l)] ⟨[.one (slT true 1 sR l)], [[slT false 1 sR l]]⟩
theorem r_l_toStringS {Te : Nat → List AV → Res → Prop} : ∀ (l : List ByteArray) (hl : l.length ≤ 2 ^ 31), RunFn Te x_l_toStringS [.one (slT false 1 sR l)] ⟨[.one (slT true 1 sR l)], [[slT false 1 sR l]]⟩ := by
  intro l hl
  refine ⟨by simp -implicitDefEqProofs only [x_l_toStringS, go_sem], ?_⟩
  simp -implicitDefEqProofs (disch := omega) only [x_l_toStringS, go_sem, IntWalk.i64_in]
  refine ⟨⟨by simp only [decide_eq_true_eq]; omega, by simp only [decide_eq_true_eq]; omega⟩, ?_⟩
  refine loop_of (σ := Nat) (fun i => ⟨[(0, .one (.ro 1 (l.map sR))), (3, .one (.rf 23 0 [] 1 0 l.length)), (4, .one (.pv (.int .i64 i)))], [],
    [(0, [slT false 1 sR l]), (23, [.sl true 1 () ((l.take i).map sR ++ List.replicate (l.length - i) [.pv (.string ⟨#[]⟩)])])]⟩) (fun i => i ≤ l.length) (fun i => l.length - i) 0 ?_ (Nat.zero_le _) ?_
  · simp -implicitDefEqProofs only [go_sem]; rfl
  · intro i hi
    simp -implicitDefEqProofs only [go_sem]
    refine ⟨fun h => ?_, fun h => ?_⟩
    · have hi' : i < l.length := by simp only [decide_eq_true_eq] at h; omega
      simp -implicitDefEqProofs only [go_sem, List.getElem?_eq_getElem hi', fill_len sR l [.pv (.string ⟨#[]⟩)] hi, storeAp, setCells, List.getD_eq_getElem?_getD, fill_get sR l [.pv (.string ⟨#[]⟩)] hi']
      repeat (first | refine ⟨by decide, ?_⟩ | refine ⟨by simpa using hi', ?_⟩)
      refine ⟨i + 1, ?_, hi', by omega⟩
      rw [← fill_set sR l [.pv (.string ⟨#[]⟩)] hi', IntWalk.i64_in _ (by omega)]
      rfl
    · have : i = l.length := by simp only [decide_eq_false_iff_not] at h; omega
      subst this
      simp -implicitDefEqProofs only [go_sem, fill_len sR l [.pv (.string ⟨#[]⟩)] hi, fill_end]
      refine ⟨by simp, ?_⟩
      simp [take_map]
def x_l_eqStringS : FnX := ⟨26, [.tmp 4],
  .seq (.reg [⟨none, some 4, 4, .mv (.k (.one (.pv (.bool false))))⟩])
 (.seq (.seq (.reg [⟨none, some 6, 6, .mv (.t 0)⟩,
   ⟨none, some 7, 7, .len (.t 6)⟩,
   ⟨none, some 8, 8, .mv (.t 1)⟩,
   ⟨none, some 9, 9, .len (.t 8)⟩,
   ⟨none, some 10, 10, .bin .neq (.t 7) (.t 9)⟩])
 (.cond 10 (.seq (.reg [⟨none, some 4, 4, .mv (.k (.one (.pv (.bool false))))⟩])
 (.ret)) (.skip)))
 (.seq (.seq (.reg [⟨none, some 5, 5, .mv (.k (.one (.pv (.int .i64 0))))⟩])
 (.block 0 (.loop [0, 1, 5] (.seq (.seq (.reg [⟨none, some 11, 11, .mv (.t 5)⟩,
   ⟨none, some 12, 12, .mv (.t 0)⟩,
   ⟨none, some 13, 13, .len (.t 12)⟩,
   ⟨none, some 14, 14, .bin .lss (.t 11) (.t 13)⟩])
 (.cond 14 (.skip) (.exit 0)))
 (.seq (.block 1 (.seq (.draw [⟨none, some 17, 17, .mv (.t 0)⟩,
   ⟨none, some 18, 18, .mv (.t 5)⟩,
   ⟨none, some 19, 19, .iaddr 1 (.t 17) (.t 18)⟩,
   ⟨none, some 20, 20, .load none (.t 19)⟩,
   ⟨none, some 21, 21, .mv (.t 1)⟩,
   ⟨none, some 22, 22, .mv (.t 5)⟩,
   ⟨none, some 23, 23, .iaddr 1 (.t 21) (.t 22)⟩,
   ⟨none, some 24, 24, .load none (.t 23)⟩,
   ⟨none, some 25, 25, .bin .neq (.t 20) (.t 24)⟩] [[], [], [0, 1], [2], [], [], [4, 5], [6], [3, 7]])
 (.cond 25 (.seq (.reg [⟨none, some 4, 4, .mv (.k (.one (.pv (.bool false))))⟩])
 (.ret)) (.skip))))
 (.reg [⟨none, some 15, 15, .mv (.t 5)⟩,
   ⟨none, some 16, 16, .bin .add (.t 15) (.k (.one (.pv (.int .i64 1))))⟩,
   ⟨none, some 5, 5, .mv (.t 16)⟩]))))))
 (.norm [] (.seq (.reg [⟨none, some 4, 4, .mv (.k (.one (.pv (.bool true))))⟩])
 (.ret)))))⟩
abbrev C_l_eqStringS (Te : Nat → List AV → Res → Prop) : Prop := ∀ (l m : List ByteArray) (hl : l.length ≤ 2 ^ 31), Te 104 [.one (slT false 1 sR l), .one (slT false 1 sR m)] ⟨[.one (bT (decide (l = m)))], [[slT false 1 sR l], [slT false 1 sR m]]⟩
theorem r_l_eqStringS {Te : Nat → List AV → Res → Prop} : ∀ (l m : List ByteArray) (hl : l.length ≤ 2 ^ 31), RunFn Te x_l_eqStringS [.one (slT false 1 sR l), .one (slT false 1 sR m)] ⟨[.one (bT (decide (l = m)))], [[slT false 1 sR l], [slT false 1 sR m]]⟩ := by
  intro l m hl
  refine ⟨by simp -implicitDefEqProofs only [x_l_eqStringS, go_sem], ?_⟩
  simp -implicitDefEqProofs (disch := omega) only [x_l_eqStringS, go_sem, IntWalk.i64_in]
  refine ⟨fun h => ?_, fun h => ?_⟩
  · have : l ≠ m := fun e => by simp [e] at h
    simp [this]
  · have hlen : l.length = m.length := by simp at h; omega
    refine loop_of (σ := Nat) (fun i => ⟨[(0, .one (.ro 1 (l.map sR))), (1, .one (.ro 1 (m.map sR))), (5, .one (.pv (.int .i64 i)))], [], [(0, [slT false 1 sR l]), (1, [slT false 1 sR m])]⟩) (fun i => i ≤ l.length ∧ l.take i = m.take i) (fun i => l.length - i) 0 ?_ ⟨Nat.zero_le _, by simp⟩ ?_
    · simp -implicitDefEqProofs only [go_sem]; rfl
    · intro i ⟨hi, hs⟩
      simp -implicitDefEqProofs only [go_sem]
      refine ⟨fun h => ?_, fun h => ?_⟩
      · have hi' : i < l.length := by simp only [decide_eq_true_eq] at h; omega
        have hj' : i < m.length := by omega
        simp -implicitDefEqProofs only [go_sem, List.getElem?_eq_getElem hi', List.getElem?_eq_getElem hj']
        refine ⟨by decide, fun h2 => ?_, fun h2 => ?_⟩
        · have : l ≠ m := fun e => by subst e; simp at h2
          simp [this]
        · refine ⟨i + 1, by rw [IntWalk.i64_in _ (by omega)]; rfl, ⟨hi', same_step hi' hj' hs ?_⟩, by omega⟩
          simpa using h2
      · have hle : l.length ≤ i := by simp only [decide_eq_false_iff_not] at h; omega
        have : l = m := same_end hle (by omega) hs
        simp [this]
end Go.X

/- C -/
namespace Go.X
set_option maxRecDepth 100000
set_option maxHeartbeats 8000000
structure Msg where
  Kind : Int
  From : Int
  To : Int
  Seq : Int
  Key : ByteArray
  Text : ByteArray
  N : Int
  Code : Int
  deriving DecidableEq
abbrev Msg.row (x : Msg) : List Go.X.T := [iT x.Kind, iT x.From, iT x.To, iT x.Seq, sT x.Key, sT x.Text, iT x.N, iT x.Code]
def Msg.In (n : Nat) (x : Msg) : Prop := x.Key.size ≤ n ∧ x.Text.size ≤ n
theorem Msg.In.mono {x : Msg} {n m : Nat} (h : x.In n) (hn : n ≤ m) : x.In m := by
  simp only [Msg.In] at h ⊢
  exact ⟨Nat.le_trans h.1 hn, Nat.le_trans h.2 hn⟩
def szMsg (x : Msg) (k : Int) : Int := szAll [(fun k => k - (x.Key.size : Nat)), (fun k => k - (x.Text.size : Nat))] k
theorem szMsg_sane (x : Msg) : Sane (szMsg x) := Sane.all (.cons (Sane.sub _) (.cons (Sane.sub _) .nil))
theorem szMsg_in {x : Msg} {k : Int} {n : Nat} (hk : 0 ≤ k) (hn : k ≤ n) (h : 0 ≤ szMsg x k) : x.In n := by
  obtain ⟨⟨j0, a0, b0, c0⟩, ⟨j1, a1, b1, c1⟩, _⟩ := szAll_ex (.cons (Sane.sub _) (.cons (Sane.sub _) .nil)) hk hn h
  exact ⟨(by have q : (0 : Int) ≤ j0 - _ := c0; omega), (by have q : (0 : Int) ≤ j1 - _ := c1; omega)⟩
def mkMsg (k : Int) : Msg := ⟨k, k + 1, k + 1 + 1, k + 1 + 1 + 1, mkS (k + 1 + 1 + 1 + 1), mkS (k + 1 + 1 + 1 + 1 + 1), k + 1 + 1 + 1 + 1 + 1 + 1, k + 1 + 1 + 1 + 1 + 1 + 1 + 1⟩
def x_l_szMsg : FnX := ⟨20, [.tmp 4],
  .seq (.reg [⟨none, some 2, 2, .box (.t 0)⟩,
   ⟨none, some 4, 4, .mv (.k (.one (.pv (.int .i64 0))))⟩])
 (.seq (.reg [⟨none, some 5, 5, .mv (.t 1)⟩,
   ⟨none, some 6, 6, .faddr (.t 2) 4⟩,
   ⟨none, some 7, 7, .load none (.t 6)⟩,
   ⟨none, some 8, 8, .slen (.t 7)⟩,
   ⟨none, some 9, 9, .bin .sub (.t 5) (.t 8)⟩,
   ⟨none, some 1, 1, .mv (.t 9)⟩])
 (.seq (.seq (.reg [⟨none, some 10, 10, .mv (.t 1)⟩,
   ⟨none, some 11, 11, .bin .lss (.t 10) (.k (.one (.pv (.int .i64 0))))⟩])
 (.cond 11 (.seq (.reg [⟨none, some 4, 4, .mv (.k (.one (.pv (.int .i64 (-1)))))⟩])
 (.ret)) (.skip)))
 (.seq (.reg [⟨none, some 12, 12, .mv (.t 1)⟩,
   ⟨none, some 13, 13, .faddr (.t 2) 5⟩,
   ⟨none, some 14, 14, .load none (.t 13)⟩,
   ⟨none, some 15, 15, .slen (.t 14)⟩,
   ⟨none, some 16, 16, .bin .sub (.t 12) (.t 15)⟩,
   ⟨none, some 1, 1, .mv (.t 16)⟩])
 (.seq (.seq (.reg [⟨none, some 17, 17, .mv (.t 1)⟩,
   ⟨none, some 18, 18, .bin .lss (.t 17) (.k (.one (.pv (.int .i64 0))))⟩])
 (.cond 18 (.seq (.reg [⟨none, some 4, 4, .mv (.k (.one (.pv (.int .i64 (-1)))))⟩])
 (.ret)) (.skip)))
 (.seq (.reg [⟨none, some 19, 19, .mv (.t 1)⟩,
   ⟨none, some 4, 4, .mv (.t 19)⟩])
 (.ret))))))⟩
abbrev C_l_szMsg (Te : Nat → List AV → Res → Prop) : Prop := ∀ (x : Msg) (k : Int) (hx : x.In (2 ^ 48)) (hk : 0 ≤ k ∧ k ≤ 2 ^ 48), Te 86 [.agg x.row, .one (iT k)] ⟨[.one (iT (szMsg x k))], [x.row, [iT k]]⟩
theorem r_l_szMsg {Te : Nat → List AV → Res → Prop} : ∀ (x : Msg) (k : Int) (hx : x.In (2 ^ 48)) (hk : 0 ≤ k ∧ k ≤ 2 ^ 48), RunFn Te x_l_szMsg [.agg x.row, .one (iT k)] ⟨[.one (iT (szMsg x k))], [x.row, [iT k]]⟩ := by
  intro x k hx hk
  refine ⟨by simp -implicitDefEqProofs only [x_l_szMsg, go_sem], ?_⟩
  obtain ⟨h0, h1⟩ := hx
  simp -implicitDefEqProofs (disch := omega) only [x_l_szMsg, go_sem, IntWalk.i64_in]
  refine ⟨fun q0 => ?_, fun q0 => ?_⟩
  · simp only [decide_eq_true_eq] at q0
    simp only [szMsg, szAll, if_pos q0]
  · simp only [decide_eq_false_iff_not] at q0
    have k1 : 0 ≤ (k - (x.Key.size : Nat)) ∧ (k - (x.Key.size : Nat)) ≤ 2 ^ 48 := ⟨by omega, Int.le_trans (Sane.sub _ _ hk.1) hk.2⟩
    try simp -implicitDefEqProofs (disch := omega) only [go_sem, IntWalk.i64_in]
    refine ⟨fun q1 => ?_, fun q1 => ?_⟩
    · simp only [decide_eq_true_eq] at q1
      simp only [szMsg, szAll, if_neg q0, if_pos q1]
    · simp only [decide_eq_false_iff_not] at q1
      have k2 : 0 ≤ ((k - (x.Key.size : Nat)) - (x.Text.size : Nat)) ∧ ((k - (x.Key.size : Nat)) - (x.Text.size : Nat)) ≤ 2 ^ 48 := ⟨by omega, Int.le_trans (Sane.sub _ _ k1.1) k1.2⟩
      simp only [szMsg, szAll, if_neg q0, if_neg q1]
def x_l_toMsg_5 : XCode := .seq (.reg [⟨none, some 28, 28, .load (some 8) (.t 3)⟩,
   ⟨none, none, 100009, .store 8 (.t 2) (.t 28)⟩])
 (.ret)
def x_l_toMsg_4 : XCode := .seq (.reg [⟨none, some 22, 22, .faddr (.t 1) 6⟩,
   ⟨none, some 23, 23, .load none (.t 22)⟩,
   ⟨none, some 24, 24, .faddr (.t 3) 6⟩,
   ⟨none, none, 100007, .store 1 (.t 24) (.t 23)⟩])
 (.seq (.reg [⟨none, some 25, 25, .faddr (.t 1) 7⟩,
   ⟨none, some 26, 26, .load none (.t 25)⟩,
   ⟨none, some 27, 27, .faddr (.t 3) 7⟩,
   ⟨none, none, 100008, .store 1 (.t 27) (.t 26)⟩])
 (x_l_toMsg_5))
def x_l_toMsg_3 : XCode := .seq (.reg [⟨none, some 16, 16, .faddr (.t 1) 4⟩,
   ⟨none, some 17, 17, .load none (.t 16)⟩,
   ⟨none, some 18, 18, .faddr (.t 3) 4⟩,
   ⟨none, none, 100005, .store 1 (.t 18) (.t 17)⟩])
 (.seq (.reg [⟨none, some 19, 19, .faddr (.t 1) 5⟩,
   ⟨none, some 20, 20, .load none (.t 19)⟩,
   ⟨none, some 21, 21, .faddr (.t 3) 5⟩,
   ⟨none, none, 100006, .store 1 (.t 21) (.t 20)⟩])
 (x_l_toMsg_4))
def x_l_toMsg_2 : XCode := .seq (.reg [⟨none, some 10, 10, .faddr (.t 1) 2⟩,
   ⟨none, some 11, 11, .load none (.t 10)⟩,
   ⟨none, some 12, 12, .faddr (.t 3) 2⟩,
   ⟨none, none, 100003, .store 1 (.t 12) (.t 11)⟩])
 (.seq (.reg [⟨none, some 13, 13, .faddr (.t 1) 3⟩,
   ⟨none, some 14, 14, .load none (.t 13)⟩,
   ⟨none, some 15, 15, .faddr (.t 3) 3⟩,
   ⟨none, none, 100004, .store 1 (.t 15) (.t 14)⟩])
 (x_l_toMsg_3))
def x_l_toMsg_1 : XCode := .seq (.reg [⟨none, some 4, 4, .faddr (.t 1) 0⟩,
   ⟨none, some 5, 5, .load none (.t 4)⟩,
   ⟨none, some 6, 6, .faddr (.t 3) 0⟩,
   ⟨none, none, 100001, .store 1 (.t 6) (.t 5)⟩])
 (.seq (.reg [⟨none, some 7, 7, .faddr (.t 1) 1⟩,
   ⟨none, some 8, 8, .load none (.t 7)⟩,
   ⟨none, some 9, 9, .faddr (.t 3) 1⟩,
   ⟨none, none, 100002, .store 1 (.t 9) (.t 8)⟩])
 (x_l_toMsg_2))
def x_l_toMsg : FnX := ⟨29, [.cell 2 (some 8)],
  .seq (.reg [⟨none, some 1, 1, .box (.t 0)⟩,
   ⟨none, some 2, 2, .alloc [.pv (.int .i64 0), .pv (.int .i64 0), .pv (.int .i64 0), .pv (.int .i64 0), .pv (.string ⟨#[]⟩), .pv (.string ⟨#[]⟩), .pv (.int .i64 0), .pv (.int .i64 0)]⟩])
 (.seq (.reg [⟨none, some 3, 3, .alloc [.pv (.int .i64 0), .pv (.int .i64 0), .pv (.int .i64 0), .pv (.int .i64 0), .pv (.string ⟨#[]⟩), .pv (.string ⟨#[]⟩), .pv (.int .i64 0), .pv (.int .i64 0)]⟩])
 (x_l_toMsg_1))⟩
abbrev C_l_toMsg (Te : Nat → List AV → Res → Prop) : Prop := ∀ (x : Msg), Te 96 [.agg x.row] ⟨[.agg x.row], [x.row]⟩
theorem r_l_toMsg {Te : Nat → List AV → Res → Prop} : ∀ (x : Msg), RunFn Te x_l_toMsg [.agg x.row] ⟨[.agg x.row], [x.row]⟩ := by
  intro x
  refine ⟨by simp -implicitDefEqProofs only [x_l_toMsg, go_sem], ?_⟩
  simp -implicitDefEqProofs only [x_l_toMsg, go_sem]
  simp -implicitDefEqProofs only [x_l_toMsg_1, go_sem]
  simp -implicitDefEqProofs only [x_l_toMsg_2, go_sem]
  simp -implicitDefEqProofs only [x_l_toMsg_3, go_sem]
  simp -implicitDefEqProofs only [x_l_toMsg_4, go_sem]
  simp -implicitDefEqProofs only [x_l_toMsg_5, go_sem]
def x_l_eqMsg : FnX := ⟨45, [.tmp 4],
  .seq (.reg [⟨none, some 2, 2, .box (.t 0)⟩,
   ⟨none, some 3, 3, .box (.t 1)⟩,
   ⟨none, some 4, 4, .mv (.k (.one (.pv (.bool false))))⟩])
 (.seq (.seq (.reg [⟨none, some 5, 5, .faddr (.t 2) 0⟩,
   ⟨none, some 6, 6, .load none (.t 5)⟩,
   ⟨none, some 7, 7, .faddr (.t 3) 0⟩,
   ⟨none, some 8, 8, .load none (.t 7)⟩,
   ⟨none, some 9, 9, .bin .neq (.t 6) (.t 8)⟩])
 (.cond 9 (.seq (.reg [⟨none, some 4, 4, .mv (.k (.one (.pv (.bool false))))⟩])
 (.ret)) (.skip)))
 (.seq (.seq (.reg [⟨none, some 10, 10, .faddr (.t 2) 1⟩,
   ⟨none, some 11, 11, .load none (.t 10)⟩,
   ⟨none, some 12, 12, .faddr (.t 3) 1⟩,
   ⟨none, some 13, 13, .load none (.t 12)⟩,
   ⟨none, some 14, 14, .bin .neq (.t 11) (.t 13)⟩])
 (.cond 14 (.seq (.reg [⟨none, some 4, 4, .mv (.k (.one (.pv (.bool false))))⟩])
 (.ret)) (.skip)))
 (.seq (.seq (.reg [⟨none, some 15, 15, .faddr (.t 2) 2⟩,
   ⟨none, some 16, 16, .load none (.t 15)⟩,
   ⟨none, some 17, 17, .faddr (.t 3) 2⟩,
   ⟨none, some 18, 18, .load none (.t 17)⟩,
   ⟨none, some 19, 19, .bin .neq (.t 16) (.t 18)⟩])
 (.cond 19 (.seq (.reg [⟨none, some 4, 4, .mv (.k (.one (.pv (.bool false))))⟩])
 (.ret)) (.skip)))
 (.seq (.seq (.reg [⟨none, some 20, 20, .faddr (.t 2) 3⟩,
   ⟨none, some 21, 21, .load none (.t 20)⟩,
   ⟨none, some 22, 22, .faddr (.t 3) 3⟩,
   ⟨none, some 23, 23, .load none (.t 22)⟩,
   ⟨none, some 24, 24, .bin .neq (.t 21) (.t 23)⟩])
 (.cond 24 (.seq (.reg [⟨none, some 4, 4, .mv (.k (.one (.pv (.bool false))))⟩])
 (.ret)) (.skip)))
 (.seq (.seq (.reg [⟨none, some 25, 25, .faddr (.t 2) 4⟩,
   ⟨none, some 26, 26, .load none (.t 25)⟩,
   ⟨none, some 27, 27, .faddr (.t 3) 4⟩,
   ⟨none, some 28, 28, .load none (.t 27)⟩,
   ⟨none, some 29, 29, .bin .neq (.t 26) (.t 28)⟩])
 (.cond 29 (.seq (.reg [⟨none, some 4, 4, .mv (.k (.one (.pv (.bool false))))⟩])
 (.ret)) (.skip)))
 (.seq (.seq (.reg [⟨none, some 30, 30, .faddr (.t 2) 5⟩,
   ⟨none, some 31, 31, .load none (.t 30)⟩,
   ⟨none, some 32, 32, .faddr (.t 3) 5⟩,
   ⟨none, some 33, 33, .load none (.t 32)⟩,
   ⟨none, some 34, 34, .bin .neq (.t 31) (.t 33)⟩])
 (.cond 34 (.seq (.reg [⟨none, some 4, 4, .mv (.k (.one (.pv (.bool false))))⟩])
 (.ret)) (.skip)))
 (.seq (.seq (.reg [⟨none, some 35, 35, .faddr (.t 2) 6⟩,
   ⟨none, some 36, 36, .load none (.t 35)⟩,
   ⟨none, some 37, 37, .faddr (.t 3) 6⟩,
   ⟨none, some 38, 38, .load none (.t 37)⟩,
   ⟨none, some 39, 39, .bin .neq (.t 36) (.t 38)⟩])
 (.cond 39 (.seq (.reg [⟨none, some 4, 4, .mv (.k (.one (.pv (.bool false))))⟩])
 (.ret)) (.skip)))
 (.seq (.seq (.reg [⟨none, some 40, 40, .faddr (.t 2) 7⟩,
   ⟨none, some 41, 41, .load none (.t 40)⟩,
   ⟨none, some 42, 42, .faddr (.t 3) 7⟩,
   ⟨none, some 43, 43, .load none (.t 42)⟩,
   ⟨none, some 44, 44, .bin .neq (.t 41) (.t 43)⟩])
 (.cond 44 (.seq (.reg [⟨none, some 4, 4, .mv (.k (.one (.pv (.bool false))))⟩])
 (.ret)) (.skip)))
 (.seq (.reg [⟨none, some 4, 4, .mv (.k (.one (.pv (.bool true))))⟩])
 (.ret))))))))))⟩
abbrev C_l_eqMsg (Te : Nat → List AV → Res → Prop) : Prop := ∀ (x y : Msg), Te 106 [.agg x.row, .agg y.row] ⟨[.one (bT (decide (x = y)))], [x.row, y.row]⟩
theorem r_l_eqMsg {Te : Nat → List AV → Res → Prop} : ∀ (x y : Msg), RunFn Te x_l_eqMsg [.agg x.row, .agg y.row] ⟨[.one (bT (decide (x = y)))], [x.row, y.row]⟩ := by
  intro x y
  refine ⟨by simp -implicitDefEqProofs only [x_l_eqMsg, go_sem], ?_⟩
  have key : (x = y) ↔ x.Kind = y.Kind ∧ x.From = y.From ∧ x.To = y.To ∧ x.Seq = y.Seq ∧ x.Key = y.Key ∧ x.Text = y.Text ∧ x.N = y.N ∧ x.Code = y.Code := by cases x; cases y; simp
  simp only [key]
  clear key
  simp -implicitDefEqProofs only [x_l_eqMsg, go_sem]
  refine ⟨fun q => ?_, fun q => ?_⟩
  · have n0 : ¬ (x.Kind = y.Kind) := by simpa using q
    simp only [n0, false_and, and_false, true_and, decide_false]
  have e0 : x.Kind = y.Kind := by simpa using q
  clear q
  refine ⟨fun q => ?_, fun q => ?_⟩
  · have n1 : ¬ (x.From = y.From) := by simpa using q
    simp only [e0, n1, false_and, and_false, true_and, decide_false]
  have e1 : x.From = y.From := by simpa using q
  clear q
  refine ⟨fun q => ?_, fun q => ?_⟩
  · have n2 : ¬ (x.To = y.To) := by simpa using q
    simp only [e0, e1, n2, false_and, and_false, true_and, decide_false]
  have e2 : x.To = y.To := by simpa using q
  clear q
  refine ⟨fun q => ?_, fun q => ?_⟩
  · have n3 : ¬ (x.Seq = y.Seq) := by simpa using q
    simp only [e0, e1, e2, n3, false_and, and_false, true_and, decide_false]
  have e3 : x.Seq = y.Seq := by simpa using q
  clear q
  refine ⟨fun q => ?_, fun q => ?_⟩
  · have n4 : ¬ (x.Key = y.Key) := by simpa using q
    simp only [e0, e1, e2, e3, n4, false_and, and_false, true_and, decide_false]
  have e4 : x.Key = y.Key := by simpa using q
  clear q
  refine ⟨fun q => ?_, fun q => ?_⟩
  · have n5 : ¬ (x.Text = y.Text) := by simpa using q
    simp only [e0, e1, e2, e3, e4, n5, false_and, and_false, true_and, decide_false]
  have e5 : x.Text = y.Text := by simpa using q
  clear q
  refine ⟨fun q => ?_, fun q => ?_⟩
  · have n6 : ¬ (x.N = y.N) := by simpa using q
    simp only [e0, e1, e2, e3, e4, e5, n6, false_and, and_false, true_and, decide_false]
  have e6 : x.N = y.N := by simpa using q
  clear q
  refine ⟨fun q => ?_, fun q => ?_⟩
  · have n7 : ¬ (x.Code = y.Code) := by simpa using q
    simp only [e0, e1, e2, e3, e4, e5, e6, n7, false_and, and_false, true_and, decide_false]
  have e7 : x.Code = y.Code := by simpa using q
  clear q
  simp only [e0, e1, e2, e3, e4, e5, e6, e7, true_and, and_true, decide_true]
def x_l_szMsgS : FnX := ⟨27, [.tmp 4],
  .seq (.reg [⟨none, some 4, 4, .mv (.k (.one (.pv (.int .i64 0))))⟩])
 (.seq (.reg [⟨none, some 6, 6, .mv (.t 1)⟩,
   ⟨none, some 7, 7, .mv (.t 0)⟩,
   ⟨none, some 8, 8, .len (.t 7)⟩,
   ⟨none, some 9, 9, .bin .sub (.t 6) (.t 8)⟩,
   ⟨none, some 1, 1, .mv (.t 9)⟩])
 (.seq (.seq (.reg [⟨none, some 10, 10, .mv (.t 1)⟩,
   ⟨none, some 11, 11, .bin .lss (.t 10) (.k (.one (.pv (.int .i64 0))))⟩])
 (.cond 11 (.seq (.reg [⟨none, some 4, 4, .mv (.k (.one (.pv (.int .i64 (-1)))))⟩])
 (.ret)) (.skip)))
 (.seq (.seq (.reg [⟨none, some 5, 5, .mv (.k (.one (.pv (.int .i64 0))))⟩])
 (.block 0 (.loop [0, 1, 5] (.seq (.seq (.reg [⟨none, some 12, 12, .mv (.t 5)⟩,
   ⟨none, some 13, 13, .mv (.t 0)⟩,
   ⟨none, some 14, 14, .len (.t 13)⟩,
   ⟨none, some 15, 15, .bin .lss (.t 12) (.t 14)⟩])
 (.cond 15 (.skip) (.exit 0)))
 (.seq (.block 1 (.seq (.reg [⟨none, some 18, 18, .mv (.t 0)⟩,
   ⟨none, some 19, 19, .mv (.t 5)⟩,
   ⟨none, some 20, 20, .iaddr 8 (.t 18) (.t 19)⟩,
   ⟨none, some 21, 21, .load (some 8) (.t 20)⟩,
   ⟨none, some 22, 22, .mv (.t 1)⟩,
   ⟨none, some 23, 23, .call 86 [0, 0] [(.t 21), (.t 22)]⟩,
   ⟨none, some 1, 1, .mv (.t 23)⟩])
 (.seq (.reg [⟨none, some 24, 24, .mv (.t 1)⟩,
   ⟨none, some 25, 25, .bin .lss (.t 24) (.k (.one (.pv (.int .i64 0))))⟩])
 (.cond 25 (.seq (.reg [⟨none, some 4, 4, .mv (.k (.one (.pv (.int .i64 (-1)))))⟩])
 (.ret)) (.skip)))))
 (.reg [⟨none, some 16, 16, .mv (.t 5)⟩,
   ⟨none, some 17, 17, .bin .add (.t 16) (.k (.one (.pv (.int .i64 1))))⟩,
   ⟨none, some 5, 5, .mv (.t 17)⟩]))))))
 (.norm [1] (.seq (.reg [⟨none, some 26, 26, .mv (.t 1)⟩,
   ⟨none, some 4, 4, .mv (.t 26)⟩])
 (.ret))))))⟩
abbrev C_l_szMsgS (Te : Nat → List AV → Res → Prop) : Prop := ∀ (l : List Msg) (k : Int) (hk : 0 ≤ k ∧ k ≤ 2 ^ 48) (hl : l.length ≤ 2 ^ 48) (hs : ∀ y ∈ l, y.In (2 ^ 48)), Te 38 [.one (slT false 8 Msg.row l), .one (iT k)] ⟨[.one (iT (szSl szMsg l k))], [[slT false 8 Msg.row l], [iT k]]⟩
theorem r_l_szMsgS {Te : Nat → List AV → Res → Prop} (c_l_szMsg : C_l_szMsg Te) : ∀ (l : List Msg) (k : Int) (hk : 0 ≤ k ∧ k ≤ 2 ^ 48) (hl : l.length ≤ 2 ^ 48) (hs : ∀ y ∈ l, y.In (2 ^ 48)), RunFn Te x_l_szMsgS [.one (slT false 8 Msg.row l), .one (iT k)] ⟨[.one (iT (szSl szMsg l k))], [[slT false 8 Msg.row l], [iT k]]⟩ := by
  intro l k hk hl hs
  refine ⟨by simp -implicitDefEqProofs only [x_l_szMsgS, go_sem], ?_⟩
  simp -implicitDefEqProofs (disch := omega) only [x_l_szMsgS, go_sem, IntWalk.i64_in]
  refine ⟨fun h => ?_, fun h => ?_⟩
  · simp only [decide_eq_true_eq] at h
    simp only [szSl, szAll, if_pos h]
  · simp only [decide_eq_false_iff_not] at h
    refine loop_of (σ := Nat × Int) (fun x => ⟨[(0, .one (.ro 8 (l.map Msg.row))), (1, .one (.pv (.int .i64 x.2))), (5, .one (.pv (.int .i64 x.1)))], [], [(0, [slT false 8 Msg.row l]), (1, [iT k])]⟩) (fun x => x.1 ≤ l.length ∧ 0 ≤ x.2 ∧ x.2 ≤ k ∧ szSl szMsg l k = szAll ((l.drop x.1).map szMsg) x.2) (fun x => l.length - x.1) (0, k - l.length) ?_ ⟨Nat.zero_le _, by omega, by omega, by simp only [szSl, szAll, if_neg h, List.drop_zero]⟩ ?_
    · simp -implicitDefEqProofs only [go_sem]; rfl
    · rintro ⟨i, c⟩ ⟨hi, h0, h1, he⟩
      simp only at hi h0 h1 he
      simp -implicitDefEqProofs only [go_sem]
      refine ⟨fun h => ?_, fun h => ?_⟩
      · have hi' : i < l.length := by simp only [decide_eq_true_eq] at h; omega
        have hsz := hs l[i] (List.getElem_mem hi')
        rw [List.drop_eq_getElem_cons hi'] at he
        simp -implicitDefEqProofs (disch := omega) only [go_sem, List.getElem?_eq_getElem hi', IntWalk.i64_in]
        refine .of (c_l_szMsg _ _ hsz ⟨h0, by omega⟩) ?_
        simp -implicitDefEqProofs only [go_sem]
        refine ⟨fun h2 => ?_, fun h2 => ?_⟩
        · simp only [decide_eq_true_eq] at h2
          rw [he]
          simp only [List.map_cons, szAll, if_pos h2]
        · simp only [decide_eq_false_iff_not] at h2
          refine ⟨(i + 1, szMsg l[i] c), by rw [IntWalk.i64_in _ (by omega)]; rfl, ⟨hi', by omega, Int.le_trans (szMsg_sane _ _ h0) h1, ?_⟩, by simp only; omega⟩
          rw [he]
          simp only [List.map_cons, szAll, if_neg h2]
      · have hle : l.length ≤ i := by simp only [decide_eq_false_iff_not] at h; omega
        rw [List.drop_of_length_le hle] at he
        simp only [szAll, List.map_nil] at he
        rw [he]
def x_l_toMsgS : FnX := ⟨23, [.tmp 2],
  .seq (.reg [⟨none, some 2, 2, .mv (.k (.one (.nils 8)))⟩])
 (.seq (.reg [⟨none, some 5, 5, .mv (.t 0)⟩,
   ⟨none, some 6, 6, .len (.t 5)⟩,
   ⟨none, some 7, 7, .mks 8 80 [.pv (.int .i64 0), .pv (.int .i64 0), .pv (.int .i64 0), .pv (.int .i64 0), .pv (.string ⟨#[]⟩), .pv (.string ⟨#[]⟩), .pv (.int .i64 0), .pv (.int .i64 0)] (.t 6)⟩,
   ⟨none, some 3, 3, .mv (.t 7)⟩])
 (.seq (.seq (.reg [⟨none, some 4, 4, .mv (.k (.one (.pv (.int .i64 0))))⟩])
 (.block 0 (.loop [0, 3, 4] (.seq (.seq (.reg [⟨none, some 8, 8, .mv (.t 4)⟩,
   ⟨none, some 9, 9, .mv (.t 0)⟩,
   ⟨none, some 10, 10, .len (.t 9)⟩,
   ⟨none, some 11, 11, .bin .lss (.t 8) (.t 10)⟩])
 (.cond 11 (.skip) (.exit 0)))
 (.seq (.block 1 (.reg [⟨none, some 14, 14, .mv (.t 3)⟩,
   ⟨none, some 15, 15, .mv (.t 4)⟩,
   ⟨none, some 16, 16, .mv (.t 0)⟩,
   ⟨none, some 17, 17, .mv (.t 4)⟩,
   ⟨none, some 18, 18, .iaddr 8 (.t 16) (.t 17)⟩,
   ⟨none, some 19, 19, .load (some 8) (.t 18)⟩,
   ⟨none, some 20, 20, .call 96 [0] [(.t 19)]⟩,
   ⟨none, some 21, 21, .iaddr 8 (.t 14) (.t 15)⟩,
   ⟨none, none, 100001, .store 8 (.t 21) (.t 20)⟩]))
 (.reg [⟨none, some 12, 12, .mv (.t 4)⟩,
   ⟨none, some 13, 13, .bin .add (.t 12) (.k (.one (.pv (.int .i64 1))))⟩,
   ⟨none, some 4, 4, .mv (.t 13)⟩]))))))
 (.norm [3] (.seq (.reg [⟨none, some 22, 22, .mv (.t 3)⟩,
   ⟨none, some 2, 2, .mv (.t 22)⟩])
 (.ret)))))⟩
abbrev C_l_toMsgS (Te : Nat → List AV → Res → Prop) : Prop := ∀ (l : List Msg) (hl : l.length ≤ 2 ^ 31), Te 49 [.one (slT false 8 Msg.row l)] ⟨[.one (slT true 8 Msg.row l)], [[slT false 8 Msg.row l]]⟩
theorem r_l_toMsgS {Te : Nat → List AV → Res → Prop} (c_l_toMsg : C_l_toMsg Te) : ∀ (l : List Msg) (hl : l.length ≤ 2 ^ 31), RunFn Te x_l_toMsgS [.one (slT false 8 Msg.row l)] ⟨[.one (slT true 8 Msg.row l)], [[slT false 8 Msg.row l]]⟩ := by
  intro l hl
  refine ⟨by simp -implicitDefEqProofs only [x_l_toMsgS, go_sem], ?_⟩
  simp -implicitDefEqProofs (disch := omega) only [x_l_toMsgS, go_sem, IntWalk.i64_in]
  refine ⟨⟨by simp only [decide_eq_true_eq]; omega, by simp only [decide_eq_true_eq]; omega⟩, ?_⟩
  refine loop_of (σ := Nat) (fun i => ⟨[(0, .one (.ro 8 (l.map Msg.row))), (3, .one (.rf 24 0 [] 8 0 l.length)), (4, .one (.pv (.int .i64 i)))], [],
    [(0, [slT false 8 Msg.row l]), (24, [.sl true 8 () ((l.take i).map Msg.row ++ List.replicate (l.length - i) [.pv (.int .i64 0), .pv (.int .i64 0), .pv (.int .i64 0), .pv (.int .i64 0), .pv (.string ⟨#[]⟩), .pv (.string ⟨#[]⟩), .pv (.int .i64 0), .pv (.int .i64 0)])])]⟩) (fun i => i ≤ l.length) (fun i => l.length - i) 0 ?_ (Nat.zero_le _) ?_
  · simp -implicitDefEqProofs only [go_sem]; rfl
  · intro i hi
    simp -implicitDefEqProofs only [go_sem]
    refine ⟨fun h => ?_, fun h => ?_⟩
    · have hi' : i < l.length := by simp only [decide_eq_true_eq] at h; omega
      simp -implicitDefEqProofs only [go_sem, List.getElem?_eq_getElem hi', fill_len Msg.row l [.pv (.int .i64 0), .pv (.int .i64 0), .pv (.int .i64 0), .pv (.int .i64 0), .pv (.string ⟨#[]⟩), .pv (.string ⟨#[]⟩), .pv (.int .i64 0), .pv (.int .i64 0)] hi, storeAp, setCells, List.getD_eq_getElem?_getD, fill_get Msg.row l [.pv (.int .i64 0), .pv (.int .i64 0), .pv (.int .i64 0), .pv (.int .i64 0), .pv (.string ⟨#[]⟩), .pv (.string ⟨#[]⟩), .pv (.int .i64 0), .pv (.int .i64 0)] hi']
      refine .of (c_l_toMsg _) ?_
      simp -implicitDefEqProofs only [go_sem, fill_len Msg.row l [.pv (.int .i64 0), .pv (.int .i64 0), .pv (.int .i64 0), .pv (.int .i64 0), .pv (.string ⟨#[]⟩), .pv (.string ⟨#[]⟩), .pv (.int .i64 0), .pv (.int .i64 0)] hi, storeAp, setCells, List.getD_eq_getElem?_getD, fill_get Msg.row l [.pv (.int .i64 0), .pv (.int .i64 0), .pv (.int .i64 0), .pv (.int .i64 0), .pv (.string ⟨#[]⟩), .pv (.string ⟨#[]⟩), .pv (.int .i64 0), .pv (.int .i64 0)] hi']
      repeat (first | refine ⟨by decide, ?_⟩ | refine ⟨by simpa using hi', ?_⟩)
      refine ⟨i + 1, ?_, hi', by omega⟩
      rw [← fill_set Msg.row l [.pv (.int .i64 0), .pv (.int .i64 0), .pv (.int .i64 0), .pv (.int .i64 0), .pv (.string ⟨#[]⟩), .pv (.string ⟨#[]⟩), .pv (.int .i64 0), .pv (.int .i64 0)] hi', IntWalk.i64_in _ (by omega)]
      rfl
    · have : i = l.length := by simp only [decide_eq_false_iff_not] at h; omega
      subst this
      simp -implicitDefEqProofs only [go_sem, fill_len Msg.row l [.pv (.int .i64 0), .pv (.int .i64 0), .pv (.int .i64 0), .pv (.int .i64 0), .pv (.string ⟨#[]⟩), .pv (.string ⟨#[]⟩), .pv (.int .i64 0), .pv (.int .i64 0)] hi, fill_end]
      refine ⟨by simp, ?_⟩
      simp [take_map]
def x_l_eqMsgS : FnX := ⟨27, [.tmp 4],
  .seq (.reg [⟨none, some 4, 4, .mv (.k (.one (.pv (.bool false))))⟩])
 (.seq (.seq (.reg [⟨none, some 6, 6, .mv (.t 0)⟩,
   ⟨none, some 7, 7, .len (.t 6)⟩,
   ⟨none, some 8, 8, .mv (.t 1)⟩,
   ⟨none, some 9, 9, .len (.t 8)⟩,
   ⟨none, some 10, 10, .bin .neq (.t 7) (.t 9)⟩])
 (.cond 10 (.seq (.reg [⟨none, some 4, 4, .mv (.k (.one (.pv (.bool false))))⟩])
 (.ret)) (.skip)))
 (.seq (.seq (.reg [⟨none, some 5, 5, .mv (.k (.one (.pv (.int .i64 0))))⟩])
 (.block 0 (.loop [0, 1, 5] (.seq (.seq (.reg [⟨none, some 11, 11, .mv (.t 5)⟩,
   ⟨none, some 12, 12, .mv (.t 0)⟩,
   ⟨none, some 13, 13, .len (.t 12)⟩,
   ⟨none, some 14, 14, .bin .lss (.t 11) (.t 13)⟩])
 (.cond 14 (.skip) (.exit 0)))
 (.seq (.block 1 (.seq (.draw [⟨none, some 17, 17, .mv (.t 0)⟩,
   ⟨none, some 18, 18, .mv (.t 5)⟩,
   ⟨none, some 19, 19, .iaddr 8 (.t 17) (.t 18)⟩,
   ⟨none, some 20, 20, .load (some 8) (.t 19)⟩,
   ⟨none, some 21, 21, .mv (.t 1)⟩,
   ⟨none, some 22, 22, .mv (.t 5)⟩,
   ⟨none, some 23, 23, .iaddr 8 (.t 21) (.t 22)⟩,
   ⟨none, some 24, 24, .load (some 8) (.t 23)⟩,
   ⟨none, some 25, 25, .call 106 [0, 0] [(.t 20), (.t 24)]⟩,
   ⟨none, some 26, 26, .not (.t 25)⟩] [[], [], [0, 1], [2], [], [], [4, 5], [6], [3, 7], [8]])
 (.cond 26 (.seq (.reg [⟨none, some 4, 4, .mv (.k (.one (.pv (.bool false))))⟩])
 (.ret)) (.skip))))
 (.reg [⟨none, some 15, 15, .mv (.t 5)⟩,
   ⟨none, some 16, 16, .bin .add (.t 15) (.k (.one (.pv (.int .i64 1))))⟩,
   ⟨none, some 5, 5, .mv (.t 16)⟩]))))))
 (.norm [] (.seq (.reg [⟨none, some 4, 4, .mv (.k (.one (.pv (.bool true))))⟩])
 (.ret)))))⟩
abbrev C_l_eqMsgS (Te : Nat → List AV → Res → Prop) : Prop := ∀ (l m : List Msg) (hl : l.length ≤ 2 ^ 31), Te 60 [.one (slT false 8 Msg.row l), .one (slT false 8 Msg.row m)] ⟨[.one (bT (decide (l = m)))], [[slT false 8 Msg.row l], [slT false 8 Msg.row m]]⟩
theorem r_l_eqMsgS {Te : Nat → List AV → Res → Prop} (c_l_eqMsg : C_l_eqMsg Te) : ∀ (l m : List Msg) (hl : l.length ≤ 2 ^ 31), RunFn Te x_l_eqMsgS [.one (slT false 8 Msg.row l), .one (slT false 8 Msg.row m)] ⟨[.one (bT (decide (l = m)))], [[slT false 8 Msg.row l], [slT false 8 Msg.row m]]⟩ := by
  intro l m hl
  refine ⟨by simp -implicitDefEqProofs only [x_l_eqMsgS, go_sem], ?_⟩
  simp -implicitDefEqProofs (disch := omega) only [x_l_eqMsgS, go_sem, IntWalk.i64_in]
  refine ⟨fun h => ?_, fun h => ?_⟩
  · have : l ≠ m := fun e => by simp [e] at h
    simp [this]
  · have hlen : l.length = m.length := by simp at h; omega
    refine loop_of (σ := Nat) (fun i => ⟨[(0, .one (.ro 8 (l.map Msg.row))), (1, .one (.ro 8 (m.map Msg.row))), (5, .one (.pv (.int .i64 i)))], [], [(0, [slT false 8 Msg.row l]), (1, [slT false 8 Msg.row m])]⟩) (fun i => i ≤ l.length ∧ l.take i = m.take i) (fun i => l.length - i) 0 ?_ ⟨Nat.zero_le _, by simp⟩ ?_
    · simp -implicitDefEqProofs only [go_sem]; rfl
    · intro i ⟨hi, hs⟩
      simp -implicitDefEqProofs only [go_sem]
      refine ⟨fun h => ?_, fun h => ?_⟩
      · have hi' : i < l.length := by simp only [decide_eq_true_eq] at h; omega
        have hj' : i < m.length := by omega
        simp -implicitDefEqProofs only [go_sem, List.getElem?_eq_getElem hi', List.getElem?_eq_getElem hj']
        refine .of (c_l_eqMsg _ _) ?_
        simp -implicitDefEqProofs only [go_sem]
        refine ⟨by decide, fun h2 => ?_, fun h2 => ?_⟩
        · have : l ≠ m := fun e => by subst e; simp at h2
          simp [this]
        · refine ⟨i + 1, by rw [IntWalk.i64_in _ (by omega)]; rfl, ⟨hi', same_step hi' hj' hs ?_⟩, by omega⟩
          simpa using h2
      · have hle : l.length ≤ i := by simp only [decide_eq_false_iff_not] at h; omega
        have : l = m := same_end hle (by omega) hs
        simp [this]
end Go.X

/- D -/
namespace Go.X
set_option maxRecDepth 100000
set_option maxHeartbeats 8000000
structure Lead where
  Phase : Int
  Acked : List Bool
  Ended : List Bool
  At : List ByteArray
  deriving DecidableEq
abbrev Lead.enc (o : Bool) (x : Lead) : List Go.X.T := [iT x.Phase, slT o 1 bR x.Acked, slT o 1 bR x.Ended, slT o 1 sR x.At]
def Lead.In (n : Nat) (x : Lead) : Prop := x.Acked.length ≤ n ∧ x.Ended.length ≤ n ∧ (x.At.length ≤ n ∧ ∀ y ∈ x.At, y.size ≤ n)
theorem Lead.In.mono {x : Lead} {n m : Nat} (h : x.In n) (hn : n ≤ m) : x.In m := by
  simp only [Lead.In] at h ⊢
  exact ⟨Nat.le_trans h.1 hn, Nat.le_trans h.2.1 hn, ⟨Nat.le_trans h.2.2.1 hn, fun y hy => Nat.le_trans (h.2.2.2 y hy) hn⟩⟩
def szLead (x : Lead) (k : Int) : Int := szAll [(fun k => left (k - (x.Acked.length : Nat))), (fun k => left (k - (x.Ended.length : Nat))), (szSl szStr x.At)] k
theorem szLead_sane (x : Lead) : Sane (szLead x) := Sane.all (.cons (Sane.left _) (.cons (Sane.left _) (.cons (Sane.sl szStr_sane _) .nil)))
theorem szLead_in {x : Lead} {k : Int} {n : Nat} (hk : 0 ≤ k) (hn : k ≤ n) (h : 0 ≤ szLead x k) : x.In n := by
  obtain ⟨⟨j0, a0, b0, c0⟩, ⟨j1, a1, b1, c1⟩, ⟨j2, a2, b2, c2⟩, _⟩ := szAll_ex (.cons (Sane.left _) (.cons (Sane.left _) (.cons (Sane.sl szStr_sane _) .nil))) hk hn h
  exact ⟨(by have := left_in c0; omega), (by have := left_in c1; omega), (szSl_in szStr_sane (fun a j h0 hn h => by have := left_in h; omega) a2 b2 c2)⟩
def Lead.Len (x : Lead) : Prop := x.Acked.length ≤ 2 ^ 31 ∧ x.Ended.length ≤ 2 ^ 31 ∧ x.At.length ≤ 2 ^ 31
theorem Lead.In.len {x : Lead} {n : Nat} (h : x.In n) (hn : n ≤ 2 ^ 31) : x.Len := by
  obtain ⟨h0, h1, h2⟩ := h
  exact ⟨Nat.le_trans h0 hn, Nat.le_trans h1 hn, Nat.le_trans h2.1 hn⟩
def Lead.mark (x : Lead) (k : Int) : Lead := ⟨x.Phase, marks 1 mkB x.Acked.length (k), marks 1 mkB x.Ended.length (k + (1 * x.Acked.length : Nat)), marks 1 mkS x.At.length (k + (1 * x.Acked.length : Nat) + (1 * x.Ended.length : Nat))⟩
def Lead.far (x : Lead) (k : Int) : Int := k + (1 * x.Acked.length : Nat) + (1 * x.Ended.length : Nat) + (1 * x.At.length : Nat)
theorem Lead.mark_Acked (x : Lead) (k : Int) : (x.mark k).Acked.length = x.Acked.length := by simp [Lead.mark, marks_length, markL_length]
theorem Lead.take_Acked {β : Type} (f : Bool → β) (x : Lead) (k : Int) : ((x.mark k).Acked.map f).take x.Acked.length = (x.mark k).Acked.map f := by rw [← x.mark_Acked k, take_map]
theorem Lead.mark_Ended (x : Lead) (k : Int) : (x.mark k).Ended.length = x.Ended.length := by simp [Lead.mark, marks_length, markL_length]
theorem Lead.take_Ended {β : Type} (f : Bool → β) (x : Lead) (k : Int) : ((x.mark k).Ended.map f).take x.Ended.length = (x.mark k).Ended.map f := by rw [← x.mark_Ended k, take_map]
theorem Lead.mark_At (x : Lead) (k : Int) : (x.mark k).At.length = x.At.length := by simp [Lead.mark, marks_length, markL_length]
theorem Lead.take_At {β : Type} (f : ByteArray → β) (x : Lead) (k : Int) : ((x.mark k).At.map f).take x.At.length = (x.mark k).At.map f := by rw [← x.mark_At k, take_map]
def x_l_szLead : FnX := ⟨24, [.tmp 4],
  .seq (.reg [⟨none, some 2, 2, .box (.t 0)⟩,
   ⟨none, some 4, 4, .mv (.k (.one (.pv (.int .i64 0))))⟩])
 (.seq (.reg [⟨none, some 5, 5, .faddr (.t 2) 1⟩,
   ⟨none, some 6, 6, .load none (.t 5)⟩,
   ⟨none, some 7, 7, .mv (.t 1)⟩,
   ⟨none, some 8, 8, .call 83 [0, 0] [(.t 6), (.t 7)]⟩,
   ⟨none, some 1, 1, .mv (.t 8)⟩])
 (.seq (.seq (.reg [⟨none, some 9, 9, .mv (.t 1)⟩,
   ⟨none, some 10, 10, .bin .lss (.t 9) (.k (.one (.pv (.int .i64 0))))⟩])
 (.cond 10 (.seq (.reg [⟨none, some 4, 4, .mv (.k (.one (.pv (.int .i64 (-1)))))⟩])
 (.ret)) (.skip)))
 (.seq (.reg [⟨none, some 11, 11, .faddr (.t 2) 2⟩,
   ⟨none, some 12, 12, .load none (.t 11)⟩,
   ⟨none, some 13, 13, .mv (.t 1)⟩,
   ⟨none, some 14, 14, .call 83 [0, 0] [(.t 12), (.t 13)]⟩,
   ⟨none, some 1, 1, .mv (.t 14)⟩])
 (.seq (.seq (.reg [⟨none, some 15, 15, .mv (.t 1)⟩,
   ⟨none, some 16, 16, .bin .lss (.t 15) (.k (.one (.pv (.int .i64 0))))⟩])
 (.cond 16 (.seq (.reg [⟨none, some 4, 4, .mv (.k (.one (.pv (.int .i64 (-1)))))⟩])
 (.ret)) (.skip)))
 (.seq (.reg [⟨none, some 17, 17, .faddr (.t 2) 3⟩,
   ⟨none, some 18, 18, .load none (.t 17)⟩,
   ⟨none, some 19, 19, .mv (.t 1)⟩,
   ⟨none, some 20, 20, .call 84 [0, 0] [(.t 18), (.t 19)]⟩,
   ⟨none, some 1, 1, .mv (.t 20)⟩])
 (.seq (.seq (.reg [⟨none, some 21, 21, .mv (.t 1)⟩,
   ⟨none, some 22, 22, .bin .lss (.t 21) (.k (.one (.pv (.int .i64 0))))⟩])
 (.cond 22 (.seq (.reg [⟨none, some 4, 4, .mv (.k (.one (.pv (.int .i64 (-1)))))⟩])
 (.ret)) (.skip)))
 (.seq (.reg [⟨none, some 23, 23, .mv (.t 1)⟩,
   ⟨none, some 4, 4, .mv (.t 23)⟩])
 (.ret))))))))⟩
abbrev C_l_szLead (Te : Nat → List AV → Res → Prop) : Prop := ∀ (x : Lead) (k : Int) (hx : x.In (2 ^ 48)) (hk : 0 ≤ k ∧ k ≤ 2 ^ 48), Te 35 [.agg (x.enc false), .one (iT k)] ⟨[.one (iT (szLead x k))], [(x.enc false), [iT k]]⟩
theorem r_l_szLead {Te : Nat → List AV → Res → Prop} (c_l_szBoolS : C_l_szBoolS Te) (c_l_szStringS : C_l_szStringS Te) : ∀ (x : Lead) (k : Int) (hx : x.In (2 ^ 48)) (hk : 0 ≤ k ∧ k ≤ 2 ^ 48), RunFn Te x_l_szLead [.agg (x.enc false), .one (iT k)] ⟨[.one (iT (szLead x k))], [(x.enc false), [iT k]]⟩ := by
  intro x k hx hk
  refine ⟨by simp -implicitDefEqProofs only [x_l_szLead, go_sem], ?_⟩
  obtain ⟨h0, h1, h2⟩ := hx
  simp -implicitDefEqProofs (disch := omega) only [x_l_szLead, go_sem, IntWalk.i64_in]
  refine .of (c_l_szBoolS _ _ h0 hk) ?_
  simp -implicitDefEqProofs (disch := omega) only [go_sem, IntWalk.i64_in]
  refine ⟨fun q0 => ?_, fun q0 => ?_⟩
  · simp only [decide_eq_true_eq] at q0
    simp only [szLead, szAll, if_pos q0]
  · simp only [decide_eq_false_iff_not] at q0
    have k1 : 0 ≤ (left (k - (x.Acked.length : Nat))) ∧ (left (k - (x.Acked.length : Nat))) ≤ 2 ^ 48 := ⟨by omega, Int.le_trans (Sane.left _ _ hk.1) hk.2⟩
    refine .of (c_l_szBoolS _ _ h1 k1) ?_
    simp -implicitDefEqProofs (disch := omega) only [go_sem, IntWalk.i64_in]
    refine ⟨fun q1 => ?_, fun q1 => ?_⟩
    · simp only [decide_eq_true_eq] at q1
      simp only [szLead, szAll, if_neg q0, if_pos q1]
    · simp only [decide_eq_false_iff_not] at q1
      have k2 : 0 ≤ (left ((left (k - (x.Acked.length : Nat))) - (x.Ended.length : Nat))) ∧ (left ((left (k - (x.Acked.length : Nat))) - (x.Ended.length : Nat))) ≤ 2 ^ 48 := ⟨by omega, Int.le_trans (Sane.left _ _ k1.1) k1.2⟩
      refine .of (c_l_szStringS _ _ k2 h2.1 h2.2) ?_
      simp -implicitDefEqProofs (disch := omega) only [go_sem, IntWalk.i64_in]
      refine ⟨fun q2 => ?_, fun q2 => ?_⟩
      · simp only [decide_eq_true_eq] at q2
        simp only [szLead, szAll, if_neg q0, if_neg q1, if_pos q2]
      · simp only [decide_eq_false_iff_not] at q2
        have k3 : 0 ≤ (szSl szStr x.At (left ((left (k - (x.Acked.length : Nat))) - (x.Ended.length : Nat)))) ∧ (szSl szStr x.At (left ((left (k - (x.Acked.length : Nat))) - (x.Ended.length : Nat)))) ≤ 2 ^ 48 := ⟨by omega, Int.le_trans ((Sane.sl szStr_sane _) _ k2.1) k2.2⟩
        simp only [szLead, szAll, if_neg q0, if_neg q1, if_neg q2]
def x_l_toLead : FnX := ⟨20, [.cell 2 (some 4)],
  .seq (.reg [⟨none, some 1, 1, .box (.t 0)⟩,
   ⟨none, some 2, 2, .alloc [.pv (.int .i64 0), .nils 1, .nils 1, .nils 1]⟩])
 (.seq (.reg [⟨none, some 3, 3, .alloc [.pv (.int .i64 0), .nils 1, .nils 1, .nils 1]⟩])
 (.seq (.reg [⟨none, some 4, 4, .faddr (.t 1) 0⟩,
   ⟨none, some 5, 5, .load none (.t 4)⟩,
   ⟨none, some 6, 6, .faddr (.t 3) 0⟩,
   ⟨none, none, 100001, .store 1 (.t 6) (.t 5)⟩])
 (.seq (.reg [⟨none, some 7, 7, .faddr (.t 1) 1⟩,
   ⟨none, some 8, 8, .load none (.t 7)⟩,
   ⟨none, some 9, 9, .call 93 [0] [(.t 8)]⟩,
   ⟨none, some 10, 10, .faddr (.t 3) 1⟩,
   ⟨none, none, 100002, .store 1 (.t 10) (.t 9)⟩])
 (.seq (.reg [⟨none, some 11, 11, .faddr (.t 1) 2⟩,
   ⟨none, some 12, 12, .load none (.t 11)⟩,
   ⟨none, some 13, 13, .call 93 [0] [(.t 12)]⟩,
   ⟨none, some 14, 14, .faddr (.t 3) 2⟩,
   ⟨none, none, 100003, .store 1 (.t 14) (.t 13)⟩])
 (.seq (.reg [⟨none, some 15, 15, .faddr (.t 1) 3⟩,
   ⟨none, some 16, 16, .load none (.t 15)⟩,
   ⟨none, some 17, 17, .call 94 [0] [(.t 16)]⟩,
   ⟨none, some 18, 18, .faddr (.t 3) 3⟩,
   ⟨none, none, 100004, .store 1 (.t 18) (.t 17)⟩])
 (.seq (.reg [⟨none, some 19, 19, .load (some 4) (.t 3)⟩,
   ⟨none, none, 100005, .store 4 (.t 2) (.t 19)⟩])
 (.ret)))))))⟩
abbrev C_l_toLead (Te : Nat → List AV → Res → Prop) : Prop := ∀ (x : Lead) (hx : x.Len), Te 46 [.agg (x.enc false)] ⟨[.agg (x.enc true)], [(x.enc false)]⟩
theorem r_l_toLead {Te : Nat → List AV → Res → Prop} (c_l_toBoolS : C_l_toBoolS Te) (c_l_toStringS : C_l_toStringS Te) : ∀ (x : Lead) (hx : x.Len), RunFn Te x_l_toLead [.agg (x.enc false)] ⟨[.agg (x.enc true)], [(x.enc false)]⟩ := by
  intro x hx
  refine ⟨by simp -implicitDefEqProofs only [x_l_toLead, go_sem], ?_⟩
  obtain ⟨h0, h1, h2⟩ := hx
  simp -implicitDefEqProofs only [x_l_toLead, go_sem]
  refine .of (c_l_toBoolS _ h0) ?_
  simp -implicitDefEqProofs only [go_sem]
  refine .of (c_l_toBoolS _ h1) ?_
  simp -implicitDefEqProofs only [go_sem]
  refine .of (c_l_toStringS _ h2) ?_
  simp -implicitDefEqProofs only [go_sem]
def x_l_eqLead : FnX := ⟨28, [.tmp 4],
  .seq (.reg [⟨none, some 2, 2, .box (.t 0)⟩,
   ⟨none, some 3, 3, .box (.t 1)⟩,
   ⟨none, some 4, 4, .mv (.k (.one (.pv (.bool false))))⟩])
 (.seq (.seq (.reg [⟨none, some 5, 5, .faddr (.t 2) 0⟩,
   ⟨none, some 6, 6, .load none (.t 5)⟩,
   ⟨none, some 7, 7, .faddr (.t 3) 0⟩,
   ⟨none, some 8, 8, .load none (.t 7)⟩,
   ⟨none, some 9, 9, .bin .neq (.t 6) (.t 8)⟩])
 (.cond 9 (.seq (.reg [⟨none, some 4, 4, .mv (.k (.one (.pv (.bool false))))⟩])
 (.ret)) (.skip)))
 (.seq (.seq (.reg [⟨none, some 10, 10, .faddr (.t 2) 1⟩,
   ⟨none, some 11, 11, .load none (.t 10)⟩,
   ⟨none, some 12, 12, .faddr (.t 3) 1⟩,
   ⟨none, some 13, 13, .load none (.t 12)⟩,
   ⟨none, some 14, 14, .call 103 [0, 0] [(.t 11), (.t 13)]⟩,
   ⟨none, some 15, 15, .not (.t 14)⟩])
 (.cond 15 (.seq (.reg [⟨none, some 4, 4, .mv (.k (.one (.pv (.bool false))))⟩])
 (.ret)) (.skip)))
 (.seq (.seq (.reg [⟨none, some 16, 16, .faddr (.t 2) 2⟩,
   ⟨none, some 17, 17, .load none (.t 16)⟩,
   ⟨none, some 18, 18, .faddr (.t 3) 2⟩,
   ⟨none, some 19, 19, .load none (.t 18)⟩,
   ⟨none, some 20, 20, .call 103 [0, 0] [(.t 17), (.t 19)]⟩,
   ⟨none, some 21, 21, .not (.t 20)⟩])
 (.cond 21 (.seq (.reg [⟨none, some 4, 4, .mv (.k (.one (.pv (.bool false))))⟩])
 (.ret)) (.skip)))
 (.seq (.seq (.reg [⟨none, some 22, 22, .faddr (.t 2) 3⟩,
   ⟨none, some 23, 23, .load none (.t 22)⟩,
   ⟨none, some 24, 24, .faddr (.t 3) 3⟩,
   ⟨none, some 25, 25, .load none (.t 24)⟩,
   ⟨none, some 26, 26, .call 104 [0, 0] [(.t 23), (.t 25)]⟩,
   ⟨none, some 27, 27, .not (.t 26)⟩])
 (.cond 27 (.seq (.reg [⟨none, some 4, 4, .mv (.k (.one (.pv (.bool false))))⟩])
 (.ret)) (.skip)))
 (.seq (.reg [⟨none, some 4, 4, .mv (.k (.one (.pv (.bool true))))⟩])
 (.ret))))))⟩
abbrev C_l_eqLead (Te : Nat → List AV → Res → Prop) : Prop := ∀ (x y : Lead) (hx : x.Len), Te 57 [.agg (x.enc false), .agg (y.enc false)] ⟨[.one (bT (decide (x = y)))], [(x.enc false), (y.enc false)]⟩
theorem r_l_eqLead {Te : Nat → List AV → Res → Prop} (c_l_eqBoolS : C_l_eqBoolS Te) (c_l_eqStringS : C_l_eqStringS Te) : ∀ (x y : Lead) (hx : x.Len), RunFn Te x_l_eqLead [.agg (x.enc false), .agg (y.enc false)] ⟨[.one (bT (decide (x = y)))], [(x.enc false), (y.enc false)]⟩ := by
  intro x y hx
  refine ⟨by simp -implicitDefEqProofs only [x_l_eqLead, go_sem], ?_⟩
  obtain ⟨h0, h1, h2⟩ := hx
  have key : (x = y) ↔ x.Phase = y.Phase ∧ x.Acked = y.Acked ∧ x.Ended = y.Ended ∧ x.At = y.At := by cases x; cases y; simp
  simp only [key]
  clear key
  simp -implicitDefEqProofs only [x_l_eqLead, go_sem]
  refine ⟨fun q => ?_, fun q => ?_⟩
  · have n0 : ¬ (x.Phase = y.Phase) := by simpa using q
    simp only [n0, false_and, and_false, true_and, decide_false]
  have e0 : x.Phase = y.Phase := by simpa using q
  clear q
  refine .of (c_l_eqBoolS _ _ h0) ?_
  simp -implicitDefEqProofs only [go_sem]
  refine ⟨fun q => ?_, fun q => ?_⟩
  · have n1 : ¬ (x.Acked = y.Acked) := by simpa using q
    simp only [e0, n1, false_and, and_false, true_and, decide_false]
  have e1 : x.Acked = y.Acked := by simpa using q
  clear q
  refine .of (c_l_eqBoolS _ _ h1) ?_
  simp -implicitDefEqProofs only [go_sem]
  refine ⟨fun q => ?_, fun q => ?_⟩
  · have n2 : ¬ (x.Ended = y.Ended) := by simpa using q
    simp only [e0, e1, n2, false_and, and_false, true_and, decide_false]
  have e2 : x.Ended = y.Ended := by simpa using q
  clear q
  refine .of (c_l_eqStringS _ _ h2) ?_
  simp -implicitDefEqProofs only [go_sem]
  refine ⟨fun q => ?_, fun q => ?_⟩
  · have n3 : ¬ (x.At = y.At) := by simpa using q
    simp only [e0, e1, e2, n3, false_and, and_false, true_and, decide_false]
  have e3 : x.At = y.At := by simpa using q
  clear q
  simp only [e0, e1, e2, e3, true_and, and_true, decide_true]
end Go.X

/- E -/
namespace Go.X
set_option maxRecDepth 100000
set_option maxHeartbeats 8000000
structure DoneV where
  Seq : Int
  Kind : Int
  Key : ByteArray
  Text : ByteArray
  Code : Int
  deriving DecidableEq
abbrev DoneV.row (x : DoneV) : List Go.X.T := [iT x.Seq, iT x.Kind, sT x.Key, sT x.Text, iT x.Code]
def DoneV.In (n : Nat) (x : DoneV) : Prop := x.Key.size ≤ n ∧ x.Text.size ≤ n
theorem DoneV.In.mono {x : DoneV} {n m : Nat} (h : x.In n) (hn : n ≤ m) : x.In m := by
  simp only [DoneV.In] at h ⊢
  exact ⟨Nat.le_trans h.1 hn, Nat.le_trans h.2 hn⟩
def szDone (x : DoneV) (k : Int) : Int := szAll [(fun k => k - (x.Key.size : Nat)), (fun k => k - (x.Text.size : Nat))] k
theorem szDone_sane (x : DoneV) : Sane (szDone x) := Sane.all (.cons (Sane.sub _) (.cons (Sane.sub _) .nil))
theorem szDone_in {x : DoneV} {k : Int} {n : Nat} (hk : 0 ≤ k) (hn : k ≤ n) (h : 0 ≤ szDone x k) : x.In n := by
  obtain ⟨⟨j0, a0, b0, c0⟩, ⟨j1, a1, b1, c1⟩, _⟩ := szAll_ex (.cons (Sane.sub _) (.cons (Sane.sub _) .nil)) hk hn h
  exact ⟨(by have q : (0 : Int) ≤ j0 - _ := c0; omega), (by have q : (0 : Int) ≤ j1 - _ := c1; omega)⟩
def mkDone (k : Int) : DoneV := ⟨k, k + 1, mkS (k + 1 + 1), mkS (k + 1 + 1 + 1), k + 1 + 1 + 1 + 1⟩
def x_l_szDone : FnX := ⟨20, [.tmp 4],
  .seq (.reg [⟨none, some 2, 2, .box (.t 0)⟩,
   ⟨none, some 4, 4, .mv (.k (.one (.pv (.int .i64 0))))⟩])
 (.seq (.reg [⟨none, some 5, 5, .mv (.t 1)⟩,
   ⟨none, some 6, 6, .faddr (.t 2) 2⟩,
   ⟨none, some 7, 7, .load none (.t 6)⟩,
   ⟨none, some 8, 8, .slen (.t 7)⟩,
   ⟨none, some 9, 9, .bin .sub (.t 5) (.t 8)⟩,
   ⟨none, some 1, 1, .mv (.t 9)⟩])
 (.seq (.seq (.reg [⟨none, some 10, 10, .mv (.t 1)⟩,
   ⟨none, some 11, 11, .bin .lss (.t 10) (.k (.one (.pv (.int .i64 0))))⟩])
 (.cond 11 (.seq (.reg [⟨none, some 4, 4, .mv (.k (.one (.pv (.int .i64 (-1)))))⟩])
 (.ret)) (.skip)))
 (.seq (.reg [⟨none, some 12, 12, .mv (.t 1)⟩,
   ⟨none, some 13, 13, .faddr (.t 2) 3⟩,
   ⟨none, some 14, 14, .load none (.t 13)⟩,
   ⟨none, some 15, 15, .slen (.t 14)⟩,
   ⟨none, some 16, 16, .bin .sub (.t 12) (.t 15)⟩,
   ⟨none, some 1, 1, .mv (.t 16)⟩])
 (.seq (.seq (.reg [⟨none, some 17, 17, .mv (.t 1)⟩,
   ⟨none, some 18, 18, .bin .lss (.t 17) (.k (.one (.pv (.int .i64 0))))⟩])
 (.cond 18 (.seq (.reg [⟨none, some 4, 4, .mv (.k (.one (.pv (.int .i64 (-1)))))⟩])
 (.ret)) (.skip)))
 (.seq (.reg [⟨none, some 19, 19, .mv (.t 1)⟩,
   ⟨none, some 4, 4, .mv (.t 19)⟩])
 (.ret))))))⟩
abbrev C_l_szDone (Te : Nat → List AV → Res → Prop) : Prop := ∀ (x : DoneV) (k : Int) (hx : x.In (2 ^ 48)) (hk : 0 ≤ k ∧ k ≤ 2 ^ 48), Te 189 [.agg x.row, .one (iT k)] ⟨[.one (iT (szDone x k))], [x.row, [iT k]]⟩
theorem r_l_szDone {Te : Nat → List AV → Res → Prop} : ∀ (x : DoneV) (k : Int) (hx : x.In (2 ^ 48)) (hk : 0 ≤ k ∧ k ≤ 2 ^ 48), RunFn Te x_l_szDone [.agg x.row, .one (iT k)] ⟨[.one (iT (szDone x k))], [x.row, [iT k]]⟩ := by
  intro x k hx hk
  refine ⟨by simp -implicitDefEqProofs only [x_l_szDone, go_sem], ?_⟩
  obtain ⟨h0, h1⟩ := hx
  simp -implicitDefEqProofs (disch := omega) only [x_l_szDone, go_sem, IntWalk.i64_in]
  refine ⟨fun q0 => ?_, fun q0 => ?_⟩
  · simp only [decide_eq_true_eq] at q0
    simp only [szDone, szAll, if_pos q0]
  · simp only [decide_eq_false_iff_not] at q0
    have k1 : 0 ≤ (k - (x.Key.size : Nat)) ∧ (k - (x.Key.size : Nat)) ≤ 2 ^ 48 := ⟨by omega, Int.le_trans (Sane.sub _ _ hk.1) hk.2⟩
    try simp -implicitDefEqProofs (disch := omega) only [go_sem, IntWalk.i64_in]
    refine ⟨fun q1 => ?_, fun q1 => ?_⟩
    · simp only [decide_eq_true_eq] at q1
      simp only [szDone, szAll, if_neg q0, if_pos q1]
    · simp only [decide_eq_false_iff_not] at q1
      have k2 : 0 ≤ ((k - (x.Key.size : Nat)) - (x.Text.size : Nat)) ∧ ((k - (x.Key.size : Nat)) - (x.Text.size : Nat)) ≤ 2 ^ 48 := ⟨by omega, Int.le_trans (Sane.sub _ _ k1.1) k1.2⟩
      simp only [szDone, szAll, if_neg q0, if_neg q1]
def x_l_toDone_3 : XCode := .seq (.reg [⟨none, some 16, 16, .faddr (.t 1) 4⟩,
   ⟨none, some 17, 17, .load none (.t 16)⟩,
   ⟨none, some 18, 18, .faddr (.t 3) 4⟩,
   ⟨none, none, 100005, .store 1 (.t 18) (.t 17)⟩])
 (.seq (.reg [⟨none, some 19, 19, .load (some 5) (.t 3)⟩,
   ⟨none, none, 100006, .store 5 (.t 2) (.t 19)⟩])
 (.ret))
def x_l_toDone_2 : XCode := .seq (.reg [⟨none, some 10, 10, .faddr (.t 1) 2⟩,
   ⟨none, some 11, 11, .load none (.t 10)⟩,
   ⟨none, some 12, 12, .faddr (.t 3) 2⟩,
   ⟨none, none, 100003, .store 1 (.t 12) (.t 11)⟩])
 (.seq (.reg [⟨none, some 13, 13, .faddr (.t 1) 3⟩,
   ⟨none, some 14, 14, .load none (.t 13)⟩,
   ⟨none, some 15, 15, .faddr (.t 3) 3⟩,
   ⟨none, none, 100004, .store 1 (.t 15) (.t 14)⟩])
 (x_l_toDone_3))
def x_l_toDone_1 : XCode := .seq (.reg [⟨none, some 4, 4, .faddr (.t 1) 0⟩,
   ⟨none, some 5, 5, .load none (.t 4)⟩,
   ⟨none, some 6, 6, .faddr (.t 3) 0⟩,
   ⟨none, none, 100001, .store 1 (.t 6) (.t 5)⟩])
 (.seq (.reg [⟨none, some 7, 7, .faddr (.t 1) 1⟩,
   ⟨none, some 8, 8, .load none (.t 7)⟩,
   ⟨none, some 9, 9, .faddr (.t 3) 1⟩,
   ⟨none, none, 100002, .store 1 (.t 9) (.t 8)⟩])
 (x_l_toDone_2))
def x_l_toDone : FnX := ⟨20, [.cell 2 (some 5)],
  .seq (.reg [⟨none, some 1, 1, .box (.t 0)⟩,
   ⟨none, some 2, 2, .alloc [.pv (.int .i64 0), .pv (.int .i64 0), .pv (.string ⟨#[]⟩), .pv (.string ⟨#[]⟩), .pv (.int .i64 0)]⟩])
 (.seq (.reg [⟨none, some 3, 3, .alloc [.pv (.int .i64 0), .pv (.int .i64 0), .pv (.string ⟨#[]⟩), .pv (.string ⟨#[]⟩), .pv (.int .i64 0)]⟩])
 (x_l_toDone_1))⟩
abbrev C_l_toDone (Te : Nat → List AV → Res → Prop) : Prop := ∀ (x : DoneV), Te 192 [.agg x.row] ⟨[.agg x.row], [x.row]⟩
theorem r_l_toDone {Te : Nat → List AV → Res → Prop} : ∀ (x : DoneV), RunFn Te x_l_toDone [.agg x.row] ⟨[.agg x.row], [x.row]⟩ := by
  intro x
  refine ⟨by simp -implicitDefEqProofs only [x_l_toDone, go_sem], ?_⟩
  simp -implicitDefEqProofs only [x_l_toDone, go_sem]
  simp -implicitDefEqProofs only [x_l_toDone_1, go_sem]
  simp -implicitDefEqProofs only [x_l_toDone_2, go_sem]
  simp -implicitDefEqProofs only [x_l_toDone_3, go_sem]
def x_l_eqDone : FnX := ⟨30, [.tmp 4],
  .seq (.reg [⟨none, some 2, 2, .box (.t 0)⟩,
   ⟨none, some 3, 3, .box (.t 1)⟩,
   ⟨none, some 4, 4, .mv (.k (.one (.pv (.bool false))))⟩])
 (.seq (.seq (.reg [⟨none, some 5, 5, .faddr (.t 2) 0⟩,
   ⟨none, some 6, 6, .load none (.t 5)⟩,
   ⟨none, some 7, 7, .faddr (.t 3) 0⟩,
   ⟨none, some 8, 8, .load none (.t 7)⟩,
   ⟨none, some 9, 9, .bin .neq (.t 6) (.t 8)⟩])
 (.cond 9 (.seq (.reg [⟨none, some 4, 4, .mv (.k (.one (.pv (.bool false))))⟩])
 (.ret)) (.skip)))
 (.seq (.seq (.reg [⟨none, some 10, 10, .faddr (.t 2) 1⟩,
   ⟨none, some 11, 11, .load none (.t 10)⟩,
   ⟨none, some 12, 12, .faddr (.t 3) 1⟩,
   ⟨none, some 13, 13, .load none (.t 12)⟩,
   ⟨none, some 14, 14, .bin .neq (.t 11) (.t 13)⟩])
 (.cond 14 (.seq (.reg [⟨none, some 4, 4, .mv (.k (.one (.pv (.bool false))))⟩])
 (.ret)) (.skip)))
 (.seq (.seq (.reg [⟨none, some 15, 15, .faddr (.t 2) 2⟩,
   ⟨none, some 16, 16, .load none (.t 15)⟩,
   ⟨none, some 17, 17, .faddr (.t 3) 2⟩,
   ⟨none, some 18, 18, .load none (.t 17)⟩,
   ⟨none, some 19, 19, .bin .neq (.t 16) (.t 18)⟩])
 (.cond 19 (.seq (.reg [⟨none, some 4, 4, .mv (.k (.one (.pv (.bool false))))⟩])
 (.ret)) (.skip)))
 (.seq (.seq (.reg [⟨none, some 20, 20, .faddr (.t 2) 3⟩,
   ⟨none, some 21, 21, .load none (.t 20)⟩,
   ⟨none, some 22, 22, .faddr (.t 3) 3⟩,
   ⟨none, some 23, 23, .load none (.t 22)⟩,
   ⟨none, some 24, 24, .bin .neq (.t 21) (.t 23)⟩])
 (.cond 24 (.seq (.reg [⟨none, some 4, 4, .mv (.k (.one (.pv (.bool false))))⟩])
 (.ret)) (.skip)))
 (.seq (.seq (.reg [⟨none, some 25, 25, .faddr (.t 2) 4⟩,
   ⟨none, some 26, 26, .load none (.t 25)⟩,
   ⟨none, some 27, 27, .faddr (.t 3) 4⟩,
   ⟨none, some 28, 28, .load none (.t 27)⟩,
   ⟨none, some 29, 29, .bin .neq (.t 26) (.t 28)⟩])
 (.cond 29 (.seq (.reg [⟨none, some 4, 4, .mv (.k (.one (.pv (.bool false))))⟩])
 (.ret)) (.skip)))
 (.seq (.reg [⟨none, some 4, 4, .mv (.k (.one (.pv (.bool true))))⟩])
 (.ret)))))))⟩
abbrev C_l_eqDone (Te : Nat → List AV → Res → Prop) : Prop := ∀ (x y : DoneV), Te 194 [.agg x.row, .agg y.row] ⟨[.one (bT (decide (x = y)))], [x.row, y.row]⟩
theorem r_l_eqDone {Te : Nat → List AV → Res → Prop} : ∀ (x y : DoneV), RunFn Te x_l_eqDone [.agg x.row, .agg y.row] ⟨[.one (bT (decide (x = y)))], [x.row, y.row]⟩ := by
  intro x y
  refine ⟨by simp -implicitDefEqProofs only [x_l_eqDone, go_sem], ?_⟩
  have key : (x = y) ↔ x.Seq = y.Seq ∧ x.Kind = y.Kind ∧ x.Key = y.Key ∧ x.Text = y.Text ∧ x.Code = y.Code := by cases x; cases y; simp
  simp only [key]
  clear key
  simp -implicitDefEqProofs only [x_l_eqDone, go_sem]
  refine ⟨fun q => ?_, fun q => ?_⟩
  · have n0 : ¬ (x.Seq = y.Seq) := by simpa using q
    simp only [n0, false_and, and_false, true_and, decide_false]
  have e0 : x.Seq = y.Seq := by simpa using q
  clear q
  refine ⟨fun q => ?_, fun q => ?_⟩
  · have n1 : ¬ (x.Kind = y.Kind) := by simpa using q
    simp only [e0, n1, false_and, and_false, true_and, decide_false]
  have e1 : x.Kind = y.Kind := by simpa using q
  clear q
  refine ⟨fun q => ?_, fun q => ?_⟩
  · have n2 : ¬ (x.Key = y.Key) := by simpa using q
    simp only [e0, e1, n2, false_and, and_false, true_and, decide_false]
  have e2 : x.Key = y.Key := by simpa using q
  clear q
  refine ⟨fun q => ?_, fun q => ?_⟩
  · have n3 : ¬ (x.Text = y.Text) := by simpa using q
    simp only [e0, e1, e2, n3, false_and, and_false, true_and, decide_false]
  have e3 : x.Text = y.Text := by simpa using q
  clear q
  refine ⟨fun q => ?_, fun q => ?_⟩
  · have n4 : ¬ (x.Code = y.Code) := by simpa using q
    simp only [e0, e1, e2, e3, n4, false_and, and_false, true_and, decide_false]
  have e4 : x.Code = y.Code := by simpa using q
  clear q
  simp only [e0, e1, e2, e3, e4, true_and, and_true, decide_true]
def x_l_szDoneS : FnX := ⟨27, [.tmp 4],
  .seq (.reg [⟨none, some 4, 4, .mv (.k (.one (.pv (.int .i64 0))))⟩])
 (.seq (.reg [⟨none, some 6, 6, .mv (.t 1)⟩,
   ⟨none, some 7, 7, .mv (.t 0)⟩,
   ⟨none, some 8, 8, .len (.t 7)⟩,
   ⟨none, some 9, 9, .bin .sub (.t 6) (.t 8)⟩,
   ⟨none, some 1, 1, .mv (.t 9)⟩])
 (.seq (.seq (.reg [⟨none, some 10, 10, .mv (.t 1)⟩,
   ⟨none, some 11, 11, .bin .lss (.t 10) (.k (.one (.pv (.int .i64 0))))⟩])
 (.cond 11 (.seq (.reg [⟨none, some 4, 4, .mv (.k (.one (.pv (.int .i64 (-1)))))⟩])
 (.ret)) (.skip)))
 (.seq (.seq (.reg [⟨none, some 5, 5, .mv (.k (.one (.pv (.int .i64 0))))⟩])
 (.block 0 (.loop [0, 1, 5] (.seq (.seq (.reg [⟨none, some 12, 12, .mv (.t 5)⟩,
   ⟨none, some 13, 13, .mv (.t 0)⟩,
   ⟨none, some 14, 14, .len (.t 13)⟩,
   ⟨none, some 15, 15, .bin .lss (.t 12) (.t 14)⟩])
 (.cond 15 (.skip) (.exit 0)))
 (.seq (.block 1 (.seq (.reg [⟨none, some 18, 18, .mv (.t 0)⟩,
   ⟨none, some 19, 19, .mv (.t 5)⟩,
   ⟨none, some 20, 20, .iaddr 5 (.t 18) (.t 19)⟩,
   ⟨none, some 21, 21, .load (some 5) (.t 20)⟩,
   ⟨none, some 22, 22, .mv (.t 1)⟩,
   ⟨none, some 23, 23, .call 189 [0, 0] [(.t 21), (.t 22)]⟩,
   ⟨none, some 1, 1, .mv (.t 23)⟩])
 (.seq (.reg [⟨none, some 24, 24, .mv (.t 1)⟩,
   ⟨none, some 25, 25, .bin .lss (.t 24) (.k (.one (.pv (.int .i64 0))))⟩])
 (.cond 25 (.seq (.reg [⟨none, some 4, 4, .mv (.k (.one (.pv (.int .i64 (-1)))))⟩])
 (.ret)) (.skip)))))
 (.reg [⟨none, some 16, 16, .mv (.t 5)⟩,
   ⟨none, some 17, 17, .bin .add (.t 16) (.k (.one (.pv (.int .i64 1))))⟩,
   ⟨none, some 5, 5, .mv (.t 17)⟩]))))))
 (.norm [1] (.seq (.reg [⟨none, some 26, 26, .mv (.t 1)⟩,
   ⟨none, some 4, 4, .mv (.t 26)⟩])
 (.ret))))))⟩
abbrev C_l_szDoneS (Te : Nat → List AV → Res → Prop) : Prop := ∀ (l : List DoneV) (k : Int) (hk : 0 ≤ k ∧ k ≤ 2 ^ 48) (hl : l.length ≤ 2 ^ 48) (hs : ∀ y ∈ l, y.In (2 ^ 48)), Te 144 [.one (slT false 5 DoneV.row l), .one (iT k)] ⟨[.one (iT (szSl szDone l k))], [[slT false 5 DoneV.row l], [iT k]]⟩
theorem r_l_szDoneS {Te : Nat → List AV → Res → Prop} (c_l_szDone : C_l_szDone Te) : ∀ (l : List DoneV) (k : Int) (hk : 0 ≤ k ∧ k ≤ 2 ^ 48) (hl : l.length ≤ 2 ^ 48) (hs : ∀ y ∈ l, y.In (2 ^ 48)), RunFn Te x_l_szDoneS [.one (slT false 5 DoneV.row l), .one (iT k)] ⟨[.one (iT (szSl szDone l k))], [[slT false 5 DoneV.row l], [iT k]]⟩ := by
  intro l k hk hl hs
  refine ⟨by simp -implicitDefEqProofs only [x_l_szDoneS, go_sem], ?_⟩
  simp -implicitDefEqProofs (disch := omega) only [x_l_szDoneS, go_sem, IntWalk.i64_in]
  refine ⟨fun h => ?_, fun h => ?_⟩
  · simp only [decide_eq_true_eq] at h
    simp only [szSl, szAll, if_pos h]
  · simp only [decide_eq_false_iff_not] at h
    refine loop_of (σ := Nat × Int) (fun x => ⟨[(0, .one (.ro 5 (l.map DoneV.row))), (1, .one (.pv (.int .i64 x.2))), (5, .one (.pv (.int .i64 x.1)))], [], [(0, [slT false 5 DoneV.row l]), (1, [iT k])]⟩) (fun x => x.1 ≤ l.length ∧ 0 ≤ x.2 ∧ x.2 ≤ k ∧ szSl szDone l k = szAll ((l.drop x.1).map szDone) x.2) (fun x => l.length - x.1) (0, k - l.length) ?_ ⟨Nat.zero_le _, by omega, by omega, by simp only [szSl, szAll, if_neg h, List.drop_zero]⟩ ?_
    · simp -implicitDefEqProofs only [go_sem]; rfl
    · rintro ⟨i, c⟩ ⟨hi, h0, h1, he⟩
      simp only at hi h0 h1 he
      simp -implicitDefEqProofs only [go_sem]
      refine ⟨fun h => ?_, fun h => ?_⟩
      · have hi' : i < l.length := by simp only [decide_eq_true_eq] at h; omega
        have hsz := hs l[i] (List.getElem_mem hi')
        rw [List.drop_eq_getElem_cons hi'] at he
        simp -implicitDefEqProofs (disch := omega) only [go_sem, List.getElem?_eq_getElem hi', IntWalk.i64_in]
        refine .of (c_l_szDone _ _ hsz ⟨h0, by omega⟩) ?_
        simp -implicitDefEqProofs only [go_sem]
        refine ⟨fun h2 => ?_, fun h2 => ?_⟩
        · simp only [decide_eq_true_eq] at h2
          rw [he]
          simp only [List.map_cons, szAll, if_pos h2]
        · simp only [decide_eq_false_iff_not] at h2
          refine ⟨(i + 1, szDone l[i] c), by rw [IntWalk.i64_in _ (by omega)]; rfl, ⟨hi', by omega, Int.le_trans (szDone_sane _ _ h0) h1, ?_⟩, by simp only; omega⟩
          rw [he]
          simp only [List.map_cons, szAll, if_neg h2]
      · have hle : l.length ≤ i := by simp only [decide_eq_false_iff_not] at h; omega
        rw [List.drop_of_length_le hle] at he
        simp only [szAll, List.map_nil] at he
        rw [he]
def x_l_toDoneS : FnX := ⟨23, [.tmp 2],
  .seq (.reg [⟨none, some 2, 2, .mv (.k (.one (.nils 5)))⟩])
 (.seq (.reg [⟨none, some 5, 5, .mv (.t 0)⟩,
   ⟨none, some 6, 6, .len (.t 5)⟩,
   ⟨none, some 7, 7, .mks 5 56 [.pv (.int .i64 0), .pv (.int .i64 0), .pv (.string ⟨#[]⟩), .pv (.string ⟨#[]⟩), .pv (.int .i64 0)] (.t 6)⟩,
   ⟨none, some 3, 3, .mv (.t 7)⟩])
 (.seq (.seq (.reg [⟨none, some 4, 4, .mv (.k (.one (.pv (.int .i64 0))))⟩])
 (.block 0 (.loop [0, 3, 4] (.seq (.seq (.reg [⟨none, some 8, 8, .mv (.t 4)⟩,
   ⟨none, some 9, 9, .mv (.t 0)⟩,
   ⟨none, some 10, 10, .len (.t 9)⟩,
   ⟨none, some 11, 11, .bin .lss (.t 8) (.t 10)⟩])
 (.cond 11 (.skip) (.exit 0)))
 (.seq (.block 1 (.reg [⟨none, some 14, 14, .mv (.t 3)⟩,
   ⟨none, some 15, 15, .mv (.t 4)⟩,
   ⟨none, some 16, 16, .mv (.t 0)⟩,
   ⟨none, some 17, 17, .mv (.t 4)⟩,
   ⟨none, some 18, 18, .iaddr 5 (.t 16) (.t 17)⟩,
   ⟨none, some 19, 19, .load (some 5) (.t 18)⟩,
   ⟨none, some 20, 20, .call 192 [0] [(.t 19)]⟩,
   ⟨none, some 21, 21, .iaddr 5 (.t 14) (.t 15)⟩,
   ⟨none, none, 100001, .store 5 (.t 21) (.t 20)⟩]))
 (.reg [⟨none, some 12, 12, .mv (.t 4)⟩,
   ⟨none, some 13, 13, .bin .add (.t 12) (.k (.one (.pv (.int .i64 1))))⟩,
   ⟨none, some 4, 4, .mv (.t 13)⟩]))))))
 (.norm [3] (.seq (.reg [⟨none, some 22, 22, .mv (.t 3)⟩,
   ⟨none, some 2, 2, .mv (.t 22)⟩])
 (.ret)))))⟩
abbrev C_l_toDoneS (Te : Nat → List AV → Res → Prop) : Prop := ∀ (l : List DoneV) (hl : l.length ≤ 2 ^ 31), Te 149 [.one (slT false 5 DoneV.row l)] ⟨[.one (slT true 5 DoneV.row l)], [[slT false 5 DoneV.row l]]⟩
theorem r_l_toDoneS {Te : Nat → List AV → Res → Prop} (c_l_toDone : C_l_toDone Te) : ∀ (l : List DoneV) (hl : l.length ≤ 2 ^ 31), RunFn Te x_l_toDoneS [.one (slT false 5 DoneV.row l)] ⟨[.one (slT true 5 DoneV.row l)], [[slT false 5 DoneV.row l]]⟩ := by
  intro l hl
  refine ⟨by simp -implicitDefEqProofs only [x_l_toDoneS, go_sem], ?_⟩
  simp -implicitDefEqProofs (disch := omega) only [x_l_toDoneS, go_sem, IntWalk.i64_in]
  refine ⟨⟨by simp only [decide_eq_true_eq]; omega, by simp only [decide_eq_true_eq]; omega⟩, ?_⟩
  refine loop_of (σ := Nat) (fun i => ⟨[(0, .one (.ro 5 (l.map DoneV.row))), (3, .one (.rf 24 0 [] 5 0 l.length)), (4, .one (.pv (.int .i64 i)))], [],
    [(0, [slT false 5 DoneV.row l]), (24, [.sl true 5 () ((l.take i).map DoneV.row ++ List.replicate (l.length - i) [.pv (.int .i64 0), .pv (.int .i64 0), .pv (.string ⟨#[]⟩), .pv (.string ⟨#[]⟩), .pv (.int .i64 0)])])]⟩) (fun i => i ≤ l.length) (fun i => l.length - i) 0 ?_ (Nat.zero_le _) ?_
  · simp -implicitDefEqProofs only [go_sem]; rfl
  · intro i hi
    simp -implicitDefEqProofs only [go_sem]
    refine ⟨fun h => ?_, fun h => ?_⟩
    · have hi' : i < l.length := by simp only [decide_eq_true_eq] at h; omega
      simp -implicitDefEqProofs only [go_sem, List.getElem?_eq_getElem hi', fill_len DoneV.row l [.pv (.int .i64 0), .pv (.int .i64 0), .pv (.string ⟨#[]⟩), .pv (.string ⟨#[]⟩), .pv (.int .i64 0)] hi, storeAp, setCells, List.getD_eq_getElem?_getD, fill_get DoneV.row l [.pv (.int .i64 0), .pv (.int .i64 0), .pv (.string ⟨#[]⟩), .pv (.string ⟨#[]⟩), .pv (.int .i64 0)] hi']
      refine .of (c_l_toDone _) ?_
      simp -implicitDefEqProofs only [go_sem, fill_len DoneV.row l [.pv (.int .i64 0), .pv (.int .i64 0), .pv (.string ⟨#[]⟩), .pv (.string ⟨#[]⟩), .pv (.int .i64 0)] hi, storeAp, setCells, List.getD_eq_getElem?_getD, fill_get DoneV.row l [.pv (.int .i64 0), .pv (.int .i64 0), .pv (.string ⟨#[]⟩), .pv (.string ⟨#[]⟩), .pv (.int .i64 0)] hi']
      repeat (first | refine ⟨by decide, ?_⟩ | refine ⟨by simpa using hi', ?_⟩)
      refine ⟨i + 1, ?_, hi', by omega⟩
      rw [← fill_set DoneV.row l [.pv (.int .i64 0), .pv (.int .i64 0), .pv (.string ⟨#[]⟩), .pv (.string ⟨#[]⟩), .pv (.int .i64 0)] hi', IntWalk.i64_in _ (by omega)]
      rfl
    · have : i = l.length := by simp only [decide_eq_false_iff_not] at h; omega
      subst this
      simp -implicitDefEqProofs only [go_sem, fill_len DoneV.row l [.pv (.int .i64 0), .pv (.int .i64 0), .pv (.string ⟨#[]⟩), .pv (.string ⟨#[]⟩), .pv (.int .i64 0)] hi, fill_end]
      refine ⟨by simp, ?_⟩
      simp [take_map]
def x_l_eqDoneS : FnX := ⟨27, [.tmp 4],
  .seq (.reg [⟨none, some 4, 4, .mv (.k (.one (.pv (.bool false))))⟩])
 (.seq (.seq (.reg [⟨none, some 6, 6, .mv (.t 0)⟩,
   ⟨none, some 7, 7, .len (.t 6)⟩,
   ⟨none, some 8, 8, .mv (.t 1)⟩,
   ⟨none, some 9, 9, .len (.t 8)⟩,
   ⟨none, some 10, 10, .bin .neq (.t 7) (.t 9)⟩])
 (.cond 10 (.seq (.reg [⟨none, some 4, 4, .mv (.k (.one (.pv (.bool false))))⟩])
 (.ret)) (.skip)))
 (.seq (.seq (.reg [⟨none, some 5, 5, .mv (.k (.one (.pv (.int .i64 0))))⟩])
 (.block 0 (.loop [0, 1, 5] (.seq (.seq (.reg [⟨none, some 11, 11, .mv (.t 5)⟩,
   ⟨none, some 12, 12, .mv (.t 0)⟩,
   ⟨none, some 13, 13, .len (.t 12)⟩,
   ⟨none, some 14, 14, .bin .lss (.t 11) (.t 13)⟩])
 (.cond 14 (.skip) (.exit 0)))
 (.seq (.block 1 (.seq (.draw [⟨none, some 17, 17, .mv (.t 0)⟩,
   ⟨none, some 18, 18, .mv (.t 5)⟩,
   ⟨none, some 19, 19, .iaddr 5 (.t 17) (.t 18)⟩,
   ⟨none, some 20, 20, .load (some 5) (.t 19)⟩,
   ⟨none, some 21, 21, .mv (.t 1)⟩,
   ⟨none, some 22, 22, .mv (.t 5)⟩,
   ⟨none, some 23, 23, .iaddr 5 (.t 21) (.t 22)⟩,
   ⟨none, some 24, 24, .load (some 5) (.t 23)⟩,
   ⟨none, some 25, 25, .call 194 [0, 0] [(.t 20), (.t 24)]⟩,
   ⟨none, some 26, 26, .not (.t 25)⟩] [[], [], [0, 1], [2], [], [], [4, 5], [6], [3, 7], [8]])
 (.cond 26 (.seq (.reg [⟨none, some 4, 4, .mv (.k (.one (.pv (.bool false))))⟩])
 (.ret)) (.skip))))
 (.reg [⟨none, some 15, 15, .mv (.t 5)⟩,
   ⟨none, some 16, 16, .bin .add (.t 15) (.k (.one (.pv (.int .i64 1))))⟩,
   ⟨none, some 5, 5, .mv (.t 16)⟩]))))))
 (.norm [] (.seq (.reg [⟨none, some 4, 4, .mv (.k (.one (.pv (.bool true))))⟩])
 (.ret)))))⟩
abbrev C_l_eqDoneS (Te : Nat → List AV → Res → Prop) : Prop := ∀ (l m : List DoneV) (hl : l.length ≤ 2 ^ 31), Te 152 [.one (slT false 5 DoneV.row l), .one (slT false 5 DoneV.row m)] ⟨[.one (bT (decide (l = m)))], [[slT false 5 DoneV.row l], [slT false 5 DoneV.row m]]⟩
theorem r_l_eqDoneS {Te : Nat → List AV → Res → Prop} (c_l_eqDone : C_l_eqDone Te) : ∀ (l m : List DoneV) (hl : l.length ≤ 2 ^ 31), RunFn Te x_l_eqDoneS [.one (slT false 5 DoneV.row l), .one (slT false 5 DoneV.row m)] ⟨[.one (bT (decide (l = m)))], [[slT false 5 DoneV.row l], [slT false 5 DoneV.row m]]⟩ := by
  intro l m hl
  refine ⟨by simp -implicitDefEqProofs only [x_l_eqDoneS, go_sem], ?_⟩
  simp -implicitDefEqProofs (disch := omega) only [x_l_eqDoneS, go_sem, IntWalk.i64_in]
  refine ⟨fun h => ?_, fun h => ?_⟩
  · have : l ≠ m := fun e => by simp [e] at h
    simp [this]
  · have hlen : l.length = m.length := by simp at h; omega
    refine loop_of (σ := Nat) (fun i => ⟨[(0, .one (.ro 5 (l.map DoneV.row))), (1, .one (.ro 5 (m.map DoneV.row))), (5, .one (.pv (.int .i64 i)))], [], [(0, [slT false 5 DoneV.row l]), (1, [slT false 5 DoneV.row m])]⟩) (fun i => i ≤ l.length ∧ l.take i = m.take i) (fun i => l.length - i) 0 ?_ ⟨Nat.zero_le _, by simp⟩ ?_
    · simp -implicitDefEqProofs only [go_sem]; rfl
    · intro i ⟨hi, hs⟩
      simp -implicitDefEqProofs only [go_sem]
      refine ⟨fun h => ?_, fun h => ?_⟩
      · have hi' : i < l.length := by simp only [decide_eq_true_eq] at h; omega
        have hj' : i < m.length := by omega
        simp -implicitDefEqProofs only [go_sem, List.getElem?_eq_getElem hi', List.getElem?_eq_getElem hj']
        refine .of (c_l_eqDone _ _) ?_
        simp -implicitDefEqProofs only [go_sem]
        refine ⟨by decide, fun h2 => ?_, fun h2 => ?_⟩
        · have : l ≠ m := fun e => by subst e; simp at h2
          simp [this]
        · refine ⟨i + 1, by rw [IntWalk.i64_in _ (by omega)]; rfl, ⟨hi', same_step hi' hj' hs ?_⟩, by omega⟩
          simpa using h2
      · have hle : l.length ≤ i := by simp only [decide_eq_false_iff_not] at h; omega
        have : l = m := same_end hle (by omega) hs
        simp [this]
structure ClientV where
  Id : Int
  Seq : Int
  Busy : Bool
  M : Msg
  Dones : List DoneV
  deriving DecidableEq
abbrev ClientV.enc (o : Bool) (x : ClientV) : List Go.X.T := [iT x.Id, iT x.Seq, bT x.Busy, iT x.M.Kind, iT x.M.From, iT x.M.To, iT x.M.Seq, sT x.M.Key, sT x.M.Text, iT x.M.N, iT x.M.Code, slT o 5 DoneV.row x.Dones]
def ClientV.In (n : Nat) (x : ClientV) : Prop := x.M.In (n) ∧ (x.Dones.length ≤ n ∧ ∀ y ∈ x.Dones, y.In (n))
theorem ClientV.In.mono {x : ClientV} {n m : Nat} (h : x.In n) (hn : n ≤ m) : x.In m := by
  simp only [ClientV.In] at h ⊢
  exact ⟨h.1.mono hn, ⟨Nat.le_trans h.2.1 hn, fun y hy => (h.2.2 y hy).mono hn⟩⟩
def szClient (x : ClientV) (k : Int) : Int := szAll [(szMsg x.M), (szSl szDone x.Dones)] k
theorem szClient_sane (x : ClientV) : Sane (szClient x) := Sane.all (.cons (szMsg_sane _) (.cons (Sane.sl szDone_sane _) .nil))
theorem szClient_in {x : ClientV} {k : Int} {n : Nat} (hk : 0 ≤ k) (hn : k ≤ n) (h : 0 ≤ szClient x k) : x.In n := by
  obtain ⟨⟨j0, a0, b0, c0⟩, ⟨j1, a1, b1, c1⟩, _⟩ := szAll_ex (.cons (szMsg_sane _) (.cons (Sane.sl szDone_sane _) .nil)) hk hn h
  exact ⟨(szMsg_in a0 b0 c0), (szSl_in szDone_sane (fun a j h0 hn h => szDone_in h0 hn h) a1 b1 c1)⟩
def ClientV.Len (x : ClientV) : Prop := x.Dones.length ≤ 2 ^ 31
theorem ClientV.In.len {x : ClientV} {n : Nat} (h : x.In n) (hn : n ≤ 2 ^ 31) : x.Len := by
  obtain ⟨h0, h1⟩ := h
  exact Nat.le_trans h1.1 hn
def ClientV.mark (x : ClientV) (k : Int) : ClientV := ⟨x.Id, x.Seq, x.Busy, x.M, marks 5 mkDone x.Dones.length (k)⟩
def ClientV.far (x : ClientV) (k : Int) : Int := k + (5 * x.Dones.length : Nat)
theorem ClientV.mark_Dones (x : ClientV) (k : Int) : (x.mark k).Dones.length = x.Dones.length := by simp [ClientV.mark, marks_length, markL_length]
theorem ClientV.take_Dones {β : Type} (f : DoneV → β) (x : ClientV) (k : Int) : ((x.mark k).Dones.map f).take x.Dones.length = (x.mark k).Dones.map f := by rw [← x.mark_Dones k, take_map]
def x_l_szClient : FnX := ⟨18, [.tmp 4],
  .seq (.reg [⟨none, some 2, 2, .box (.t 0)⟩,
   ⟨none, some 4, 4, .mv (.k (.one (.pv (.int .i64 0))))⟩])
 (.seq (.reg [⟨none, some 5, 5, .faddr (.t 2) 3⟩,
   ⟨none, some 6, 6, .load (some 8) (.t 5)⟩,
   ⟨none, some 7, 7, .mv (.t 1)⟩,
   ⟨none, some 8, 8, .call 86 [0, 0] [(.t 6), (.t 7)]⟩,
   ⟨none, some 1, 1, .mv (.t 8)⟩])
 (.seq (.seq (.reg [⟨none, some 9, 9, .mv (.t 1)⟩,
   ⟨none, some 10, 10, .bin .lss (.t 9) (.k (.one (.pv (.int .i64 0))))⟩])
 (.cond 10 (.seq (.reg [⟨none, some 4, 4, .mv (.k (.one (.pv (.int .i64 (-1)))))⟩])
 (.ret)) (.skip)))
 (.seq (.reg [⟨none, some 11, 11, .faddr (.t 2) 11⟩,
   ⟨none, some 12, 12, .load none (.t 11)⟩,
   ⟨none, some 13, 13, .mv (.t 1)⟩,
   ⟨none, some 14, 14, .call 144 [0, 0] [(.t 12), (.t 13)]⟩,
   ⟨none, some 1, 1, .mv (.t 14)⟩])
 (.seq (.seq (.reg [⟨none, some 15, 15, .mv (.t 1)⟩,
   ⟨none, some 16, 16, .bin .lss (.t 15) (.k (.one (.pv (.int .i64 0))))⟩])
 (.cond 16 (.seq (.reg [⟨none, some 4, 4, .mv (.k (.one (.pv (.int .i64 (-1)))))⟩])
 (.ret)) (.skip)))
 (.seq (.reg [⟨none, some 17, 17, .mv (.t 1)⟩,
   ⟨none, some 4, 4, .mv (.t 17)⟩])
 (.ret))))))⟩
abbrev C_l_szClient (Te : Nat → List AV → Res → Prop) : Prop := ∀ (x : ClientV) (k : Int) (hx : x.In (2 ^ 48)) (hk : 0 ≤ k ∧ k ≤ 2 ^ 48), Te 85 [.agg (x.enc false), .one (iT k)] ⟨[.one (iT (szClient x k))], [(x.enc false), [iT k]]⟩
theorem r_l_szClient {Te : Nat → List AV → Res → Prop} (c_l_szMsg : C_l_szMsg Te) (c_l_szDoneS : C_l_szDoneS Te) : ∀ (x : ClientV) (k : Int) (hx : x.In (2 ^ 48)) (hk : 0 ≤ k ∧ k ≤ 2 ^ 48), RunFn Te x_l_szClient [.agg (x.enc false), .one (iT k)] ⟨[.one (iT (szClient x k))], [(x.enc false), [iT k]]⟩ := by
  intro x k hx hk
  refine ⟨by simp -implicitDefEqProofs only [x_l_szClient, go_sem], ?_⟩
  obtain ⟨h0, h1⟩ := hx
  simp -implicitDefEqProofs (disch := omega) only [x_l_szClient, go_sem, IntWalk.i64_in]
  refine .of (c_l_szMsg _ _ h0 hk) ?_
  simp -implicitDefEqProofs (disch := omega) only [go_sem, IntWalk.i64_in]
  refine ⟨fun q0 => ?_, fun q0 => ?_⟩
  · simp only [decide_eq_true_eq] at q0
    simp only [szClient, szAll, if_pos q0]
  · simp only [decide_eq_false_iff_not] at q0
    have k1 : 0 ≤ (szMsg x.M k) ∧ (szMsg x.M k) ≤ 2 ^ 48 := ⟨by omega, Int.le_trans ((szMsg_sane _) _ hk.1) hk.2⟩
    refine .of (c_l_szDoneS _ _ k1 h1.1 h1.2) ?_
    simp -implicitDefEqProofs (disch := omega) only [go_sem, IntWalk.i64_in]
    refine ⟨fun q1 => ?_, fun q1 => ?_⟩
    · simp only [decide_eq_true_eq] at q1
      simp only [szClient, szAll, if_neg q0, if_pos q1]
    · simp only [decide_eq_false_iff_not] at q1
      have k2 : 0 ≤ (szSl szDone x.Dones (szMsg x.M k)) ∧ (szSl szDone x.Dones (szMsg x.M k)) ≤ 2 ^ 48 := ⟨by omega, Int.le_trans ((Sane.sl szDone_sane _) _ k1.1) k1.2⟩
      simp only [szClient, szAll, if_neg q0, if_neg q1]
def x_l_toClient : FnX := ⟨22, [.cell 2 (some 12)],
  .seq (.reg [⟨none, some 1, 1, .box (.t 0)⟩,
   ⟨none, some 2, 2, .alloc [.pv (.int .i64 0), .pv (.int .i64 0), .pv (.bool false), .pv (.int .i64 0), .pv (.int .i64 0), .pv (.int .i64 0), .pv (.int .i64 0), .pv (.string ⟨#[]⟩), .pv (.string ⟨#[]⟩), .pv (.int .i64 0), .pv (.int .i64 0), .nils 5]⟩])
 (.seq (.reg [⟨none, some 3, 3, .alloc [.pv (.int .i64 0), .pv (.int .i64 0), .pv (.bool false), .pv (.int .i64 0), .pv (.int .i64 0), .pv (.int .i64 0), .pv (.int .i64 0), .pv (.string ⟨#[]⟩), .pv (.string ⟨#[]⟩), .pv (.int .i64 0), .pv (.int .i64 0), .nils 5]⟩])
 (.seq (.reg [⟨none, some 4, 4, .faddr (.t 1) 0⟩,
   ⟨none, some 5, 5, .load none (.t 4)⟩,
   ⟨none, some 6, 6, .faddr (.t 3) 0⟩,
   ⟨none, none, 100001, .store 1 (.t 6) (.t 5)⟩])
 (.seq (.reg [⟨none, some 7, 7, .faddr (.t 1) 1⟩,
   ⟨none, some 8, 8, .load none (.t 7)⟩,
   ⟨none, some 9, 9, .faddr (.t 3) 1⟩,
   ⟨none, none, 100002, .store 1 (.t 9) (.t 8)⟩])
 (.seq (.reg [⟨none, some 10, 10, .faddr (.t 1) 2⟩,
   ⟨none, some 11, 11, .load none (.t 10)⟩,
   ⟨none, some 12, 12, .faddr (.t 3) 2⟩,
   ⟨none, none, 100003, .store 1 (.t 12) (.t 11)⟩])
 (.seq (.reg [⟨none, some 13, 13, .faddr (.t 1) 3⟩,
   ⟨none, some 14, 14, .load (some 8) (.t 13)⟩,
   ⟨none, some 15, 15, .call 96 [0] [(.t 14)]⟩,
   ⟨none, some 16, 16, .faddr (.t 3) 3⟩,
   ⟨none, none, 100004, .store 8 (.t 16) (.t 15)⟩])
 (.seq (.reg [⟨none, some 17, 17, .faddr (.t 1) 11⟩,
   ⟨none, some 18, 18, .load none (.t 17)⟩,
   ⟨none, some 19, 19, .call 149 [0] [(.t 18)]⟩,
   ⟨none, some 20, 20, .faddr (.t 3) 11⟩,
   ⟨none, none, 100005, .store 1 (.t 20) (.t 19)⟩])
 (.seq (.reg [⟨none, some 21, 21, .load (some 12) (.t 3)⟩,
   ⟨none, none, 100006, .store 12 (.t 2) (.t 21)⟩])
 (.ret))))))))⟩
abbrev C_l_toClient (Te : Nat → List AV → Res → Prop) : Prop := ∀ (x : ClientV) (hx : x.Len), Te 95 [.agg (x.enc false)] ⟨[.agg (x.enc true)], [(x.enc false)]⟩
theorem r_l_toClient {Te : Nat → List AV → Res → Prop} (c_l_toMsg : C_l_toMsg Te) (c_l_toDoneS : C_l_toDoneS Te) : ∀ (x : ClientV) (hx : x.Len), RunFn Te x_l_toClient [.agg (x.enc false)] ⟨[.agg (x.enc true)], [(x.enc false)]⟩ := by
  intro x hx
  refine ⟨by simp -implicitDefEqProofs only [x_l_toClient, go_sem], ?_⟩
  have h0 := hx
  simp -implicitDefEqProofs only [x_l_toClient, go_sem]
  refine .of (c_l_toMsg _) ?_
  simp -implicitDefEqProofs only [go_sem]
  refine .of (c_l_toDoneS _ h0) ?_
  simp -implicitDefEqProofs only [go_sem]
def x_l_eqClient : FnX := ⟨32, [.tmp 4],
  .seq (.reg [⟨none, some 2, 2, .box (.t 0)⟩,
   ⟨none, some 3, 3, .box (.t 1)⟩,
   ⟨none, some 4, 4, .mv (.k (.one (.pv (.bool false))))⟩])
 (.seq (.seq (.reg [⟨none, some 5, 5, .faddr (.t 2) 0⟩,
   ⟨none, some 6, 6, .load none (.t 5)⟩,
   ⟨none, some 7, 7, .faddr (.t 3) 0⟩,
   ⟨none, some 8, 8, .load none (.t 7)⟩,
   ⟨none, some 9, 9, .bin .neq (.t 6) (.t 8)⟩])
 (.cond 9 (.seq (.reg [⟨none, some 4, 4, .mv (.k (.one (.pv (.bool false))))⟩])
 (.ret)) (.skip)))
 (.seq (.seq (.reg [⟨none, some 10, 10, .faddr (.t 2) 1⟩,
   ⟨none, some 11, 11, .load none (.t 10)⟩,
   ⟨none, some 12, 12, .faddr (.t 3) 1⟩,
   ⟨none, some 13, 13, .load none (.t 12)⟩,
   ⟨none, some 14, 14, .bin .neq (.t 11) (.t 13)⟩])
 (.cond 14 (.seq (.reg [⟨none, some 4, 4, .mv (.k (.one (.pv (.bool false))))⟩])
 (.ret)) (.skip)))
 (.seq (.seq (.reg [⟨none, some 15, 15, .faddr (.t 2) 2⟩,
   ⟨none, some 16, 16, .load none (.t 15)⟩,
   ⟨none, some 17, 17, .faddr (.t 3) 2⟩,
   ⟨none, some 18, 18, .load none (.t 17)⟩,
   ⟨none, some 19, 19, .beq true (.t 16) (.t 18)⟩])
 (.cond 19 (.seq (.reg [⟨none, some 4, 4, .mv (.k (.one (.pv (.bool false))))⟩])
 (.ret)) (.skip)))
 (.seq (.seq (.reg [⟨none, some 20, 20, .faddr (.t 2) 3⟩,
   ⟨none, some 21, 21, .load (some 8) (.t 20)⟩,
   ⟨none, some 22, 22, .faddr (.t 3) 3⟩,
   ⟨none, some 23, 23, .load (some 8) (.t 22)⟩,
   ⟨none, some 24, 24, .call 106 [0, 0] [(.t 21), (.t 23)]⟩,
   ⟨none, some 25, 25, .not (.t 24)⟩])
 (.cond 25 (.seq (.reg [⟨none, some 4, 4, .mv (.k (.one (.pv (.bool false))))⟩])
 (.ret)) (.skip)))
 (.seq (.seq (.reg [⟨none, some 26, 26, .faddr (.t 2) 11⟩,
   ⟨none, some 27, 27, .load none (.t 26)⟩,
   ⟨none, some 28, 28, .faddr (.t 3) 11⟩,
   ⟨none, some 29, 29, .load none (.t 28)⟩,
   ⟨none, some 30, 30, .call 152 [0, 0] [(.t 27), (.t 29)]⟩,
   ⟨none, some 31, 31, .not (.t 30)⟩])
 (.cond 31 (.seq (.reg [⟨none, some 4, 4, .mv (.k (.one (.pv (.bool false))))⟩])
 (.ret)) (.skip)))
 (.seq (.reg [⟨none, some 4, 4, .mv (.k (.one (.pv (.bool true))))⟩])
 (.ret)))))))⟩
abbrev C_l_eqClient (Te : Nat → List AV → Res → Prop) : Prop := ∀ (x y : ClientV) (hx : x.Len), Te 105 [.agg (x.enc false), .agg (y.enc false)] ⟨[.one (bT (decide (x = y)))], [(x.enc false), (y.enc false)]⟩
theorem r_l_eqClient {Te : Nat → List AV → Res → Prop} (c_l_eqMsg : C_l_eqMsg Te) (c_l_eqDoneS : C_l_eqDoneS Te) : ∀ (x y : ClientV) (hx : x.Len), RunFn Te x_l_eqClient [.agg (x.enc false), .agg (y.enc false)] ⟨[.one (bT (decide (x = y)))], [(x.enc false), (y.enc false)]⟩ := by
  intro x y hx
  refine ⟨by simp -implicitDefEqProofs only [x_l_eqClient, go_sem], ?_⟩
  have h0 := hx
  have key : (x = y) ↔ x.Id = y.Id ∧ x.Seq = y.Seq ∧ x.Busy = y.Busy ∧ x.M = y.M ∧ x.Dones = y.Dones := by cases x; cases y; simp
  simp only [key]
  clear key
  simp -implicitDefEqProofs only [x_l_eqClient, go_sem]
  refine ⟨fun q => ?_, fun q => ?_⟩
  · have n0 : ¬ (x.Id = y.Id) := by simpa using q
    simp only [n0, false_and, and_false, true_and, decide_false]
  have e0 : x.Id = y.Id := by simpa using q
  clear q
  refine ⟨fun q => ?_, fun q => ?_⟩
  · have n1 : ¬ (x.Seq = y.Seq) := by simpa using q
    simp only [e0, n1, false_and, and_false, true_and, decide_false]
  have e1 : x.Seq = y.Seq := by simpa using q
  clear q
  refine ⟨fun q => ?_, fun q => ?_⟩
  · have n2 : ¬ (x.Busy = y.Busy) := by simpa using q
    simp only [e0, e1, n2, false_and, and_false, true_and, decide_false]
  have e2 : x.Busy = y.Busy := by simpa using q
  clear q
  refine .of (c_l_eqMsg _ _) ?_
  simp -implicitDefEqProofs only [go_sem]
  refine ⟨fun q => ?_, fun q => ?_⟩
  · have n3 : ¬ (x.M = y.M) := by simpa using q
    simp only [e0, e1, e2, n3, false_and, and_false, true_and, decide_false]
  have e3 : x.M = y.M := by simpa using q
  clear q
  refine .of (c_l_eqDoneS _ _ h0) ?_
  simp -implicitDefEqProofs only [go_sem]
  refine ⟨fun q => ?_, fun q => ?_⟩
  · have n4 : ¬ (x.Dones = y.Dones) := by simpa using q
    simp only [e0, e1, e2, e3, n4, false_and, and_false, true_and, decide_false]
  have e4 : x.Dones = y.Dones := by simpa using q
  clear q
  simp only [e0, e1, e2, e3, e4, true_and, and_true, decide_true]
end Go.X

/- Ea -/
namespace Go.X
set_option maxRecDepth 100000
set_option maxHeartbeats 8000000
theorem own_sl {τ : Type} {o : Bool} {z : Nat} {h : τ} {rows : List (List (Tr τ))} : Tr.own (.sl o z h rows) = o := rfl
theorem cellAt_sl {τ : Type} {o : Bool} {z : Nat} {h : τ} {rows : List (List (Tr τ))} {i j : Nat} : cellAt (.sl o z h rows) i j = (rows[i]?).bind (·[j]?) := rfl
theorem setCell_sl {τ : Type} {o : Bool} {z : Nat} {h : τ} {rows : List (List (Tr τ))} {i j : Nat} {u : Tr τ} : setCell (.sl o z h rows) i j u = .sl o z h (rows.set i ((rows[i]?.getD []).set j u)) := by
  simp only [setCell, setRows, Tr.rows, List.getD_eq_getElem?_getD]
attribute [go_sem] own_sl cellAt_sl setCell_sl
theorem back_bif {α : Type} {Te : Nat → List AV → Res → Prop} {c : Bool} {f : St → Bool} {p : Prg α} {st : St} {Q : α → St → Prop} (h : f st = true) (hp : runP Te p st Q) : runP Te (bif c then p else .all f p) st Q := by
  cases c
  · exact ⟨h, hp⟩
  · exact hp
structure CellV where
  Tag : Int
  B : List UInt8
  deriving DecidableEq
abbrev CellV.enc (o : Bool) (x : CellV) : List Go.X.T := [iT x.Tag, slT o 1 uR x.B]
def CellV.In (n : Nat) (x : CellV) : Prop := x.B.length ≤ n
theorem CellV.In.mono {x : CellV} {n m : Nat} (h : x.In n) (hn : n ≤ m) : x.In m := by
  simp only [CellV.In] at h ⊢
  exact Nat.le_trans h hn
def szCell (x : CellV) (k : Int) : Int := szAll [(fun k => left (k - (x.B.length : Nat)))] k
theorem szCell_sane (x : CellV) : Sane (szCell x) := Sane.all (.cons (Sane.left _) .nil)
theorem szCell_in {x : CellV} {k : Int} {n : Nat} (hk : 0 ≤ k) (hn : k ≤ n) (h : 0 ≤ szCell x k) : x.In n := by
  obtain ⟨⟨j0, a0, b0, c0⟩, _⟩ := szAll_ex (.cons (Sane.left _) .nil) hk hn h
  show x.B.length ≤ n
  exact (by have := left_in c0; omega)
def CellV.Len (x : CellV) : Prop := x.B.length ≤ 2 ^ 21
theorem CellV.In.len {x : CellV} {n : Nat} (h : x.In n) (hn : n ≤ 2 ^ 21) : x.Len := by
  have h0 : x.B.length ≤ n := h
  exact Nat.le_trans h0 hn
def CellV.mark (x : CellV) (k : Int) : CellV := ⟨x.Tag, marks 1 mkU x.B.length (k)⟩
def CellV.far (x : CellV) (k : Int) : Int := k + (1 * x.B.length : Nat)
theorem CellV.mark_B (x : CellV) (k : Int) : (x.mark k).B.length = x.B.length := by simp [CellV.mark, marks_length, markL_length]
theorem CellV.take_B {β : Type} (f : UInt8 → β) (x : CellV) (k : Int) : ((x.mark k).B.map f).take x.B.length = (x.mark k).B.map f := by rw [← x.mark_B k, take_map]
theorem CellV.far_le {x : CellV} (hx : x.Len) (k : Int) : k ≤ x.far k ∧ x.far k ≤ k + 2097152 := by
  have h0 : x.B.length ≤ 2 ^ 21 := hx
  simp only [CellV.far]
  omega
def x_l_szCell : FnX := ⟨12, [.tmp 4],
  .seq (.reg [⟨none, some 2, 2, .box (.t 0)⟩,
   ⟨none, some 4, 4, .mv (.k (.one (.pv (.int .i64 0))))⟩])
 (.seq (.reg [⟨none, some 5, 5, .faddr (.t 2) 1⟩,
   ⟨none, some 6, 6, .load none (.t 5)⟩,
   ⟨none, some 7, 7, .mv (.t 1)⟩,
   ⟨none, some 8, 8, .call 153 [0, 0] [(.t 6), (.t 7)]⟩,
   ⟨none, some 1, 1, .mv (.t 8)⟩])
 (.seq (.seq (.reg [⟨none, some 9, 9, .mv (.t 1)⟩,
   ⟨none, some 10, 10, .bin .lss (.t 9) (.k (.one (.pv (.int .i64 0))))⟩])
 (.cond 10 (.seq (.reg [⟨none, some 4, 4, .mv (.k (.one (.pv (.int .i64 (-1)))))⟩])
 (.ret)) (.skip)))
 (.seq (.reg [⟨none, some 11, 11, .mv (.t 1)⟩,
   ⟨none, some 4, 4, .mv (.t 11)⟩])
 (.ret))))⟩
abbrev C_l_szCell (Te : Nat → List AV → Res → Prop) : Prop := ∀ (x : CellV) (k : Int) (hx : x.In (2 ^ 48)) (hk : 0 ≤ k ∧ k ≤ 2 ^ 48), Te 195 [.agg (x.enc false), .one (iT k)] ⟨[.one (iT (szCell x k))], [(x.enc false), [iT k]]⟩
theorem r_l_szCell {Te : Nat → List AV → Res → Prop} (c_l_szByteS : C_l_szByteS Te) : ∀ (x : CellV) (k : Int) (hx : x.In (2 ^ 48)) (hk : 0 ≤ k ∧ k ≤ 2 ^ 48), RunFn Te x_l_szCell [.agg (x.enc false), .one (iT k)] ⟨[.one (iT (szCell x k))], [(x.enc false), [iT k]]⟩ := by
  intro x k hx hk
  refine ⟨by simp -implicitDefEqProofs only [x_l_szCell, go_sem], ?_⟩
  have h0 := hx
  simp -implicitDefEqProofs (disch := omega) only [x_l_szCell, go_sem, IntWalk.i64_in]
  refine .of (c_l_szByteS _ _ h0 hk) ?_
  simp -implicitDefEqProofs (disch := omega) only [go_sem, IntWalk.i64_in]
  refine ⟨fun q0 => ?_, fun q0 => ?_⟩
  · simp only [decide_eq_true_eq] at q0
    simp only [szCell, szAll, if_pos q0]
  · simp only [decide_eq_false_iff_not] at q0
    have k1 : 0 ≤ (left (k - (x.B.length : Nat))) ∧ (left (k - (x.B.length : Nat))) ≤ 2 ^ 48 := ⟨by omega, Int.le_trans (Sane.left _ _ hk.1) hk.2⟩
    simp only [szCell, szAll, if_neg q0]
def x_l_toCell : FnX := ⟨12, [.cell 2 (some 2)],
  .seq (.reg [⟨none, some 1, 1, .box (.t 0)⟩,
   ⟨none, some 2, 2, .alloc [.pv (.int .i64 0), .nils 1]⟩])
 (.seq (.reg [⟨none, some 3, 3, .alloc [.pv (.int .i64 0), .nils 1]⟩])
 (.seq (.reg [⟨none, some 4, 4, .faddr (.t 1) 0⟩,
   ⟨none, some 5, 5, .load none (.t 4)⟩,
   ⟨none, some 6, 6, .faddr (.t 3) 0⟩,
   ⟨none, none, 100001, .store 1 (.t 6) (.t 5)⟩])
 (.seq (.reg [⟨none, some 7, 7, .faddr (.t 1) 1⟩,
   ⟨none, some 8, 8, .load none (.t 7)⟩,
   ⟨none, some 9, 9, .call 159 [0] [(.t 8)]⟩,
   ⟨none, some 10, 10, .faddr (.t 3) 1⟩,
   ⟨none, none, 100002, .store 1 (.t 10) (.t 9)⟩])
 (.seq (.reg [⟨none, some 11, 11, .load (some 2) (.t 3)⟩,
   ⟨none, none, 100003, .store 2 (.t 2) (.t 11)⟩])
 (.ret)))))⟩
abbrev C_l_toCell (Te : Nat → List AV → Res → Prop) : Prop := ∀ (x : CellV) (hx : x.Len), Te 200 [.agg (x.enc false)] ⟨[.agg (x.enc true)], [(x.enc false)]⟩
theorem r_l_toCell {Te : Nat → List AV → Res → Prop} (c_l_toByteS : C_l_toByteS Te) : ∀ (x : CellV) (hx : x.Len), RunFn Te x_l_toCell [.agg (x.enc false)] ⟨[.agg (x.enc true)], [(x.enc false)]⟩ := by
  intro x hx
  refine ⟨by simp -implicitDefEqProofs only [x_l_toCell, go_sem], ?_⟩
  have h0 : x.B.length ≤ 2 ^ 21 := hx
  simp -implicitDefEqProofs only [x_l_toCell, go_sem]
  refine .of (c_l_toByteS _ (Nat.le_trans h0 (by decide))) ?_
  simp -implicitDefEqProofs only [go_sem]
def x_l_eqCell : FnX := ⟨16, [.tmp 4],
  .seq (.reg [⟨none, some 2, 2, .box (.t 0)⟩,
   ⟨none, some 3, 3, .box (.t 1)⟩,
   ⟨none, some 4, 4, .mv (.k (.one (.pv (.bool false))))⟩])
 (.seq (.seq (.reg [⟨none, some 5, 5, .faddr (.t 2) 0⟩,
   ⟨none, some 6, 6, .load none (.t 5)⟩,
   ⟨none, some 7, 7, .faddr (.t 3) 0⟩,
   ⟨none, some 8, 8, .load none (.t 7)⟩,
   ⟨none, some 9, 9, .bin .neq (.t 6) (.t 8)⟩])
 (.cond 9 (.seq (.reg [⟨none, some 4, 4, .mv (.k (.one (.pv (.bool false))))⟩])
 (.ret)) (.skip)))
 (.seq (.seq (.reg [⟨none, some 10, 10, .faddr (.t 2) 1⟩,
   ⟨none, some 11, 11, .load none (.t 10)⟩,
   ⟨none, some 12, 12, .faddr (.t 3) 1⟩,
   ⟨none, some 13, 13, .load none (.t 12)⟩,
   ⟨none, some 14, 14, .call 166 [0, 0] [(.t 11), (.t 13)]⟩,
   ⟨none, some 15, 15, .not (.t 14)⟩])
 (.cond 15 (.seq (.reg [⟨none, some 4, 4, .mv (.k (.one (.pv (.bool false))))⟩])
 (.ret)) (.skip)))
 (.seq (.reg [⟨none, some 4, 4, .mv (.k (.one (.pv (.bool true))))⟩])
 (.ret))))⟩
abbrev C_l_eqCell (Te : Nat → List AV → Res → Prop) : Prop := ∀ (x y : CellV) (hx : x.Len), Te 206 [.agg (x.enc false), .agg (y.enc false)] ⟨[.one (bT (decide (x = y)))], [(x.enc false), (y.enc false)]⟩
theorem r_l_eqCell {Te : Nat → List AV → Res → Prop} (c_l_eqByteS : C_l_eqByteS Te) : ∀ (x y : CellV) (hx : x.Len), RunFn Te x_l_eqCell [.agg (x.enc false), .agg (y.enc false)] ⟨[.one (bT (decide (x = y)))], [(x.enc false), (y.enc false)]⟩ := by
  intro x y hx
  refine ⟨by simp -implicitDefEqProofs only [x_l_eqCell, go_sem], ?_⟩
  have h0 : x.B.length ≤ 2 ^ 21 := hx
  have key : (x = y) ↔ x.Tag = y.Tag ∧ x.B = y.B := by cases x; cases y; simp
  simp only [key]
  clear key
  simp -implicitDefEqProofs only [x_l_eqCell, go_sem]
  refine ⟨fun q => ?_, fun q => ?_⟩
  · have n0 : ¬ (x.Tag = y.Tag) := by simpa using q
    simp only [n0, false_and, and_false, true_and, decide_false]
  have e0 : x.Tag = y.Tag := by simpa using q
  clear q
  refine .of (c_l_eqByteS _ _ (Nat.le_trans h0 (by decide))) ?_
  simp -implicitDefEqProofs only [go_sem]
  refine ⟨fun q => ?_, fun q => ?_⟩
  · have n1 : ¬ (x.B = y.B) := by simpa using q
    simp only [e0, n1, false_and, and_false, true_and, decide_false]
  have e1 : x.B = y.B := by simpa using q
  clear q
  simp only [e0, e1, true_and, and_true, decide_true]
structure RowV where
  Key : ByteArray
  Old : CellV
  New : CellV
  Has : Int
  Aside : Bool
  deriving DecidableEq
abbrev RowV.enc (o : Bool) (x : RowV) : List Go.X.T := [sT x.Key, iT x.Old.Tag, slT o 1 uR x.Old.B, iT x.New.Tag, slT o 1 uR x.New.B, iT x.Has, bT x.Aside]
def RowV.In (n : Nat) (x : RowV) : Prop := x.Key.size ≤ n ∧ x.Old.In (n) ∧ x.New.In (n)
theorem RowV.In.mono {x : RowV} {n m : Nat} (h : x.In n) (hn : n ≤ m) : x.In m := by
  simp only [RowV.In] at h ⊢
  exact ⟨Nat.le_trans h.1 hn, h.2.1.mono hn, h.2.2.mono hn⟩
def szRow (x : RowV) (k : Int) : Int := szAll [(fun k => k - (x.Key.size : Nat)), (szCell x.Old), (szCell x.New)] k
theorem szRow_sane (x : RowV) : Sane (szRow x) := Sane.all (.cons (Sane.sub _) (.cons (szCell_sane _) (.cons (szCell_sane _) .nil)))
theorem szRow_in {x : RowV} {k : Int} {n : Nat} (hk : 0 ≤ k) (hn : k ≤ n) (h : 0 ≤ szRow x k) : x.In n := by
  obtain ⟨⟨j0, a0, b0, c0⟩, ⟨j1, a1, b1, c1⟩, ⟨j2, a2, b2, c2⟩, _⟩ := szAll_ex (.cons (Sane.sub _) (.cons (szCell_sane _) (.cons (szCell_sane _) .nil))) hk hn h
  exact ⟨(by have q : (0 : Int) ≤ j0 - _ := c0; omega), (szCell_in a1 b1 c1), (szCell_in a2 b2 c2)⟩
def RowV.Len (x : RowV) : Prop := x.Old.Len ∧ x.New.Len
theorem RowV.In.len {x : RowV} {n : Nat} (h : x.In n) (hn : n ≤ 2 ^ 21) : x.Len := by
  obtain ⟨h0, h1, h2⟩ := h
  exact ⟨(h1).len hn, (h2).len hn⟩
def RowV.mark (x : RowV) (k : Int) : RowV := ⟨x.Key, x.Old.mark (k), x.New.mark (x.Old.far (k)), x.Has, x.Aside⟩
def RowV.far (x : RowV) (k : Int) : Int := x.New.far (x.Old.far (k))
theorem RowV.mark_Old_B (x : RowV) (k : Int) : (x.mark k).Old.B.length = x.Old.B.length := by simp [RowV.mark, CellV.mark, marks_length, markL_length]
theorem RowV.take_Old_B {β : Type} (f : UInt8 → β) (x : RowV) (k : Int) : ((x.mark k).Old.B.map f).take x.Old.B.length = (x.mark k).Old.B.map f := by rw [← x.mark_Old_B k, take_map]
theorem RowV.mark_New_B (x : RowV) (k : Int) : (x.mark k).New.B.length = x.New.B.length := by simp [RowV.mark, CellV.mark, marks_length, markL_length]
theorem RowV.take_New_B {β : Type} (f : UInt8 → β) (x : RowV) (k : Int) : ((x.mark k).New.B.map f).take x.New.B.length = (x.mark k).New.B.map f := by rw [← x.mark_New_B k, take_map]
theorem RowV.far_le {x : RowV} (hx : x.Len) (k : Int) : k ≤ x.far k ∧ x.far k ≤ k + 4194304 := by
  obtain ⟨h0, h1⟩ := hx
  have w0 := CellV.far_le h0 k
  have w1 := CellV.far_le h1 (x.Old.far k)
  simp only [RowV.far]
  omega
def RowV.markE (x : RowV) (k : Int) : RowV := ⟨mkS (k), ⟨k + 1, marks 1 mkU x.Old.B.length (k + 1 + 1)⟩, ⟨k + 1 + 1 + (1 * x.Old.B.length : Nat), marks 1 mkU x.New.B.length (k + 1 + 1 + (1 * x.Old.B.length : Nat) + 1)⟩, k + 1 + 1 + (1 * x.Old.B.length : Nat) + 1 + (1 * x.New.B.length : Nat), mkB (k + 1 + 1 + (1 * x.Old.B.length : Nat) + 1 + (1 * x.New.B.length : Nat) + 1)⟩
def RowV.farE (x : RowV) (k : Int) : Int := k + 1 + 1 + (1 * x.Old.B.length : Nat) + 1 + (1 * x.New.B.length : Nat) + 1 + 1
theorem RowV.farE_le {x : RowV} (hx : x.Len) (k : Int) : k ≤ x.farE k ∧ x.farE k ≤ k + 4194309 := by
  obtain ⟨h0, h1⟩ := hx
  have h0' : x.Old.B.length ≤ 2 ^ 21 := h0
  have h1' : x.New.B.length ≤ 2 ^ 21 := h1
  simp only [RowV.farE]
  omega
def x_l_szRow : FnX := ⟨25, [.tmp 4],
  .seq (.reg [⟨none, some 2, 2, .box (.t 0)⟩,
   ⟨none, some 4, 4, .mv (.k (.one (.pv (.int .i64 0))))⟩])
 (.seq (.reg [⟨none, some 5, 5, .mv (.t 1)⟩,
   ⟨none, some 6, 6, .faddr (.t 2) 0⟩,
   ⟨none, some 7, 7, .load none (.t 6)⟩,
   ⟨none, some 8, 8, .slen (.t 7)⟩,
   ⟨none, some 9, 9, .bin .sub (.t 5) (.t 8)⟩,
   ⟨none, some 1, 1, .mv (.t 9)⟩])
 (.seq (.seq (.reg [⟨none, some 10, 10, .mv (.t 1)⟩,
   ⟨none, some 11, 11, .bin .lss (.t 10) (.k (.one (.pv (.int .i64 0))))⟩])
 (.cond 11 (.seq (.reg [⟨none, some 4, 4, .mv (.k (.one (.pv (.int .i64 (-1)))))⟩])
 (.ret)) (.skip)))
 (.seq (.reg [⟨none, some 12, 12, .faddr (.t 2) 1⟩,
   ⟨none, some 13, 13, .load (some 2) (.t 12)⟩,
   ⟨none, some 14, 14, .mv (.t 1)⟩,
   ⟨none, some 15, 15, .call 195 [0, 0] [(.t 13), (.t 14)]⟩,
   ⟨none, some 1, 1, .mv (.t 15)⟩])
 (.seq (.seq (.reg [⟨none, some 16, 16, .mv (.t 1)⟩,
   ⟨none, some 17, 17, .bin .lss (.t 16) (.k (.one (.pv (.int .i64 0))))⟩])
 (.cond 17 (.seq (.reg [⟨none, some 4, 4, .mv (.k (.one (.pv (.int .i64 (-1)))))⟩])
 (.ret)) (.skip)))
 (.seq (.reg [⟨none, some 18, 18, .faddr (.t 2) 3⟩,
   ⟨none, some 19, 19, .load (some 2) (.t 18)⟩,
   ⟨none, some 20, 20, .mv (.t 1)⟩,
   ⟨none, some 21, 21, .call 195 [0, 0] [(.t 19), (.t 20)]⟩,
   ⟨none, some 1, 1, .mv (.t 21)⟩])
 (.seq (.seq (.reg [⟨none, some 22, 22, .mv (.t 1)⟩,
   ⟨none, some 23, 23, .bin .lss (.t 22) (.k (.one (.pv (.int .i64 0))))⟩])
 (.cond 23 (.seq (.reg [⟨none, some 4, 4, .mv (.k (.one (.pv (.int .i64 (-1)))))⟩])
 (.ret)) (.skip)))
 (.seq (.reg [⟨none, some 24, 24, .mv (.t 1)⟩,
   ⟨none, some 4, 4, .mv (.t 24)⟩])
 (.ret))))))))⟩
abbrev C_l_szRow (Te : Nat → List AV → Res → Prop) : Prop := ∀ (x : RowV) (k : Int) (hx : x.In (2 ^ 48)) (hk : 0 ≤ k ∧ k ≤ 2 ^ 48), Te 155 [.agg (x.enc false), .one (iT k)] ⟨[.one (iT (szRow x k))], [(x.enc false), [iT k]]⟩
theorem r_l_szRow {Te : Nat → List AV → Res → Prop} (c_l_szCell : C_l_szCell Te) : ∀ (x : RowV) (k : Int) (hx : x.In (2 ^ 48)) (hk : 0 ≤ k ∧ k ≤ 2 ^ 48), RunFn Te x_l_szRow [.agg (x.enc false), .one (iT k)] ⟨[.one (iT (szRow x k))], [(x.enc false), [iT k]]⟩ := by
  intro x k hx hk
  refine ⟨by simp -implicitDefEqProofs only [x_l_szRow, go_sem], ?_⟩
  obtain ⟨h0, h1, h2⟩ := hx
  simp -implicitDefEqProofs (disch := omega) only [x_l_szRow, go_sem, IntWalk.i64_in]
  refine ⟨fun q0 => ?_, fun q0 => ?_⟩
  · simp only [decide_eq_true_eq] at q0
    simp only [szRow, szAll, if_pos q0]
  · simp only [decide_eq_false_iff_not] at q0
    have k1 : 0 ≤ (k - (x.Key.size : Nat)) ∧ (k - (x.Key.size : Nat)) ≤ 2 ^ 48 := ⟨by omega, Int.le_trans (Sane.sub _ _ hk.1) hk.2⟩
    try simp -implicitDefEqProofs (disch := omega) only [go_sem, IntWalk.i64_in]
    refine .of (c_l_szCell _ _ h1 k1) ?_
    simp -implicitDefEqProofs (disch := omega) only [go_sem, IntWalk.i64_in]
    refine ⟨fun q1 => ?_, fun q1 => ?_⟩
    · simp only [decide_eq_true_eq] at q1
      simp only [szRow, szAll, if_neg q0, if_pos q1]
    · simp only [decide_eq_false_iff_not] at q1
      have k2 : 0 ≤ (szCell x.Old (k - (x.Key.size : Nat))) ∧ (szCell x.Old (k - (x.Key.size : Nat))) ≤ 2 ^ 48 := ⟨by omega, Int.le_trans ((szCell_sane _) _ k1.1) k1.2⟩
      refine .of (c_l_szCell _ _ h2 k2) ?_
      simp -implicitDefEqProofs (disch := omega) only [go_sem, IntWalk.i64_in]
      refine ⟨fun q2 => ?_, fun q2 => ?_⟩
      · simp only [decide_eq_true_eq] at q2
        simp only [szRow, szAll, if_neg q0, if_neg q1, if_pos q2]
      · simp only [decide_eq_false_iff_not] at q2
        have k3 : 0 ≤ (szCell x.New (szCell x.Old (k - (x.Key.size : Nat)))) ∧ (szCell x.New (szCell x.Old (k - (x.Key.size : Nat)))) ≤ 2 ^ 48 := ⟨by omega, Int.le_trans ((szCell_sane _) _ k2.1) k2.2⟩
        simp only [szRow, szAll, if_neg q0, if_neg q1, if_neg q2]
def x_l_toRow : FnX := ⟨22, [.cell 2 (some 7)],
  .seq (.reg [⟨none, some 1, 1, .box (.t 0)⟩,
   ⟨none, some 2, 2, .alloc [.pv (.string ⟨#[]⟩), .pv (.int .i64 0), .nils 1, .pv (.int .i64 0), .nils 1, .pv (.int .i64 0), .pv (.bool false)]⟩])
 (.seq (.reg [⟨none, some 3, 3, .alloc [.pv (.string ⟨#[]⟩), .pv (.int .i64 0), .nils 1, .pv (.int .i64 0), .nils 1, .pv (.int .i64 0), .pv (.bool false)]⟩])
 (.seq (.reg [⟨none, some 4, 4, .faddr (.t 1) 0⟩,
   ⟨none, some 5, 5, .load none (.t 4)⟩,
   ⟨none, some 6, 6, .faddr (.t 3) 0⟩,
   ⟨none, none, 100001, .store 1 (.t 6) (.t 5)⟩])
 (.seq (.reg [⟨none, some 7, 7, .faddr (.t 1) 1⟩,
   ⟨none, some 8, 8, .load (some 2) (.t 7)⟩,
   ⟨none, some 9, 9, .call 200 [0] [(.t 8)]⟩,
   ⟨none, some 10, 10, .faddr (.t 3) 1⟩,
   ⟨none, none, 100002, .store 2 (.t 10) (.t 9)⟩])
 (.seq (.reg [⟨none, some 11, 11, .faddr (.t 1) 3⟩,
   ⟨none, some 12, 12, .load (some 2) (.t 11)⟩,
   ⟨none, some 13, 13, .call 200 [0] [(.t 12)]⟩,
   ⟨none, some 14, 14, .faddr (.t 3) 3⟩,
   ⟨none, none, 100003, .store 2 (.t 14) (.t 13)⟩])
 (.seq (.reg [⟨none, some 15, 15, .faddr (.t 1) 5⟩,
   ⟨none, some 16, 16, .load none (.t 15)⟩,
   ⟨none, some 17, 17, .faddr (.t 3) 5⟩,
   ⟨none, none, 100004, .store 1 (.t 17) (.t 16)⟩])
 (.seq (.reg [⟨none, some 18, 18, .faddr (.t 1) 6⟩,
   ⟨none, some 19, 19, .load none (.t 18)⟩,
   ⟨none, some 20, 20, .faddr (.t 3) 6⟩,
   ⟨none, none, 100005, .store 1 (.t 20) (.t 19)⟩])
 (.seq (.reg [⟨none, some 21, 21, .load (some 7) (.t 3)⟩,
   ⟨none, none, 100006, .store 7 (.t 2) (.t 21)⟩])
 (.ret))))))))⟩
abbrev C_l_toRow (Te : Nat → List AV → Res → Prop) : Prop := ∀ (x : RowV) (hx : x.Len), Te 161 [.agg (x.enc false)] ⟨[.agg (x.enc true)], [(x.enc false)]⟩
theorem r_l_toRow {Te : Nat → List AV → Res → Prop} (c_l_toCell : C_l_toCell Te) : ∀ (x : RowV) (hx : x.Len), RunFn Te x_l_toRow [.agg (x.enc false)] ⟨[.agg (x.enc true)], [(x.enc false)]⟩ := by
  intro x hx
  refine ⟨by simp -implicitDefEqProofs only [x_l_toRow, go_sem], ?_⟩
  obtain ⟨h0, h1⟩ := hx
  simp -implicitDefEqProofs only [x_l_toRow, go_sem]
  refine .of (c_l_toCell _ h0) ?_
  simp -implicitDefEqProofs only [go_sem]
  refine .of (c_l_toCell _ h1) ?_
  simp -implicitDefEqProofs only [go_sem]
def x_l_eqRow : FnX := ⟨32, [.tmp 4],
  .seq (.reg [⟨none, some 2, 2, .box (.t 0)⟩,
   ⟨none, some 3, 3, .box (.t 1)⟩,
   ⟨none, some 4, 4, .mv (.k (.one (.pv (.bool false))))⟩])
 (.seq (.seq (.reg [⟨none, some 5, 5, .faddr (.t 2) 0⟩,
   ⟨none, some 6, 6, .load none (.t 5)⟩,
   ⟨none, some 7, 7, .faddr (.t 3) 0⟩,
   ⟨none, some 8, 8, .load none (.t 7)⟩,
   ⟨none, some 9, 9, .bin .neq (.t 6) (.t 8)⟩])
 (.cond 9 (.seq (.reg [⟨none, some 4, 4, .mv (.k (.one (.pv (.bool false))))⟩])
 (.ret)) (.skip)))
 (.seq (.seq (.reg [⟨none, some 10, 10, .faddr (.t 2) 1⟩,
   ⟨none, some 11, 11, .load (some 2) (.t 10)⟩,
   ⟨none, some 12, 12, .faddr (.t 3) 1⟩,
   ⟨none, some 13, 13, .load (some 2) (.t 12)⟩,
   ⟨none, some 14, 14, .call 206 [0, 0] [(.t 11), (.t 13)]⟩,
   ⟨none, some 15, 15, .not (.t 14)⟩])
 (.cond 15 (.seq (.reg [⟨none, some 4, 4, .mv (.k (.one (.pv (.bool false))))⟩])
 (.ret)) (.skip)))
 (.seq (.seq (.reg [⟨none, some 16, 16, .faddr (.t 2) 3⟩,
   ⟨none, some 17, 17, .load (some 2) (.t 16)⟩,
   ⟨none, some 18, 18, .faddr (.t 3) 3⟩,
   ⟨none, some 19, 19, .load (some 2) (.t 18)⟩,
   ⟨none, some 20, 20, .call 206 [0, 0] [(.t 17), (.t 19)]⟩,
   ⟨none, some 21, 21, .not (.t 20)⟩])
 (.cond 21 (.seq (.reg [⟨none, some 4, 4, .mv (.k (.one (.pv (.bool false))))⟩])
 (.ret)) (.skip)))
 (.seq (.seq (.reg [⟨none, some 22, 22, .faddr (.t 2) 5⟩,
   ⟨none, some 23, 23, .load none (.t 22)⟩,
   ⟨none, some 24, 24, .faddr (.t 3) 5⟩,
   ⟨none, some 25, 25, .load none (.t 24)⟩,
   ⟨none, some 26, 26, .bin .neq (.t 23) (.t 25)⟩])
 (.cond 26 (.seq (.reg [⟨none, some 4, 4, .mv (.k (.one (.pv (.bool false))))⟩])
 (.ret)) (.skip)))
 (.seq (.seq (.reg [⟨none, some 27, 27, .faddr (.t 2) 6⟩,
   ⟨none, some 28, 28, .load none (.t 27)⟩,
   ⟨none, some 29, 29, .faddr (.t 3) 6⟩,
   ⟨none, some 30, 30, .load none (.t 29)⟩,
   ⟨none, some 31, 31, .beq true (.t 28) (.t 30)⟩])
 (.cond 31 (.seq (.reg [⟨none, some 4, 4, .mv (.k (.one (.pv (.bool false))))⟩])
 (.ret)) (.skip)))
 (.seq (.reg [⟨none, some 4, 4, .mv (.k (.one (.pv (.bool true))))⟩])
 (.ret)))))))⟩
abbrev C_l_eqRow (Te : Nat → List AV → Res → Prop) : Prop := ∀ (x y : RowV) (hx : x.Len), Te 168 [.agg (x.enc false), .agg (y.enc false)] ⟨[.one (bT (decide (x = y)))], [(x.enc false), (y.enc false)]⟩
theorem r_l_eqRow {Te : Nat → List AV → Res → Prop} (c_l_eqCell : C_l_eqCell Te) : ∀ (x y : RowV) (hx : x.Len), RunFn Te x_l_eqRow [.agg (x.enc false), .agg (y.enc false)] ⟨[.one (bT (decide (x = y)))], [(x.enc false), (y.enc false)]⟩ := by
  intro x y hx
  refine ⟨by simp -implicitDefEqProofs only [x_l_eqRow, go_sem], ?_⟩
  obtain ⟨h0, h1⟩ := hx
  have key : (x = y) ↔ x.Key = y.Key ∧ x.Old = y.Old ∧ x.New = y.New ∧ x.Has = y.Has ∧ x.Aside = y.Aside := by cases x; cases y; simp
  simp only [key]
  clear key
  simp -implicitDefEqProofs only [x_l_eqRow, go_sem]
  refine ⟨fun q => ?_, fun q => ?_⟩
  · have n0 : ¬ (x.Key = y.Key) := by simpa using q
    simp only [n0, false_and, and_false, true_and, decide_false]
  have e0 : x.Key = y.Key := by simpa using q
  clear q
  refine .of (c_l_eqCell _ _ h0) ?_
  simp -implicitDefEqProofs only [go_sem]
  refine ⟨fun q => ?_, fun q => ?_⟩
  · have n1 : ¬ (x.Old = y.Old) := by simpa using q
    simp only [e0, n1, false_and, and_false, true_and, decide_false]
  have e1 : x.Old = y.Old := by simpa using q
  clear q
  refine .of (c_l_eqCell _ _ h1) ?_
  simp -implicitDefEqProofs only [go_sem]
  refine ⟨fun q => ?_, fun q => ?_⟩
  · have n2 : ¬ (x.New = y.New) := by simpa using q
    simp only [e0, e1, n2, false_and, and_false, true_and, decide_false]
  have e2 : x.New = y.New := by simpa using q
  clear q
  refine ⟨fun q => ?_, fun q => ?_⟩
  · have n3 : ¬ (x.Has = y.Has) := by simpa using q
    simp only [e0, e1, e2, n3, false_and, and_false, true_and, decide_false]
  have e3 : x.Has = y.Has := by simpa using q
  clear q
  refine ⟨fun q => ?_, fun q => ?_⟩
  · have n4 : ¬ (x.Aside = y.Aside) := by simpa using q
    simp only [e0, e1, e2, e3, n4, false_and, and_false, true_and, decide_false]
  have e4 : x.Aside = y.Aside := by simpa using q
  clear q
  simp only [e0, e1, e2, e3, e4, true_and, and_true, decide_true]
def x_l_szByteSS : FnX := ⟨27, [.tmp 4],
  .seq (.reg [⟨none, some 4, 4, .mv (.k (.one (.pv (.int .i64 0))))⟩])
 (.seq (.reg [⟨none, some 6, 6, .mv (.t 1)⟩,
   ⟨none, some 7, 7, .mv (.t 0)⟩,
   ⟨none, some 8, 8, .len (.t 7)⟩,
   ⟨none, some 9, 9, .bin .sub (.t 6) (.t 8)⟩,
   ⟨none, some 1, 1, .mv (.t 9)⟩])
 (.seq (.seq (.reg [⟨none, some 10, 10, .mv (.t 1)⟩,
   ⟨none, some 11, 11, .bin .lss (.t 10) (.k (.one (.pv (.int .i64 0))))⟩])
 (.cond 11 (.seq (.reg [⟨none, some 4, 4, .mv (.k (.one (.pv (.int .i64 (-1)))))⟩])
 (.ret)) (.skip)))
 (.seq (.seq (.reg [⟨none, some 5, 5, .mv (.k (.one (.pv (.int .i64 0))))⟩])
 (.block 0 (.loop [0, 1, 5] (.seq (.seq (.reg [⟨none, some 12, 12, .mv (.t 5)⟩,
   ⟨none, some 13, 13, .mv (.t 0)⟩,
   ⟨none, some 14, 14, .len (.t 13)⟩,
   ⟨none, some 15, 15, .bin .lss (.t 12) (.t 14)⟩])
 (.cond 15 (.skip) (.exit 0)))
 (.seq (.block 1 (.seq (.reg [⟨none, some 18, 18, .mv (.t 0)⟩,
   ⟨none, some 19, 19, .mv (.t 5)⟩,
   ⟨none, some 20, 20, .iaddr 1 (.t 18) (.t 19)⟩,
   ⟨none, some 21, 21, .load none (.t 20)⟩,
   ⟨none, some 22, 22, .mv (.t 1)⟩,
   ⟨none, some 23, 23, .call 153 [0, 0] [(.t 21), (.t 22)]⟩,
   ⟨none, some 1, 1, .mv (.t 23)⟩])
 (.seq (.reg [⟨none, some 24, 24, .mv (.t 1)⟩,
   ⟨none, some 25, 25, .bin .lss (.t 24) (.k (.one (.pv (.int .i64 0))))⟩])
 (.cond 25 (.seq (.reg [⟨none, some 4, 4, .mv (.k (.one (.pv (.int .i64 (-1)))))⟩])
 (.ret)) (.skip)))))
 (.reg [⟨none, some 16, 16, .mv (.t 5)⟩,
   ⟨none, some 17, 17, .bin .add (.t 16) (.k (.one (.pv (.int .i64 1))))⟩,
   ⟨none, some 5, 5, .mv (.t 17)⟩]))))))
 (.norm [1] (.seq (.reg [⟨none, some 26, 26, .mv (.t 1)⟩,
   ⟨none, some 4, 4, .mv (.t 26)⟩])
 (.ret))))))⟩
abbrev C_l_szByteSS (Te : Nat → List AV → Res → Prop) : Prop := ∀ (l : List (List UInt8)) (k : Int) (hk : 0 ≤ k ∧ k ≤ 2 ^ 48) (hl : l.length ≤ 2 ^ 48) (hs : ∀ y ∈ l, y.length ≤ 2 ^ 48), Te 108 [.one (slT false 1 (fun y => [slT false 1 uR y]) l), .one (iT k)] ⟨[.one (iT (szSl (fun y k => left (k - y.length)) l k))], [[slT false 1 (fun y => [slT false 1 uR y]) l], [iT k]]⟩
theorem r_l_szByteSS {Te : Nat → List AV → Res → Prop} (c_l_szByteS : C_l_szByteS Te) : ∀ (l : List (List UInt8)) (k : Int) (hk : 0 ≤ k ∧ k ≤ 2 ^ 48) (hl : l.length ≤ 2 ^ 48) (hs : ∀ y ∈ l, y.length ≤ 2 ^ 48), RunFn Te x_l_szByteSS [.one (slT false 1 (fun y => [slT false 1 uR y]) l), .one (iT k)] ⟨[.one (iT (szSl (fun y k => left (k - y.length)) l k))], [[slT false 1 (fun y => [slT false 1 uR y]) l], [iT k]]⟩ := by
  intro l k hk hl hs
  refine ⟨by simp -implicitDefEqProofs only [x_l_szByteSS, go_sem], ?_⟩
  simp -implicitDefEqProofs (disch := omega) only [x_l_szByteSS, go_sem, IntWalk.i64_in]
  refine ⟨fun h => ?_, fun h => ?_⟩
  · simp only [decide_eq_true_eq] at h
    simp only [szSl, szAll, if_pos h]
  · simp only [decide_eq_false_iff_not] at h
    refine loop_of (σ := Nat × Int) (fun x => ⟨[(0, .one (.ro 1 (l.map (fun y => [slT false 1 uR y])))), (1, .one (.pv (.int .i64 x.2))), (5, .one (.pv (.int .i64 x.1)))], [], [(0, [slT false 1 (fun y => [slT false 1 uR y]) l]), (1, [iT k])]⟩) (fun x => x.1 ≤ l.length ∧ 0 ≤ x.2 ∧ x.2 ≤ k ∧ szSl (fun y k => left (k - y.length)) l k = szAll ((l.drop x.1).map (fun y k => left (k - y.length))) x.2) (fun x => l.length - x.1) (0, k - l.length) ?_ ⟨Nat.zero_le _, by omega, by omega, by simp only [szSl, szAll, if_neg h, List.drop_zero]⟩ ?_
    · simp -implicitDefEqProofs only [go_sem]; rfl
    · rintro ⟨i, c⟩ ⟨hi, h0, h1, he⟩
      simp only at hi h0 h1 he
      simp -implicitDefEqProofs only [go_sem]
      refine ⟨fun h => ?_, fun h => ?_⟩
      · have hi' : i < l.length := by simp only [decide_eq_true_eq] at h; omega
        have hsz := hs l[i] (List.getElem_mem hi')
        have hsn : left (c - (l[i].length : Nat)) ≤ c := (fun _ => Sane.left _) l[i] c h0
        rw [List.drop_eq_getElem_cons hi'] at he
        simp -implicitDefEqProofs (disch := omega) only [go_sem, List.getElem?_eq_getElem hi', IntWalk.i64_in]
        refine .of (c_l_szByteS _ _ hsz ⟨h0, by omega⟩) ?_
        simp -implicitDefEqProofs only [go_sem]
        refine ⟨fun h2 => ?_, fun h2 => ?_⟩
        · simp only [decide_eq_true_eq] at h2
          rw [he]
          simp only [List.map_cons, szAll, if_pos h2]
        · simp only [decide_eq_false_iff_not] at h2
          refine ⟨(i + 1, left (c - (l[i].length : Nat))), by rw [IntWalk.i64_in _ (by omega)]; rfl, ⟨hi', by omega, by simp only; omega, ?_⟩, by simp only; omega⟩
          rw [he]
          simp only [List.map_cons, szAll, if_neg h2]
      · have hle : l.length ≤ i := by simp only [decide_eq_false_iff_not] at h; omega
        rw [List.drop_of_length_le hle] at he
        simp only [szAll, List.map_nil] at he
        rw [he]
def x_l_toByteSS : FnX := ⟨23, [.tmp 2],
  .seq (.reg [⟨none, some 2, 2, .mv (.k (.one (.nils 1)))⟩])
 (.seq (.reg [⟨none, some 5, 5, .mv (.t 0)⟩,
   ⟨none, some 6, 6, .len (.t 5)⟩,
   ⟨none, some 7, 7, .mks 1 24 [.sl true 1 () []] (.t 6)⟩,
   ⟨none, some 3, 3, .mv (.t 7)⟩])
 (.seq (.seq (.reg [⟨none, some 4, 4, .mv (.k (.one (.pv (.int .i64 0))))⟩])
 (.block 0 (.loop [0, 3, 4] (.seq (.seq (.reg [⟨none, some 8, 8, .mv (.t 4)⟩,
   ⟨none, some 9, 9, .mv (.t 0)⟩,
   ⟨none, some 10, 10, .len (.t 9)⟩,
   ⟨none, some 11, 11, .bin .lss (.t 8) (.t 10)⟩])
 (.cond 11 (.skip) (.exit 0)))
 (.seq (.block 1 (.reg [⟨none, some 14, 14, .mv (.t 3)⟩,
   ⟨none, some 15, 15, .mv (.t 4)⟩,
   ⟨none, some 16, 16, .mv (.t 0)⟩,
   ⟨none, some 17, 17, .mv (.t 4)⟩,
   ⟨none, some 18, 18, .iaddr 1 (.t 16) (.t 17)⟩,
   ⟨none, some 19, 19, .load none (.t 18)⟩,
   ⟨none, some 20, 20, .call 159 [0] [(.t 19)]⟩,
   ⟨none, some 21, 21, .iaddr 1 (.t 14) (.t 15)⟩,
   ⟨none, none, 100001, .store 1 (.t 21) (.t 20)⟩]))
 (.reg [⟨none, some 12, 12, .mv (.t 4)⟩,
   ⟨none, some 13, 13, .bin .add (.t 12) (.k (.one (.pv (.int .i64 1))))⟩,
   ⟨none, some 4, 4, .mv (.t 13)⟩]))))))
 (.norm [3] (.seq (.reg [⟨none, some 22, 22, .mv (.t 3)⟩,
   ⟨none, some 2, 2, .mv (.t 22)⟩])
 (.ret)))))⟩
abbrev C_l_toByteSS (Te : Nat → List AV → Res → Prop) : Prop := ∀ (l : List (List UInt8)) (hl : (l.length ≤ 2 ^ 21 ∧ ∀ y ∈ l, y.length ≤ 2 ^ 21)), Te 114 [.one (slT false 1 (fun y => [slT false 1 uR y]) l)] ⟨[.one (slT true 1 (fun y => [slT true 1 uR y]) l)], [[slT false 1 (fun y => [slT false 1 uR y]) l]]⟩
theorem r_l_toByteSS {Te : Nat → List AV → Res → Prop} (c_l_toByteS : C_l_toByteS Te) : ∀ (l : List (List UInt8)) (hl : (l.length ≤ 2 ^ 21 ∧ ∀ y ∈ l, y.length ≤ 2 ^ 21)), RunFn Te x_l_toByteSS [.one (slT false 1 (fun y => [slT false 1 uR y]) l)] ⟨[.one (slT true 1 (fun y => [slT true 1 uR y]) l)], [[slT false 1 (fun y => [slT false 1 uR y]) l]]⟩ := by
  intro l hl
  refine ⟨by simp -implicitDefEqProofs only [x_l_toByteSS, go_sem], ?_⟩
  have hl1 := hl.1
  simp -implicitDefEqProofs (disch := omega) only [x_l_toByteSS, go_sem, IntWalk.i64_in]
  refine ⟨⟨by simp only [decide_eq_true_eq]; omega, by simp only [decide_eq_true_eq]; omega⟩, ?_⟩
  refine loop_of (σ := Nat) (fun i => ⟨[(0, .one (.ro 1 (l.map (fun y => [slT false 1 uR y])))), (3, .one (.rf 24 0 [] 1 0 l.length)), (4, .one (.pv (.int .i64 i)))], [],
    [(0, [slT false 1 (fun y => [slT false 1 uR y]) l]), (24, [.sl true 1 () ((l.take i).map (fun y => [slT true 1 uR y]) ++ List.replicate (l.length - i) [.sl true 1 () []])])]⟩) (fun i => i ≤ l.length) (fun i => l.length - i) 0 ?_ (Nat.zero_le _) ?_
  · simp -implicitDefEqProofs only [go_sem]; rfl
  · intro i hi
    simp -implicitDefEqProofs only [go_sem]
    refine ⟨fun h => ?_, fun h => ?_⟩
    · have hi' : i < l.length := by simp only [decide_eq_true_eq] at h; omega
      simp -implicitDefEqProofs only [go_sem, List.getElem?_eq_getElem hi', fill_len (fun y => [slT true 1 uR y]) l [.sl true 1 () []] hi, storeAp, setCells, List.getD_eq_getElem?_getD, fill_get (fun y => [slT true 1 uR y]) l [.sl true 1 () []] hi']
      refine .of (c_l_toByteS _ (Nat.le_trans (hl.2 _ (List.getElem_mem hi')) (by decide))) ?_
      simp -implicitDefEqProofs only [go_sem, fill_len (fun y => [slT true 1 uR y]) l [.sl true 1 () []] hi, storeAp, setCells, List.getD_eq_getElem?_getD, fill_get (fun y => [slT true 1 uR y]) l [.sl true 1 () []] hi']
      repeat (first | refine ⟨by decide, ?_⟩ | refine ⟨by simpa using hi', ?_⟩)
      refine ⟨i + 1, ?_, hi', by omega⟩
      rw [← fill_set (fun y => [slT true 1 uR y]) l [.sl true 1 () []] hi', IntWalk.i64_in _ (by omega)]
      rfl
    · have : i = l.length := by simp only [decide_eq_false_iff_not] at h; omega
      subst this
      simp -implicitDefEqProofs only [go_sem, fill_len (fun y => [slT true 1 uR y]) l [.sl true 1 () []] hi, fill_end]
      refine ⟨by simp, ?_⟩
      simp [take_map]
def x_l_eqByteSS : FnX := ⟨27, [.tmp 4],
  .seq (.reg [⟨none, some 4, 4, .mv (.k (.one (.pv (.bool false))))⟩])
 (.seq (.seq (.reg [⟨none, some 6, 6, .mv (.t 0)⟩,
   ⟨none, some 7, 7, .len (.t 6)⟩,
   ⟨none, some 8, 8, .mv (.t 1)⟩,
   ⟨none, some 9, 9, .len (.t 8)⟩,
   ⟨none, some 10, 10, .bin .neq (.t 7) (.t 9)⟩])
 (.cond 10 (.seq (.reg [⟨none, some 4, 4, .mv (.k (.one (.pv (.bool false))))⟩])
 (.ret)) (.skip)))
 (.seq (.seq (.reg [⟨none, some 5, 5, .mv (.k (.one (.pv (.int .i64 0))))⟩])
 (.block 0 (.loop [0, 1, 5] (.seq (.seq (.reg [⟨none, some 11, 11, .mv (.t 5)⟩,
   ⟨none, some 12, 12, .mv (.t 0)⟩,
   ⟨none, some 13, 13, .len (.t 12)⟩,
   ⟨none, some 14, 14, .bin .lss (.t 11) (.t 13)⟩])
 (.cond 14 (.skip) (.exit 0)))
 (.seq (.block 1 (.seq (.draw [⟨none, some 17, 17, .mv (.t 0)⟩,
   ⟨none, some 18, 18, .mv (.t 5)⟩,
   ⟨none, some 19, 19, .iaddr 1 (.t 17) (.t 18)⟩,
   ⟨none, some 20, 20, .load none (.t 19)⟩,
   ⟨none, some 21, 21, .mv (.t 1)⟩,
   ⟨none, some 22, 22, .mv (.t 5)⟩,
   ⟨none, some 23, 23, .iaddr 1 (.t 21) (.t 22)⟩,
   ⟨none, some 24, 24, .load none (.t 23)⟩,
   ⟨none, some 25, 25, .call 166 [0, 0] [(.t 20), (.t 24)]⟩,
   ⟨none, some 26, 26, .not (.t 25)⟩] [[], [], [0, 1], [2], [], [], [4, 5], [6], [3, 7], [8]])
 (.cond 26 (.seq (.reg [⟨none, some 4, 4, .mv (.k (.one (.pv (.bool false))))⟩])
 (.ret)) (.skip))))
 (.reg [⟨none, some 15, 15, .mv (.t 5)⟩,
   ⟨none, some 16, 16, .bin .add (.t 15) (.k (.one (.pv (.int .i64 1))))⟩,
   ⟨none, some 5, 5, .mv (.t 16)⟩]))))))
 (.norm [] (.seq (.reg [⟨none, some 4, 4, .mv (.k (.one (.pv (.bool true))))⟩])
 (.ret)))))⟩
abbrev C_l_eqByteSS (Te : Nat → List AV → Res → Prop) : Prop := ∀ (l m : List (List UInt8)) (hl : (l.length ≤ 2 ^ 21 ∧ ∀ y ∈ l, y.length ≤ 2 ^ 21)), Te 120 [.one (slT false 1 (fun y => [slT false 1 uR y]) l), .one (slT false 1 (fun y => [slT false 1 uR y]) m)] ⟨[.one (bT (decide (l = m)))], [[slT false 1 (fun y => [slT false 1 uR y]) l], [slT false 1 (fun y => [slT false 1 uR y]) m]]⟩
theorem r_l_eqByteSS {Te : Nat → List AV → Res → Prop} (c_l_eqByteS : C_l_eqByteS Te) : ∀ (l m : List (List UInt8)) (hl : (l.length ≤ 2 ^ 21 ∧ ∀ y ∈ l, y.length ≤ 2 ^ 21)), RunFn Te x_l_eqByteSS [.one (slT false 1 (fun y => [slT false 1 uR y]) l), .one (slT false 1 (fun y => [slT false 1 uR y]) m)] ⟨[.one (bT (decide (l = m)))], [[slT false 1 (fun y => [slT false 1 uR y]) l], [slT false 1 (fun y => [slT false 1 uR y]) m]]⟩ := by
  intro l m hl
  refine ⟨by simp -implicitDefEqProofs only [x_l_eqByteSS, go_sem], ?_⟩
  have hl1 := hl.1
  simp -implicitDefEqProofs (disch := omega) only [x_l_eqByteSS, go_sem, IntWalk.i64_in]
  refine ⟨fun h => ?_, fun h => ?_⟩
  · have : l ≠ m := fun e => by simp [e] at h
    simp [this]
  · have hlen : l.length = m.length := by simp at h; omega
    refine loop_of (σ := Nat) (fun i => ⟨[(0, .one (.ro 1 (l.map (fun y => [slT false 1 uR y])))), (1, .one (.ro 1 (m.map (fun y => [slT false 1 uR y])))), (5, .one (.pv (.int .i64 i)))], [], [(0, [slT false 1 (fun y => [slT false 1 uR y]) l]), (1, [slT false 1 (fun y => [slT false 1 uR y]) m])]⟩) (fun i => i ≤ l.length ∧ l.take i = m.take i) (fun i => l.length - i) 0 ?_ ⟨Nat.zero_le _, by simp⟩ ?_
    · simp -implicitDefEqProofs only [go_sem]; rfl
    · intro i ⟨hi, hs⟩
      simp -implicitDefEqProofs only [go_sem]
      refine ⟨fun h => ?_, fun h => ?_⟩
      · have hi' : i < l.length := by simp only [decide_eq_true_eq] at h; omega
        have hj' : i < m.length := by omega
        simp -implicitDefEqProofs only [go_sem, List.getElem?_eq_getElem hi', List.getElem?_eq_getElem hj']
        refine .of (c_l_eqByteS _ _ (Nat.le_trans (hl.2 _ (List.getElem_mem hi')) (by decide))) ?_
        simp -implicitDefEqProofs only [go_sem]
        refine ⟨by decide, fun h2 => ?_, fun h2 => ?_⟩
        · have : l ≠ m := fun e => by subst e; simp at h2
          simp [this]
        · refine ⟨i + 1, by rw [IntWalk.i64_in _ (by omega)]; rfl, ⟨hi', same_step hi' hj' hs ?_⟩, by omega⟩
          simpa using h2
      · have hle : l.length ≤ i := by simp only [decide_eq_false_iff_not] at h; omega
        have : l = m := same_end hle (by omega) hs
        simp [this]
structure WrV where
  N : Int
  B : List UInt8
  deriving DecidableEq
abbrev WrV.enc (o : Bool) (x : WrV) : List Go.X.T := [iT x.N, slT o 1 uR x.B]
def WrV.In (n : Nat) (x : WrV) : Prop := x.B.length ≤ n
theorem WrV.In.mono {x : WrV} {n m : Nat} (h : x.In n) (hn : n ≤ m) : x.In m := by
  simp only [WrV.In] at h ⊢
  exact Nat.le_trans h hn
def szWr (x : WrV) (k : Int) : Int := szAll [(fun k => left (k - (x.B.length : Nat)))] k
theorem szWr_sane (x : WrV) : Sane (szWr x) := Sane.all (.cons (Sane.left _) .nil)
theorem szWr_in {x : WrV} {k : Int} {n : Nat} (hk : 0 ≤ k) (hn : k ≤ n) (h : 0 ≤ szWr x k) : x.In n := by
  obtain ⟨⟨j0, a0, b0, c0⟩, _⟩ := szAll_ex (.cons (Sane.left _) .nil) hk hn h
  show x.B.length ≤ n
  exact (by have := left_in c0; omega)
def WrV.Len (x : WrV) : Prop := x.B.length ≤ 2 ^ 21
theorem WrV.In.len {x : WrV} {n : Nat} (h : x.In n) (hn : n ≤ 2 ^ 21) : x.Len := by
  have h0 : x.B.length ≤ n := h
  exact Nat.le_trans h0 hn
def WrV.mark (x : WrV) (k : Int) : WrV := ⟨x.N, marks 1 mkU x.B.length (k)⟩
def WrV.far (x : WrV) (k : Int) : Int := k + (1 * x.B.length : Nat)
theorem WrV.mark_B (x : WrV) (k : Int) : (x.mark k).B.length = x.B.length := by simp [WrV.mark, marks_length, markL_length]
theorem WrV.take_B {β : Type} (f : UInt8 → β) (x : WrV) (k : Int) : ((x.mark k).B.map f).take x.B.length = (x.mark k).B.map f := by rw [← x.mark_B k, take_map]
theorem WrV.far_le {x : WrV} (hx : x.Len) (k : Int) : k ≤ x.far k ∧ x.far k ≤ k + 2097152 := by
  have h0 : x.B.length ≤ 2 ^ 21 := hx
  simp only [WrV.far]
  omega
def WrV.markE (x : WrV) (k : Int) : WrV := ⟨k, marks 1 mkU x.B.length (k + 1)⟩
def WrV.farE (x : WrV) (k : Int) : Int := k + 1 + (1 * x.B.length : Nat)
theorem WrV.farE_le {x : WrV} (hx : x.Len) (k : Int) : k ≤ x.farE k ∧ x.farE k ≤ k + 2097153 := by
  have h0 : x.B.length ≤ 2 ^ 21 := hx
  simp only [WrV.farE]
  omega
def x_l_szWr : FnX := ⟨12, [.tmp 4],
  .seq (.reg [⟨none, some 2, 2, .box (.t 0)⟩,
   ⟨none, some 4, 4, .mv (.k (.one (.pv (.int .i64 0))))⟩])
 (.seq (.reg [⟨none, some 5, 5, .faddr (.t 2) 1⟩,
   ⟨none, some 6, 6, .load none (.t 5)⟩,
   ⟨none, some 7, 7, .mv (.t 1)⟩,
   ⟨none, some 8, 8, .call 153 [0, 0] [(.t 6), (.t 7)]⟩,
   ⟨none, some 1, 1, .mv (.t 8)⟩])
 (.seq (.seq (.reg [⟨none, some 9, 9, .mv (.t 1)⟩,
   ⟨none, some 10, 10, .bin .lss (.t 9) (.k (.one (.pv (.int .i64 0))))⟩])
 (.cond 10 (.seq (.reg [⟨none, some 4, 4, .mv (.k (.one (.pv (.int .i64 (-1)))))⟩])
 (.ret)) (.skip)))
 (.seq (.reg [⟨none, some 11, 11, .mv (.t 1)⟩,
   ⟨none, some 4, 4, .mv (.t 11)⟩])
 (.ret))))⟩
abbrev C_l_szWr (Te : Nat → List AV → Res → Prop) : Prop := ∀ (x : WrV) (k : Int) (hx : x.In (2 ^ 48)) (hk : 0 ≤ k ∧ k ≤ 2 ^ 48), Te 154 [.agg (x.enc false), .one (iT k)] ⟨[.one (iT (szWr x k))], [(x.enc false), [iT k]]⟩
theorem r_l_szWr {Te : Nat → List AV → Res → Prop} (c_l_szByteS : C_l_szByteS Te) : ∀ (x : WrV) (k : Int) (hx : x.In (2 ^ 48)) (hk : 0 ≤ k ∧ k ≤ 2 ^ 48), RunFn Te x_l_szWr [.agg (x.enc false), .one (iT k)] ⟨[.one (iT (szWr x k))], [(x.enc false), [iT k]]⟩ := by
  intro x k hx hk
  refine ⟨by simp -implicitDefEqProofs only [x_l_szWr, go_sem], ?_⟩
  have h0 := hx
  simp -implicitDefEqProofs (disch := omega) only [x_l_szWr, go_sem, IntWalk.i64_in]
  refine .of (c_l_szByteS _ _ h0 hk) ?_
  simp -implicitDefEqProofs (disch := omega) only [go_sem, IntWalk.i64_in]
  refine ⟨fun q0 => ?_, fun q0 => ?_⟩
  · simp only [decide_eq_true_eq] at q0
    simp only [szWr, szAll, if_pos q0]
  · simp only [decide_eq_false_iff_not] at q0
    have k1 : 0 ≤ (left (k - (x.B.length : Nat))) ∧ (left (k - (x.B.length : Nat))) ≤ 2 ^ 48 := ⟨by omega, Int.le_trans (Sane.left _ _ hk.1) hk.2⟩
    simp only [szWr, szAll, if_neg q0]
def x_l_toWr : FnX := ⟨12, [.cell 2 (some 2)],
  .seq (.reg [⟨none, some 1, 1, .box (.t 0)⟩,
   ⟨none, some 2, 2, .alloc [.pv (.int .i64 0), .nils 1]⟩])
 (.seq (.reg [⟨none, some 3, 3, .alloc [.pv (.int .i64 0), .nils 1]⟩])
 (.seq (.reg [⟨none, some 4, 4, .faddr (.t 1) 0⟩,
   ⟨none, some 5, 5, .load none (.t 4)⟩,
   ⟨none, some 6, 6, .faddr (.t 3) 0⟩,
   ⟨none, none, 100001, .store 1 (.t 6) (.t 5)⟩])
 (.seq (.reg [⟨none, some 7, 7, .faddr (.t 1) 1⟩,
   ⟨none, some 8, 8, .load none (.t 7)⟩,
   ⟨none, some 9, 9, .call 159 [0] [(.t 8)]⟩,
   ⟨none, some 10, 10, .faddr (.t 3) 1⟩,
   ⟨none, none, 100002, .store 1 (.t 10) (.t 9)⟩])
 (.seq (.reg [⟨none, some 11, 11, .load (some 2) (.t 3)⟩,
   ⟨none, none, 100003, .store 2 (.t 2) (.t 11)⟩])
 (.ret)))))⟩
abbrev C_l_toWr (Te : Nat → List AV → Res → Prop) : Prop := ∀ (x : WrV) (hx : x.Len), Te 160 [.agg (x.enc false)] ⟨[.agg (x.enc true)], [(x.enc false)]⟩
theorem r_l_toWr {Te : Nat → List AV → Res → Prop} (c_l_toByteS : C_l_toByteS Te) : ∀ (x : WrV) (hx : x.Len), RunFn Te x_l_toWr [.agg (x.enc false)] ⟨[.agg (x.enc true)], [(x.enc false)]⟩ := by
  intro x hx
  refine ⟨by simp -implicitDefEqProofs only [x_l_toWr, go_sem], ?_⟩
  have h0 : x.B.length ≤ 2 ^ 21 := hx
  simp -implicitDefEqProofs only [x_l_toWr, go_sem]
  refine .of (c_l_toByteS _ (Nat.le_trans h0 (by decide))) ?_
  simp -implicitDefEqProofs only [go_sem]
def x_l_eqWr : FnX := ⟨16, [.tmp 4],
  .seq (.reg [⟨none, some 2, 2, .box (.t 0)⟩,
   ⟨none, some 3, 3, .box (.t 1)⟩,
   ⟨none, some 4, 4, .mv (.k (.one (.pv (.bool false))))⟩])
 (.seq (.seq (.reg [⟨none, some 5, 5, .faddr (.t 2) 0⟩,
   ⟨none, some 6, 6, .load none (.t 5)⟩,
   ⟨none, some 7, 7, .faddr (.t 3) 0⟩,
   ⟨none, some 8, 8, .load none (.t 7)⟩,
   ⟨none, some 9, 9, .bin .neq (.t 6) (.t 8)⟩])
 (.cond 9 (.seq (.reg [⟨none, some 4, 4, .mv (.k (.one (.pv (.bool false))))⟩])
 (.ret)) (.skip)))
 (.seq (.seq (.reg [⟨none, some 10, 10, .faddr (.t 2) 1⟩,
   ⟨none, some 11, 11, .load none (.t 10)⟩,
   ⟨none, some 12, 12, .faddr (.t 3) 1⟩,
   ⟨none, some 13, 13, .load none (.t 12)⟩,
   ⟨none, some 14, 14, .call 166 [0, 0] [(.t 11), (.t 13)]⟩,
   ⟨none, some 15, 15, .not (.t 14)⟩])
 (.cond 15 (.seq (.reg [⟨none, some 4, 4, .mv (.k (.one (.pv (.bool false))))⟩])
 (.ret)) (.skip)))
 (.seq (.reg [⟨none, some 4, 4, .mv (.k (.one (.pv (.bool true))))⟩])
 (.ret))))⟩
abbrev C_l_eqWr (Te : Nat → List AV → Res → Prop) : Prop := ∀ (x y : WrV) (hx : x.Len), Te 167 [.agg (x.enc false), .agg (y.enc false)] ⟨[.one (bT (decide (x = y)))], [(x.enc false), (y.enc false)]⟩
theorem r_l_eqWr {Te : Nat → List AV → Res → Prop} (c_l_eqByteS : C_l_eqByteS Te) : ∀ (x y : WrV) (hx : x.Len), RunFn Te x_l_eqWr [.agg (x.enc false), .agg (y.enc false)] ⟨[.one (bT (decide (x = y)))], [(x.enc false), (y.enc false)]⟩ := by
  intro x y hx
  refine ⟨by simp -implicitDefEqProofs only [x_l_eqWr, go_sem], ?_⟩
  have h0 : x.B.length ≤ 2 ^ 21 := hx
  have key : (x = y) ↔ x.N = y.N ∧ x.B = y.B := by cases x; cases y; simp
  simp only [key]
  clear key
  simp -implicitDefEqProofs only [x_l_eqWr, go_sem]
  refine ⟨fun q => ?_, fun q => ?_⟩
  · have n0 : ¬ (x.N = y.N) := by simpa using q
    simp only [n0, false_and, and_false, true_and, decide_false]
  have e0 : x.N = y.N := by simpa using q
  clear q
  refine .of (c_l_eqByteS _ _ (Nat.le_trans h0 (by decide))) ?_
  simp -implicitDefEqProofs only [go_sem]
  refine ⟨fun q => ?_, fun q => ?_⟩
  · have n1 : ¬ (x.B = y.B) := by simpa using q
    simp only [e0, n1, false_and, and_false, true_and, decide_false]
  have e1 : x.B = y.B := by simpa using q
  clear q
  simp only [e0, e1, true_and, and_true, decide_true]
def x_l_szWrS : FnX := ⟨27, [.tmp 4],
  .seq (.reg [⟨none, some 4, 4, .mv (.k (.one (.pv (.int .i64 0))))⟩])
 (.seq (.reg [⟨none, some 6, 6, .mv (.t 1)⟩,
   ⟨none, some 7, 7, .mv (.t 0)⟩,
   ⟨none, some 8, 8, .len (.t 7)⟩,
   ⟨none, some 9, 9, .bin .sub (.t 6) (.t 8)⟩,
   ⟨none, some 1, 1, .mv (.t 9)⟩])
 (.seq (.seq (.reg [⟨none, some 10, 10, .mv (.t 1)⟩,
   ⟨none, some 11, 11, .bin .lss (.t 10) (.k (.one (.pv (.int .i64 0))))⟩])
 (.cond 11 (.seq (.reg [⟨none, some 4, 4, .mv (.k (.one (.pv (.int .i64 (-1)))))⟩])
 (.ret)) (.skip)))
 (.seq (.seq (.reg [⟨none, some 5, 5, .mv (.k (.one (.pv (.int .i64 0))))⟩])
 (.block 0 (.loop [0, 1, 5] (.seq (.seq (.reg [⟨none, some 12, 12, .mv (.t 5)⟩,
   ⟨none, some 13, 13, .mv (.t 0)⟩,
   ⟨none, some 14, 14, .len (.t 13)⟩,
   ⟨none, some 15, 15, .bin .lss (.t 12) (.t 14)⟩])
 (.cond 15 (.skip) (.exit 0)))
 (.seq (.block 1 (.seq (.reg [⟨none, some 18, 18, .mv (.t 0)⟩,
   ⟨none, some 19, 19, .mv (.t 5)⟩,
   ⟨none, some 20, 20, .iaddr 2 (.t 18) (.t 19)⟩,
   ⟨none, some 21, 21, .load (some 2) (.t 20)⟩,
   ⟨none, some 22, 22, .mv (.t 1)⟩,
   ⟨none, some 23, 23, .call 154 [0, 0] [(.t 21), (.t 22)]⟩,
   ⟨none, some 1, 1, .mv (.t 23)⟩])
 (.seq (.reg [⟨none, some 24, 24, .mv (.t 1)⟩,
   ⟨none, some 25, 25, .bin .lss (.t 24) (.k (.one (.pv (.int .i64 0))))⟩])
 (.cond 25 (.seq (.reg [⟨none, some 4, 4, .mv (.k (.one (.pv (.int .i64 (-1)))))⟩])
 (.ret)) (.skip)))))
 (.reg [⟨none, some 16, 16, .mv (.t 5)⟩,
   ⟨none, some 17, 17, .bin .add (.t 16) (.k (.one (.pv (.int .i64 1))))⟩,
   ⟨none, some 5, 5, .mv (.t 17)⟩]))))))
 (.norm [1] (.seq (.reg [⟨none, some 26, 26, .mv (.t 1)⟩,
   ⟨none, some 4, 4, .mv (.t 26)⟩])
 (.ret))))))⟩
abbrev C_l_szWrS (Te : Nat → List AV → Res → Prop) : Prop := ∀ (l : List WrV) (k : Int) (hk : 0 ≤ k ∧ k ≤ 2 ^ 48) (hl : l.length ≤ 2 ^ 48) (hs : ∀ y ∈ l, y.In (2 ^ 48)), Te 109 [.one (slT false 2 (WrV.enc false) l), .one (iT k)] ⟨[.one (iT (szSl szWr l k))], [[slT false 2 (WrV.enc false) l], [iT k]]⟩
theorem r_l_szWrS {Te : Nat → List AV → Res → Prop} (c_l_szWr : C_l_szWr Te) : ∀ (l : List WrV) (k : Int) (hk : 0 ≤ k ∧ k ≤ 2 ^ 48) (hl : l.length ≤ 2 ^ 48) (hs : ∀ y ∈ l, y.In (2 ^ 48)), RunFn Te x_l_szWrS [.one (slT false 2 (WrV.enc false) l), .one (iT k)] ⟨[.one (iT (szSl szWr l k))], [[slT false 2 (WrV.enc false) l], [iT k]]⟩ := by
  intro l k hk hl hs
  refine ⟨by simp -implicitDefEqProofs only [x_l_szWrS, go_sem], ?_⟩
  simp -implicitDefEqProofs (disch := omega) only [x_l_szWrS, go_sem, IntWalk.i64_in]
  refine ⟨fun h => ?_, fun h => ?_⟩
  · simp only [decide_eq_true_eq] at h
    simp only [szSl, szAll, if_pos h]
  · simp only [decide_eq_false_iff_not] at h
    refine loop_of (σ := Nat × Int) (fun x => ⟨[(0, .one (.ro 2 (l.map (WrV.enc false)))), (1, .one (.pv (.int .i64 x.2))), (5, .one (.pv (.int .i64 x.1)))], [], [(0, [slT false 2 (WrV.enc false) l]), (1, [iT k])]⟩) (fun x => x.1 ≤ l.length ∧ 0 ≤ x.2 ∧ x.2 ≤ k ∧ szSl szWr l k = szAll ((l.drop x.1).map szWr) x.2) (fun x => l.length - x.1) (0, k - l.length) ?_ ⟨Nat.zero_le _, by omega, by omega, by simp only [szSl, szAll, if_neg h, List.drop_zero]⟩ ?_
    · simp -implicitDefEqProofs only [go_sem]; rfl
    · rintro ⟨i, c⟩ ⟨hi, h0, h1, he⟩
      simp only at hi h0 h1 he
      simp -implicitDefEqProofs only [go_sem]
      refine ⟨fun h => ?_, fun h => ?_⟩
      · have hi' : i < l.length := by simp only [decide_eq_true_eq] at h; omega
        have hsz := hs l[i] (List.getElem_mem hi')
        have hsn : szWr l[i] c ≤ c := szWr_sane l[i] c h0
        rw [List.drop_eq_getElem_cons hi'] at he
        simp -implicitDefEqProofs (disch := omega) only [go_sem, List.getElem?_eq_getElem hi', IntWalk.i64_in]
        refine .of (c_l_szWr _ _ hsz ⟨h0, by omega⟩) ?_
        simp -implicitDefEqProofs only [go_sem]
        refine ⟨fun h2 => ?_, fun h2 => ?_⟩
        · simp only [decide_eq_true_eq] at h2
          rw [he]
          simp only [List.map_cons, szAll, if_pos h2]
        · simp only [decide_eq_false_iff_not] at h2
          refine ⟨(i + 1, szWr l[i] c), by rw [IntWalk.i64_in _ (by omega)]; rfl, ⟨hi', by omega, by simp only; omega, ?_⟩, by simp only; omega⟩
          rw [he]
          simp only [List.map_cons, szAll, if_neg h2]
      · have hle : l.length ≤ i := by simp only [decide_eq_false_iff_not] at h; omega
        rw [List.drop_of_length_le hle] at he
        simp only [szAll, List.map_nil] at he
        rw [he]
def x_l_toWrS : FnX := ⟨23, [.tmp 2],
  .seq (.reg [⟨none, some 2, 2, .mv (.k (.one (.nils 2)))⟩])
 (.seq (.reg [⟨none, some 5, 5, .mv (.t 0)⟩,
   ⟨none, some 6, 6, .len (.t 5)⟩,
   ⟨none, some 7, 7, .mks 2 32 [.pv (.int .i64 0), .sl true 1 () []] (.t 6)⟩,
   ⟨none, some 3, 3, .mv (.t 7)⟩])
 (.seq (.seq (.reg [⟨none, some 4, 4, .mv (.k (.one (.pv (.int .i64 0))))⟩])
 (.block 0 (.loop [0, 3, 4] (.seq (.seq (.reg [⟨none, some 8, 8, .mv (.t 4)⟩,
   ⟨none, some 9, 9, .mv (.t 0)⟩,
   ⟨none, some 10, 10, .len (.t 9)⟩,
   ⟨none, some 11, 11, .bin .lss (.t 8) (.t 10)⟩])
 (.cond 11 (.skip) (.exit 0)))
 (.seq (.block 1 (.reg [⟨none, some 14, 14, .mv (.t 3)⟩,
   ⟨none, some 15, 15, .mv (.t 4)⟩,
   ⟨none, some 16, 16, .mv (.t 0)⟩,
   ⟨none, some 17, 17, .mv (.t 4)⟩,
   ⟨none, some 18, 18, .iaddr 2 (.t 16) (.t 17)⟩,
   ⟨none, some 19, 19, .load (some 2) (.t 18)⟩,
   ⟨none, some 20, 20, .call 160 [0] [(.t 19)]⟩,
   ⟨none, some 21, 21, .iaddr 2 (.t 14) (.t 15)⟩,
   ⟨none, none, 100001, .store 2 (.t 21) (.t 20)⟩]))
 (.reg [⟨none, some 12, 12, .mv (.t 4)⟩,
   ⟨none, some 13, 13, .bin .add (.t 12) (.k (.one (.pv (.int .i64 1))))⟩,
   ⟨none, some 4, 4, .mv (.t 13)⟩]))))))
 (.norm [3] (.seq (.reg [⟨none, some 22, 22, .mv (.t 3)⟩,
   ⟨none, some 2, 2, .mv (.t 22)⟩])
 (.ret)))))⟩
abbrev C_l_toWrS (Te : Nat → List AV → Res → Prop) : Prop := ∀ (l : List WrV) (hl : (l.length ≤ 2 ^ 21 ∧ ∀ y ∈ l, y.Len)), Te 115 [.one (slT false 2 (WrV.enc false) l)] ⟨[.one (slT true 2 (WrV.enc true) l)], [[slT false 2 (WrV.enc false) l]]⟩
theorem r_l_toWrS {Te : Nat → List AV → Res → Prop} (c_l_toWr : C_l_toWr Te) : ∀ (l : List WrV) (hl : (l.length ≤ 2 ^ 21 ∧ ∀ y ∈ l, y.Len)), RunFn Te x_l_toWrS [.one (slT false 2 (WrV.enc false) l)] ⟨[.one (slT true 2 (WrV.enc true) l)], [[slT false 2 (WrV.enc false) l]]⟩ := by
  intro l hl
  refine ⟨by simp -implicitDefEqProofs only [x_l_toWrS, go_sem], ?_⟩
  have hl1 := hl.1
  simp -implicitDefEqProofs (disch := omega) only [x_l_toWrS, go_sem, IntWalk.i64_in]
  refine ⟨⟨by simp only [decide_eq_true_eq]; omega, by simp only [decide_eq_true_eq]; omega⟩, ?_⟩
  refine loop_of (σ := Nat) (fun i => ⟨[(0, .one (.ro 2 (l.map (WrV.enc false)))), (3, .one (.rf 24 0 [] 2 0 l.length)), (4, .one (.pv (.int .i64 i)))], [],
    [(0, [slT false 2 (WrV.enc false) l]), (24, [.sl true 2 () ((l.take i).map (WrV.enc true) ++ List.replicate (l.length - i) [.pv (.int .i64 0), .sl true 1 () []])])]⟩) (fun i => i ≤ l.length) (fun i => l.length - i) 0 ?_ (Nat.zero_le _) ?_
  · simp -implicitDefEqProofs only [go_sem]; rfl
  · intro i hi
    simp -implicitDefEqProofs only [go_sem]
    refine ⟨fun h => ?_, fun h => ?_⟩
    · have hi' : i < l.length := by simp only [decide_eq_true_eq] at h; omega
      simp -implicitDefEqProofs only [go_sem, List.getElem?_eq_getElem hi', fill_len (WrV.enc true) l [.pv (.int .i64 0), .sl true 1 () []] hi, storeAp, setCells, List.getD_eq_getElem?_getD, fill_get (WrV.enc true) l [.pv (.int .i64 0), .sl true 1 () []] hi']
      refine .of (c_l_toWr _ (hl.2 _ (List.getElem_mem hi'))) ?_
      simp -implicitDefEqProofs only [go_sem, fill_len (WrV.enc true) l [.pv (.int .i64 0), .sl true 1 () []] hi, storeAp, setCells, List.getD_eq_getElem?_getD, fill_get (WrV.enc true) l [.pv (.int .i64 0), .sl true 1 () []] hi']
      repeat (first | refine ⟨by decide, ?_⟩ | refine ⟨by simpa using hi', ?_⟩)
      refine ⟨i + 1, ?_, hi', by omega⟩
      rw [← fill_set (WrV.enc true) l [.pv (.int .i64 0), .sl true 1 () []] hi', IntWalk.i64_in _ (by omega)]
      rfl
    · have : i = l.length := by simp only [decide_eq_false_iff_not] at h; omega
      subst this
      simp -implicitDefEqProofs only [go_sem, fill_len (WrV.enc true) l [.pv (.int .i64 0), .sl true 1 () []] hi, fill_end]
      refine ⟨by simp, ?_⟩
      simp [take_map]
def x_l_eqWrS : FnX := ⟨27, [.tmp 4],
  .seq (.reg [⟨none, some 4, 4, .mv (.k (.one (.pv (.bool false))))⟩])
 (.seq (.seq (.reg [⟨none, some 6, 6, .mv (.t 0)⟩,
   ⟨none, some 7, 7, .len (.t 6)⟩,
   ⟨none, some 8, 8, .mv (.t 1)⟩,
   ⟨none, some 9, 9, .len (.t 8)⟩,
   ⟨none, some 10, 10, .bin .neq (.t 7) (.t 9)⟩])
 (.cond 10 (.seq (.reg [⟨none, some 4, 4, .mv (.k (.one (.pv (.bool false))))⟩])
 (.ret)) (.skip)))
 (.seq (.seq (.reg [⟨none, some 5, 5, .mv (.k (.one (.pv (.int .i64 0))))⟩])
 (.block 0 (.loop [0, 1, 5] (.seq (.seq (.reg [⟨none, some 11, 11, .mv (.t 5)⟩,
   ⟨none, some 12, 12, .mv (.t 0)⟩,
   ⟨none, some 13, 13, .len (.t 12)⟩,
   ⟨none, some 14, 14, .bin .lss (.t 11) (.t 13)⟩])
 (.cond 14 (.skip) (.exit 0)))
 (.seq (.block 1 (.seq (.draw [⟨none, some 17, 17, .mv (.t 0)⟩,
   ⟨none, some 18, 18, .mv (.t 5)⟩,
   ⟨none, some 19, 19, .iaddr 2 (.t 17) (.t 18)⟩,
   ⟨none, some 20, 20, .load (some 2) (.t 19)⟩,
   ⟨none, some 21, 21, .mv (.t 1)⟩,
   ⟨none, some 22, 22, .mv (.t 5)⟩,
   ⟨none, some 23, 23, .iaddr 2 (.t 21) (.t 22)⟩,
   ⟨none, some 24, 24, .load (some 2) (.t 23)⟩,
   ⟨none, some 25, 25, .call 167 [0, 0] [(.t 20), (.t 24)]⟩,
   ⟨none, some 26, 26, .not (.t 25)⟩] [[], [], [0, 1], [2], [], [], [4, 5], [6], [3, 7], [8]])
 (.cond 26 (.seq (.reg [⟨none, some 4, 4, .mv (.k (.one (.pv (.bool false))))⟩])
 (.ret)) (.skip))))
 (.reg [⟨none, some 15, 15, .mv (.t 5)⟩,
   ⟨none, some 16, 16, .bin .add (.t 15) (.k (.one (.pv (.int .i64 1))))⟩,
   ⟨none, some 5, 5, .mv (.t 16)⟩]))))))
 (.norm [] (.seq (.reg [⟨none, some 4, 4, .mv (.k (.one (.pv (.bool true))))⟩])
 (.ret)))))⟩
abbrev C_l_eqWrS (Te : Nat → List AV → Res → Prop) : Prop := ∀ (l m : List WrV) (hl : (l.length ≤ 2 ^ 21 ∧ ∀ y ∈ l, y.Len)), Te 121 [.one (slT false 2 (WrV.enc false) l), .one (slT false 2 (WrV.enc false) m)] ⟨[.one (bT (decide (l = m)))], [[slT false 2 (WrV.enc false) l], [slT false 2 (WrV.enc false) m]]⟩
theorem r_l_eqWrS {Te : Nat → List AV → Res → Prop} (c_l_eqWr : C_l_eqWr Te) : ∀ (l m : List WrV) (hl : (l.length ≤ 2 ^ 21 ∧ ∀ y ∈ l, y.Len)), RunFn Te x_l_eqWrS [.one (slT false 2 (WrV.enc false) l), .one (slT false 2 (WrV.enc false) m)] ⟨[.one (bT (decide (l = m)))], [[slT false 2 (WrV.enc false) l], [slT false 2 (WrV.enc false) m]]⟩ := by
  intro l m hl
  refine ⟨by simp -implicitDefEqProofs only [x_l_eqWrS, go_sem], ?_⟩
  have hl1 := hl.1
  simp -implicitDefEqProofs (disch := omega) only [x_l_eqWrS, go_sem, IntWalk.i64_in]
  refine ⟨fun h => ?_, fun h => ?_⟩
  · have : l ≠ m := fun e => by simp [e] at h
    simp [this]
  · have hlen : l.length = m.length := by simp at h; omega
    refine loop_of (σ := Nat) (fun i => ⟨[(0, .one (.ro 2 (l.map (WrV.enc false)))), (1, .one (.ro 2 (m.map (WrV.enc false)))), (5, .one (.pv (.int .i64 i)))], [], [(0, [slT false 2 (WrV.enc false) l]), (1, [slT false 2 (WrV.enc false) m])]⟩) (fun i => i ≤ l.length ∧ l.take i = m.take i) (fun i => l.length - i) 0 ?_ ⟨Nat.zero_le _, by simp⟩ ?_
    · simp -implicitDefEqProofs only [go_sem]; rfl
    · intro i ⟨hi, hs⟩
      simp -implicitDefEqProofs only [go_sem]
      refine ⟨fun h => ?_, fun h => ?_⟩
      · have hi' : i < l.length := by simp only [decide_eq_true_eq] at h; omega
        have hj' : i < m.length := by omega
        simp -implicitDefEqProofs only [go_sem, List.getElem?_eq_getElem hi', List.getElem?_eq_getElem hj']
        refine .of (c_l_eqWr _ _ (hl.2 _ (List.getElem_mem hi'))) ?_
        simp -implicitDefEqProofs only [go_sem]
        refine ⟨by decide, fun h2 => ?_, fun h2 => ?_⟩
        · have : l ≠ m := fun e => by subst e; simp at h2
          simp [this]
        · refine ⟨i + 1, by rw [IntWalk.i64_in _ (by omega)]; rfl, ⟨hi', same_step hi' hj' hs ?_⟩, by omega⟩
          simpa using h2
      · have hle : l.length ≤ i := by simp only [decide_eq_false_iff_not] at h; omega
        have : l = m := same_end hle (by omega) hs
        simp [this]
structure DevV where
  Secs : List (List UInt8)
  Cache : List WrV
  Fuse : Int
  Down : Bool
  deriving DecidableEq
abbrev DevV.enc (o : Bool) (x : DevV) : List Go.X.T := [slT o 1 (fun y => [slT o 1 uR y]) x.Secs, slT o 2 (WrV.enc o) x.Cache, iT x.Fuse, bT x.Down]
def DevV.In (n : Nat) (x : DevV) : Prop := (x.Secs.length ≤ n ∧ ∀ y ∈ x.Secs, y.length ≤ n) ∧ (x.Cache.length ≤ n ∧ ∀ y ∈ x.Cache, y.In (n))
theorem DevV.In.mono {x : DevV} {n m : Nat} (h : x.In n) (hn : n ≤ m) : x.In m := by
  simp only [DevV.In] at h ⊢
  exact ⟨⟨Nat.le_trans h.1.1 hn, fun y hy => Nat.le_trans (h.1.2 y hy) hn⟩, ⟨Nat.le_trans h.2.1 hn, fun y hy => (h.2.2 y hy).mono hn⟩⟩
def szDev (x : DevV) (k : Int) : Int := szAll [(szSl (fun y k => left (k - y.length)) x.Secs), (szSl szWr x.Cache)] k
theorem szDev_sane (x : DevV) : Sane (szDev x) := Sane.all (.cons (Sane.sl (fun _ => Sane.left _) _) (.cons (Sane.sl szWr_sane _) .nil))
theorem szDev_in {x : DevV} {k : Int} {n : Nat} (hk : 0 ≤ k) (hn : k ≤ n) (h : 0 ≤ szDev x k) : x.In n := by
  obtain ⟨⟨j0, a0, b0, c0⟩, ⟨j1, a1, b1, c1⟩, _⟩ := szAll_ex (.cons (Sane.sl (fun _ => Sane.left _) _) (.cons (Sane.sl szWr_sane _) .nil)) hk hn h
  exact ⟨(szSl_in (fun _ => Sane.left _) (fun a j h0 hn h => by have := left_in h; omega) a0 b0 c0), (szSl_in szWr_sane (fun a j h0 hn h => szWr_in h0 hn h) a1 b1 c1)⟩
def DevV.Len (x : DevV) : Prop := (x.Secs.length ≤ 2 ^ 21 ∧ ∀ y ∈ x.Secs, y.length ≤ 2 ^ 21) ∧ (x.Cache.length ≤ 2 ^ 21 ∧ ∀ y ∈ x.Cache, y.Len)
theorem DevV.In.len {x : DevV} {n : Nat} (h : x.In n) (hn : n ≤ 2 ^ 21) : x.Len := by
  obtain ⟨h0, h1⟩ := h
  exact ⟨⟨Nat.le_trans h0.1 hn, fun y hy => Nat.le_trans (h0.2 y hy) hn⟩, ⟨Nat.le_trans h1.1 hn, fun y hy => ((h1.2 y hy)).len hn⟩⟩
def DevV.mark (x : DevV) (k : Int) : DevV := ⟨markL (fun y k => marks 1 mkU y.length k) (fun y k => k + (1 * y.length : Nat)) x.Secs (k), markL WrV.markE WrV.farE x.Cache (farL (fun y k => k + (1 * y.length : Nat)) x.Secs (k)), x.Fuse, x.Down⟩
def DevV.far (x : DevV) (k : Int) : Int := farL WrV.farE x.Cache (farL (fun y k => k + (1 * y.length : Nat)) x.Secs (k))
theorem DevV.mark_Secs (x : DevV) (k : Int) : (x.mark k).Secs.length = x.Secs.length := by simp [DevV.mark, marks_length, markL_length]
theorem DevV.take_Secs {β : Type} (f : List UInt8 → β) (x : DevV) (k : Int) : ((x.mark k).Secs.map f).take x.Secs.length = (x.mark k).Secs.map f := by rw [← x.mark_Secs k, take_map]
theorem DevV.mark_Cache (x : DevV) (k : Int) : (x.mark k).Cache.length = x.Cache.length := by simp [DevV.mark, marks_length, markL_length]
theorem DevV.take_Cache {β : Type} (f : WrV → β) (x : DevV) (k : Int) : ((x.mark k).Cache.map f).take x.Cache.length = (x.mark k).Cache.map f := by rw [← x.mark_Cache k, take_map]
theorem DevV.far_le {x : DevV} (hx : x.Len) (k : Int) : k ≤ x.far k ∧ x.far k ≤ k + 8796095119360 := by
  obtain ⟨h0, h1⟩ := hx
  have w0 := farL_le (k := k) (c := 2097152) h0 (fun (y : List UInt8) (hy : y.length ≤ 2 ^ 21) (k : Int) => ⟨by show k ≤ k + ((1 * y.length : Nat) : Int); omega, by show k + ((1 * y.length : Nat) : Int) ≤ _; omega⟩)
  have w1 := farL_le (k := (farL (fun y k => k + (1 * y.length : Nat)) x.Secs (k))) (c := 2097153) h1 (fun y hy k => WrV.farE_le hy k)
  simp only [DevV.far]
  omega
def x_l_szDev : FnX := ⟨18, [.tmp 4],
  .seq (.reg [⟨none, some 2, 2, .box (.t 0)⟩,
   ⟨none, some 4, 4, .mv (.k (.one (.pv (.int .i64 0))))⟩])
 (.seq (.reg [⟨none, some 5, 5, .faddr (.t 2) 0⟩,
   ⟨none, some 6, 6, .load none (.t 5)⟩,
   ⟨none, some 7, 7, .mv (.t 1)⟩,
   ⟨none, some 8, 8, .call 108 [0, 0] [(.t 6), (.t 7)]⟩,
   ⟨none, some 1, 1, .mv (.t 8)⟩])
 (.seq (.seq (.reg [⟨none, some 9, 9, .mv (.t 1)⟩,
   ⟨none, some 10, 10, .bin .lss (.t 9) (.k (.one (.pv (.int .i64 0))))⟩])
 (.cond 10 (.seq (.reg [⟨none, some 4, 4, .mv (.k (.one (.pv (.int .i64 (-1)))))⟩])
 (.ret)) (.skip)))
 (.seq (.reg [⟨none, some 11, 11, .faddr (.t 2) 1⟩,
   ⟨none, some 12, 12, .load none (.t 11)⟩,
   ⟨none, some 13, 13, .mv (.t 1)⟩,
   ⟨none, some 14, 14, .call 109 [0, 0] [(.t 12), (.t 13)]⟩,
   ⟨none, some 1, 1, .mv (.t 14)⟩])
 (.seq (.seq (.reg [⟨none, some 15, 15, .mv (.t 1)⟩,
   ⟨none, some 16, 16, .bin .lss (.t 15) (.k (.one (.pv (.int .i64 0))))⟩])
 (.cond 16 (.seq (.reg [⟨none, some 4, 4, .mv (.k (.one (.pv (.int .i64 (-1)))))⟩])
 (.ret)) (.skip)))
 (.seq (.reg [⟨none, some 17, 17, .mv (.t 1)⟩,
   ⟨none, some 4, 4, .mv (.t 17)⟩])
 (.ret))))))⟩
abbrev C_l_szDev (Te : Nat → List AV → Res → Prop) : Prop := ∀ (x : DevV) (k : Int) (hx : x.In (2 ^ 48)) (hk : 0 ≤ k ∧ k ≤ 2 ^ 48), Te 63 [.agg (x.enc false), .one (iT k)] ⟨[.one (iT (szDev x k))], [(x.enc false), [iT k]]⟩
theorem r_l_szDev {Te : Nat → List AV → Res → Prop} (c_l_szByteSS : C_l_szByteSS Te) (c_l_szWrS : C_l_szWrS Te) : ∀ (x : DevV) (k : Int) (hx : x.In (2 ^ 48)) (hk : 0 ≤ k ∧ k ≤ 2 ^ 48), RunFn Te x_l_szDev [.agg (x.enc false), .one (iT k)] ⟨[.one (iT (szDev x k))], [(x.enc false), [iT k]]⟩ := by
  intro x k hx hk
  refine ⟨by simp -implicitDefEqProofs only [x_l_szDev, go_sem], ?_⟩
  obtain ⟨h0, h1⟩ := hx
  simp -implicitDefEqProofs (disch := omega) only [x_l_szDev, go_sem, IntWalk.i64_in]
  refine .of (c_l_szByteSS _ _ hk h0.1 h0.2) ?_
  simp -implicitDefEqProofs (disch := omega) only [go_sem, IntWalk.i64_in]
  refine ⟨fun q0 => ?_, fun q0 => ?_⟩
  · simp only [decide_eq_true_eq] at q0
    simp only [szDev, szAll, if_pos q0]
  · simp only [decide_eq_false_iff_not] at q0
    have k1 : 0 ≤ (szSl (fun y k => left (k - y.length)) x.Secs k) ∧ (szSl (fun y k => left (k - y.length)) x.Secs k) ≤ 2 ^ 48 := ⟨by omega, Int.le_trans ((Sane.sl (fun _ => Sane.left _) _) _ hk.1) hk.2⟩
    refine .of (c_l_szWrS _ _ k1 h1.1 h1.2) ?_
    simp -implicitDefEqProofs (disch := omega) only [go_sem, IntWalk.i64_in]
    refine ⟨fun q1 => ?_, fun q1 => ?_⟩
    · simp only [decide_eq_true_eq] at q1
      simp only [szDev, szAll, if_neg q0, if_pos q1]
    · simp only [decide_eq_false_iff_not] at q1
      have k2 : 0 ≤ (szSl szWr x.Cache (szSl (fun y k => left (k - y.length)) x.Secs k)) ∧ (szSl szWr x.Cache (szSl (fun y k => left (k - y.length)) x.Secs k)) ≤ 2 ^ 48 := ⟨by omega, Int.le_trans ((Sane.sl szWr_sane _) _ k1.1) k1.2⟩
      simp only [szDev, szAll, if_neg q0, if_neg q1]
def x_l_toDev : FnX := ⟨19, [.cell 2 (some 4)],
  .seq (.reg [⟨none, some 1, 1, .box (.t 0)⟩,
   ⟨none, some 2, 2, .alloc [.nils 1, .nils 2, .pv (.int .i64 0), .pv (.bool false)]⟩])
 (.seq (.reg [⟨none, some 3, 3, .alloc [.nils 1, .nils 2, .pv (.int .i64 0), .pv (.bool false)]⟩])
 (.seq (.reg [⟨none, some 4, 4, .faddr (.t 1) 0⟩,
   ⟨none, some 5, 5, .load none (.t 4)⟩,
   ⟨none, some 6, 6, .call 114 [0] [(.t 5)]⟩,
   ⟨none, some 7, 7, .faddr (.t 3) 0⟩,
   ⟨none, none, 100001, .store 1 (.t 7) (.t 6)⟩])
 (.seq (.reg [⟨none, some 8, 8, .faddr (.t 1) 1⟩,
   ⟨none, some 9, 9, .load none (.t 8)⟩,
   ⟨none, some 10, 10, .call 115 [0] [(.t 9)]⟩,
   ⟨none, some 11, 11, .faddr (.t 3) 1⟩,
   ⟨none, none, 100002, .store 1 (.t 11) (.t 10)⟩])
 (.seq (.reg [⟨none, some 12, 12, .faddr (.t 1) 2⟩,
   ⟨none, some 13, 13, .load none (.t 12)⟩,
   ⟨none, some 14, 14, .faddr (.t 3) 2⟩,
   ⟨none, none, 100003, .store 1 (.t 14) (.t 13)⟩])
 (.seq (.reg [⟨none, some 15, 15, .faddr (.t 1) 3⟩,
   ⟨none, some 16, 16, .load none (.t 15)⟩,
   ⟨none, some 17, 17, .faddr (.t 3) 3⟩,
   ⟨none, none, 100004, .store 1 (.t 17) (.t 16)⟩])
 (.seq (.reg [⟨none, some 18, 18, .load (some 4) (.t 3)⟩,
   ⟨none, none, 100005, .store 4 (.t 2) (.t 18)⟩])
 (.ret)))))))⟩
abbrev C_l_toDev (Te : Nat → List AV → Res → Prop) : Prop := ∀ (x : DevV) (hx : x.Len), Te 67 [.agg (x.enc false)] ⟨[.agg (x.enc true)], [(x.enc false)]⟩
theorem r_l_toDev {Te : Nat → List AV → Res → Prop} (c_l_toByteSS : C_l_toByteSS Te) (c_l_toWrS : C_l_toWrS Te) : ∀ (x : DevV) (hx : x.Len), RunFn Te x_l_toDev [.agg (x.enc false)] ⟨[.agg (x.enc true)], [(x.enc false)]⟩ := by
  intro x hx
  refine ⟨by simp -implicitDefEqProofs only [x_l_toDev, go_sem], ?_⟩
  obtain ⟨h0, h1⟩ := hx
  simp -implicitDefEqProofs only [x_l_toDev, go_sem]
  refine .of (c_l_toByteSS _ h0) ?_
  simp -implicitDefEqProofs only [go_sem]
  refine .of (c_l_toWrS _ h1) ?_
  simp -implicitDefEqProofs only [go_sem]
def x_l_eqDev : FnX := ⟨27, [.tmp 4],
  .seq (.reg [⟨none, some 2, 2, .box (.t 0)⟩,
   ⟨none, some 3, 3, .box (.t 1)⟩,
   ⟨none, some 4, 4, .mv (.k (.one (.pv (.bool false))))⟩])
 (.seq (.seq (.reg [⟨none, some 5, 5, .faddr (.t 2) 0⟩,
   ⟨none, some 6, 6, .load none (.t 5)⟩,
   ⟨none, some 7, 7, .faddr (.t 3) 0⟩,
   ⟨none, some 8, 8, .load none (.t 7)⟩,
   ⟨none, some 9, 9, .call 120 [0, 0] [(.t 6), (.t 8)]⟩,
   ⟨none, some 10, 10, .not (.t 9)⟩])
 (.cond 10 (.seq (.reg [⟨none, some 4, 4, .mv (.k (.one (.pv (.bool false))))⟩])
 (.ret)) (.skip)))
 (.seq (.seq (.reg [⟨none, some 11, 11, .faddr (.t 2) 1⟩,
   ⟨none, some 12, 12, .load none (.t 11)⟩,
   ⟨none, some 13, 13, .faddr (.t 3) 1⟩,
   ⟨none, some 14, 14, .load none (.t 13)⟩,
   ⟨none, some 15, 15, .call 121 [0, 0] [(.t 12), (.t 14)]⟩,
   ⟨none, some 16, 16, .not (.t 15)⟩])
 (.cond 16 (.seq (.reg [⟨none, some 4, 4, .mv (.k (.one (.pv (.bool false))))⟩])
 (.ret)) (.skip)))
 (.seq (.seq (.reg [⟨none, some 17, 17, .faddr (.t 2) 2⟩,
   ⟨none, some 18, 18, .load none (.t 17)⟩,
   ⟨none, some 19, 19, .faddr (.t 3) 2⟩,
   ⟨none, some 20, 20, .load none (.t 19)⟩,
   ⟨none, some 21, 21, .bin .neq (.t 18) (.t 20)⟩])
 (.cond 21 (.seq (.reg [⟨none, some 4, 4, .mv (.k (.one (.pv (.bool false))))⟩])
 (.ret)) (.skip)))
 (.seq (.seq (.reg [⟨none, some 22, 22, .faddr (.t 2) 3⟩,
   ⟨none, some 23, 23, .load none (.t 22)⟩,
   ⟨none, some 24, 24, .faddr (.t 3) 3⟩,
   ⟨none, some 25, 25, .load none (.t 24)⟩,
   ⟨none, some 26, 26, .beq true (.t 23) (.t 25)⟩])
 (.cond 26 (.seq (.reg [⟨none, some 4, 4, .mv (.k (.one (.pv (.bool false))))⟩])
 (.ret)) (.skip)))
 (.seq (.reg [⟨none, some 4, 4, .mv (.k (.one (.pv (.bool true))))⟩])
 (.ret))))))⟩
abbrev C_l_eqDev (Te : Nat → List AV → Res → Prop) : Prop := ∀ (x y : DevV) (hx : x.Len), Te 72 [.agg (x.enc false), .agg (y.enc false)] ⟨[.one (bT (decide (x = y)))], [(x.enc false), (y.enc false)]⟩
theorem r_l_eqDev {Te : Nat → List AV → Res → Prop} (c_l_eqByteSS : C_l_eqByteSS Te) (c_l_eqWrS : C_l_eqWrS Te) : ∀ (x y : DevV) (hx : x.Len), RunFn Te x_l_eqDev [.agg (x.enc false), .agg (y.enc false)] ⟨[.one (bT (decide (x = y)))], [(x.enc false), (y.enc false)]⟩ := by
  intro x y hx
  refine ⟨by simp -implicitDefEqProofs only [x_l_eqDev, go_sem], ?_⟩
  obtain ⟨h0, h1⟩ := hx
  have key : (x = y) ↔ x.Secs = y.Secs ∧ x.Cache = y.Cache ∧ x.Fuse = y.Fuse ∧ x.Down = y.Down := by cases x; cases y; simp
  simp only [key]
  clear key
  simp -implicitDefEqProofs only [x_l_eqDev, go_sem]
  refine .of (c_l_eqByteSS _ _ h0) ?_
  simp -implicitDefEqProofs only [go_sem]
  refine ⟨fun q => ?_, fun q => ?_⟩
  · have n0 : ¬ (x.Secs = y.Secs) := by simpa using q
    simp only [n0, false_and, and_false, true_and, decide_false]
  have e0 : x.Secs = y.Secs := by simpa using q
  clear q
  refine .of (c_l_eqWrS _ _ h1) ?_
  simp -implicitDefEqProofs only [go_sem]
  refine ⟨fun q => ?_, fun q => ?_⟩
  · have n1 : ¬ (x.Cache = y.Cache) := by simpa using q
    simp only [e0, n1, false_and, and_false, true_and, decide_false]
  have e1 : x.Cache = y.Cache := by simpa using q
  clear q
  refine ⟨fun q => ?_, fun q => ?_⟩
  · have n2 : ¬ (x.Fuse = y.Fuse) := by simpa using q
    simp only [e0, e1, n2, false_and, and_false, true_and, decide_false]
  have e2 : x.Fuse = y.Fuse := by simpa using q
  clear q
  refine ⟨fun q => ?_, fun q => ?_⟩
  · have n3 : ¬ (x.Down = y.Down) := by simpa using q
    simp only [e0, e1, e2, n3, false_and, and_false, true_and, decide_false]
  have e3 : x.Down = y.Down := by simpa using q
  clear q
  simp only [e0, e1, e2, e3, true_and, and_true, decide_true]
end Go.X

