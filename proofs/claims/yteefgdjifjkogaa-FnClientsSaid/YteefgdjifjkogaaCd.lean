/- Texts: XOpen CA CC CD CE CEa CEb CF CK CL CM CN CO. -/
import Derived.Test.YteefgdjifjkogaaCc
import Derived.SizedLaws
import Derived.Deep.Slices
import Derived.ChangeArms
import Derived.WideShapes
import Derived.Below
set_option linter.unusedVariables false
set_option linter.unusedSimpArgs false
/- How what comes in reads; how a law is asked. -/
namespace Go.X
open Go.WideShapes Go.RowKit
def Old (w : World) : Nat → Prop := fun b => b < w.heap.size
def RdL (S : Nat → Prop) (w : World) (ts : List T) (vs : List Value) : Prop := ts.length = vs.length ∧ ∀ (k : Nat) (t : T) (v : Value), ts[k]? = some t → vs[k]? = some v → Rd S w t v
theorem RdL.app {S : Nat → Prop} {w : World} {a b : List T} {vs us : List Value} (h : RdL S w a vs) (h' : RdL S w b us) : RdL S w (a ++ b) (vs ++ us) :=
  ⟨by simp [h.1, h'.1], fun k t v ht hv => by
    by_cases hk : k < a.length
    · rw [List.getElem?_append_left hk] at ht
      rw [List.getElem?_append_left (by have := h.1; omega)] at hv
      exact h.2 k t v ht hv
    · rw [List.getElem?_append_right (by omega)] at ht
      rw [List.getElem?_append_right (by have := h.1; omega), ← h.1] at hv
      exact h'.2 _ t v ht hv⟩
theorem RdL.one {S : Nat → Prop} {w : World} {t : T} {v : Value} (h : Rd S w t v) : RdL S w [t] [v] := ⟨rfl, fun k t' v' ht hv => by
  cases k with
  | zero => simp at ht hv; subst ht; subst hv; exact h
  | succ k => simp at ht⟩
/-- Every reading of type t is a value that is told so and meets p. -/
def OpT {α : Type} (P : Program) (t : TypeId) (e : α → List T) (p : α → Prop) : Prop :=
  ∀ (H : Type) (enc : TypeId × Value → H) (w : World) (fuel : Nat) (cs : List Value) (x : DataW H × List MemPlace), DataW.trod enc P w 0 (fun _ => true) true fuel t cs = some x →
    (∀ n ∈ x.1.weights P t, n ≤ 140737488351232) → ∃ a, p a ∧ RdL (Old w) w (e a) cs
def FT {α : Type} (P : Program) (fs : List Field) (off z : Nat) (e : α → List T) (p : α → Prop) : Prop :=
  ∀ (H : Type) (enc : TypeId × Value → H) (w : World) (n : Nat) (cs : List Value) (xs : List (DataW H × List MemPlace)),
    (∀ (i : Nat) (f : Field), fs[i]? = some f → DataW.trod enc P w 0 (fun _ => true) true n f.type ((cs.drop f.offset).take (P.cellsOf f.type)) = xs[i]?) → xs.length = fs.length →
    (∀ m ∈ DataW.weightsEach P (fs.map (·.type)) (xs.map (·.1)), m ≤ 140737488351232) → cs.length = off + z → ∃ a, p a ∧ RdL (Old w) w (e a) (cs.drop off)
def InI (k : IntKind) (a : Int) : Prop := (Lit.int k a).wf = true
section
variable {P : Program} {t : TypeId}
theorem OpT.int {k : IntKind} (ht : P.underlying t = some (.int k)) : OpT P t (fun a => [.pv (.int k a)]) (InI k) := fun H enc w fuel cs x h _ => by
  obtain ⟨n, rfl, _, hw⟩ := DataW.trod_int ht h
  exact ⟨n, hw, .one (.pv rfl)⟩
theorem OpT.byte (ht : P.underlying t = some (.int .u8)) : OpT P t (fun a : UInt8 => [.pv (.int .u8 a.toNat)]) (fun _ => True) := fun H enc w fuel cs x h _ => by
  obtain ⟨n, rfl, _, hw⟩ := DataW.trod_int ht h
  have hn : 0 ≤ n ∧ n ≤ 255 := by
    have hw' := hw
    simp only [Lit.wf, Bool.and_eq_true, decide_eq_true_eq] at hw'
    exact hw'
  refine ⟨UInt8.ofNat n.toNat, trivial, ?_⟩
  have e : ((UInt8.ofNat n.toNat).toNat : Int) = n := by rw [UInt8.toNat_ofNat']; omega
  show RdL (Old w) w [.pv (.int .u8 ((UInt8.ofNat n.toNat).toNat : Int))] _
  rw [e]
  exact .one (.pv rfl)
theorem OpT.bool (ht : P.underlying t = some .bool) : OpT P t (fun a => [.pv (.bool a)]) (fun _ => True) := fun H enc w fuel cs x h _ => by
  obtain ⟨n, rfl, _⟩ := DataW.trod_bool ht h
  exact ⟨n, trivial, .one (.pv rfl)⟩
theorem OpT.string (ht : P.underlying t = some .string) : OpT P t (fun a => [.pv (.string a)]) (fun a => a.size ≤ 140737488351232) := fun H enc w fuel cs x h hw => by
  obtain ⟨s, rfl, rfl, hs⟩ := DataW.trod_string ht h
  refine ⟨s, ?_, .one (.pv rfl)⟩
  have := hw s.data.toList.length (by simp [DataW.weights])
  simpa using this
theorem old_of_cell {w : World} {ad : Addr} {v : Value} (h : w.cell? ad = some v) : ad.block < w.heap.size := by
  unfold World.cell? at h
  cases hb : w.heap[ad.block]? with
  | none => simp [hb] at h
  | some _ => exact (Array.getElem?_eq_some_iff.1 hb).1
theorem mem_allW {H : Type} {e : TypeId} {d : DataW H} {n : Nat} (hn : n ∈ d.weights P e) : ∀ {l : List (DataW H)}, d ∈ l → n ∈ DataW.weightsAll P e l
  | [], h => by cases h
  | y :: l, h => by
    simp only [DataW.weightsAll, List.mem_append]
    rcases List.mem_cons.1 h with rfl | h
    · exact .inl hn
    · exact .inr (mem_allW hn h)
theorem OpT.slice {α : Type} {e : TypeId} {en : α → List T} {p : α → Prop} (z B : Nat) (ht : P.underlying t = some (.slice e)) (hc : P.cellsOf e = z) (hB : P.bytesOf e = B) (h : OpT P e en p) :
    OpT P t (fun l : List α => [.sl false z () (l.map en)]) (fun l => l.length * B ≤ 140737488351232 ∧ ∀ a ∈ l, p a) := fun H enc w fuel cs x hx hw => by
  rcases Deep.open_slice ht hx with ⟨rfl, rfl⟩ | ⟨ad, len, cap, m, n, D, Pl, rfl, _, hl, hm, hmm, rfl, hel⟩
  · refine ⟨[], ⟨by simp, fun _ h => by cases h⟩, .one ?_⟩
    exact Rd.sl (rows := []) (fun _ _ => undef) (Nat.le_refl _) (by simp [maxLen]) (fun r hr => by cases hr) (fun i r j t hr => by simp at hr) (fun i r j t hr => by simp at hr)
  · simp only [if_true] at hmm
    replace hmm := hmm.symm
    subst hmm
    have hel' : ∀ i, i < len → ∃ a, p a ∧ ∃ c : List Value, c.length = z ∧ RdL (Old w) w (en a) c ∧ ∀ j u, c[j]? = some u → w.cell? (ad.add (i * z + j)) = some u := fun i hi => by
      obtain ⟨c, h1, h2⟩ := hel i (by omega)
      have hww : ∀ k ∈ (D i).weights P e, k ≤ 140737488351232 := fun k hk => hw k (by
        simp only [DataW.weights, ht, List.mem_cons, List.mem_append]
        exact .inr (.inl (mem_allW hk (List.mem_map.2 ⟨i, by simpa using hi, rfl⟩))))
      obtain ⟨a, hpa, ha⟩ := h H enc w n c _ h2 hww
      obtain ⟨_, hlen, hcell⟩ := World.cells?_some h1
      refine ⟨a, hpa, c, hlen.trans hc, ha, fun j u hu => ?_⟩
      have hj : j < c.length := (List.getElem?_eq_some_iff.1 hu).1
      have := hcell j (by omega)
      rw [hu, Deep.add_add, hc] at this
      exact this
    have : ∃ l : List α, l.length = len ∧ ∀ i a, l[i]? = some a → p a ∧ ∃ c : List Value, c.length = z ∧ RdL (Old w) w (en a) c ∧ ∀ j u, c[j]? = some u → w.cell? (ad.add (i * z + j)) = some u := by
      clear hx hw hel hl
      induction len with
      | zero => exact ⟨[], rfl, fun i a h => by simp at h⟩
      | succ len ih =>
        obtain ⟨l, hl, hh⟩ := ih (fun i hi => hel' i (by omega))
        obtain ⟨a, ha⟩ := hel' len (by omega)
        refine ⟨l ++ [a], by simp [hl], fun i b hb => ?_⟩
        by_cases hi : i < l.length
        · exact hh i b (by rwa [List.getElem?_append_left hi] at hb)
        · have hi' : i = len := by
            have := (List.getElem?_eq_some_iff.1 hb).1
            simp at this
            omega
          subst hi'
          rw [List.getElem?_append_right (by omega), hl] at hb
          simp at hb
          subst hb
          exact ha
    obtain ⟨l, hll, hh⟩ := this
    have hsz : len * B ≤ 140737488351232 := by
      have z := hw ((((List.range len).map D).length + ((List.range (cap - len)).map fun j => D (len + j)).length) * P.bytesOf e) (by simp [DataW.weights, ht])
      rw [hB] at z
      simp only [List.length_map, List.length_range] at z
      exact Nat.le_trans (Nat.mul_le_mul_right _ (by omega)) z
    refine ⟨l, ⟨by rw [hll]; exact hsz, fun a ha => ?_⟩, .one ?_⟩
    · obtain ⟨i, hi, rfl⟩ := List.mem_iff_getElem.1 ha
      exact (hh i _ (List.getElem?_eq_getElem hi)).1
    · have key : ∀ i r j t, (l.map en)[i]? = some r → r[j]? = some t → w.cell? (ad.add (i * z + j)) = some ((w.cell? (ad.add (i * z + j))).getD undef) ∧ Rd (Old w) w t ((w.cell? (ad.add (i * z + j))).getD undef) := fun i r j t hr hj => by
        rw [List.getElem?_map] at hr
        cases hi : l[i]? with
        | none => simp [hi] at hr
        | some a =>
          simp [hi] at hr
          subst hr
          obtain ⟨_, c, h1, h2, h3⟩ := hh i a hi
          have hjl : j < c.length := by rw [← h2.1]; exact (List.getElem?_eq_some_iff.1 hj).1
          have h4 := h3 j c[j] (List.getElem?_eq_getElem hjl)
          rw [h4]
          exact ⟨rfl, h2.2 j t _ hj (List.getElem?_eq_getElem hjl)⟩
      have := Rd.sl (S := Old w) (w := w) (z := z) (cap := cap) (a := some ad) (rows := l.map en) (fun i j => (w.cell? (ad.add (i * z + j))).getD undef) (by simp; omega) hm (fun r hr => by
        obtain ⟨a, ha, rfl⟩ := List.mem_map.1 hr
        obtain ⟨i, hi, rfl⟩ := List.mem_iff_getElem.1 ha
        obtain ⟨_, c, h1, h2, h3⟩ := hh i _ (List.getElem?_eq_getElem hi)
        rw [h2.1, h1]) (fun i r j t hr hj => by
        obtain ⟨h1, h2⟩ := key i r j t hr hj
        refine ⟨ad, rfl, ?_, h1⟩
        have := old_of_cell h1
        rwa [add_block] at this) (fun i r j t hr hj => (key i r j t hr hj).2)
      rw [List.length_map, hll] at this
      exact this
theorem FT.one {α : Type} {e : α → List T} {p : α → Prop} {f : Field} {off z : Nat} (ho : f.offset = off) (hc : P.cellsOf f.type = z) (h : OpT P f.type e p) : FT P [f] off z e p := fun H enc w n cs xs hx hl hw hlen => by
  match xs, hl with
  | [x], _ =>
    have h0 := hx 0 f rfl
    rw [ho, hc, List.take_of_length_le (by rw [List.length_drop]; omega)] at h0
    exact h H enc w n _ x (by simpa using h0) (fun m hm => hw m (by simp only [List.map_cons, List.map_nil, DataW.weightsEach, List.append_nil]; exact hm))
theorem FT.cons {α β : Type} {e : α → List T} {e' : β → List T} {p : α → Prop} {p' : β → Prop} {f : Field} {fs : List Field} {off z z' : Nat} (ho : f.offset = off) (hc : P.cellsOf f.type = z) (h : OpT P f.type e p) (h' : FT P fs (off + z) z' e' p') :
    FT P (f :: fs) off (z + z') (fun a : α × β => e a.1 ++ e' a.2) (fun a => p a.1 ∧ p' a.2) := fun H enc w n cs xs hx hl hw hlen => by
  match xs, hl with
  | x :: xs, hl =>
    have h0 := hx 0 f rfl
    rw [ho, hc] at h0
    obtain ⟨a, hpa, ha⟩ := h H enc w n _ x (by simpa using h0) (fun m hm => hw m (by simp only [List.map_cons, DataW.weightsEach, List.mem_append]; exact .inl hm))
    obtain ⟨b, hpb, hb⟩ := h' H enc w n cs xs (fun i g hg => by simpa using hx (i + 1) g (by simpa using hg)) (by simpa using hl)
      (fun m hm => hw m (by simp only [List.map_cons, DataW.weightsEach, List.mem_append]; exact .inr hm)) (by omega)
    refine ⟨(a, b), ⟨hpa, hpb⟩, ?_⟩
    have := ha.app hb
    rwa [← List.drop_drop, List.take_append_drop] at this
theorem OpT.struct {α β : Type} {e : α → List T} {e' : β → List T} {p : α → Prop} {q : β → Prop} {fs : Array Field} {z : Nat} (ht : P.underlying t = some (.struct fs)) (hc : P.cellsOf t = z) (h : FT P fs.toList 0 z e p) (g : α → β) (hg : ∀ a, e' (g a) = e a) (hq : ∀ a, p a → q (g a)) :
    OpT P t e' q := fun H enc w fuel cs x hx hw => by
  obtain ⟨xs, n, _, rfl, hl, hlen, hf⟩ := DataW.trod_struct ht hx
  obtain ⟨a, hpa, ha⟩ := h H enc w n cs xs (fun i f hi => hf i f (by simpa using hi)) (by simpa using hlen) (fun m hm => hw m (by simpa only [DataW.weights, ht] using hm)) (by omega)
  exact ⟨g a, hq a hpa, by rw [hg]; simpa using ha⟩
theorem OpT.weaken {α : Type} {e : α → List T} {p q : α → Prop} (h : OpT P t e p) (hq : ∀ a, p a → q a) : OpT P t e q := fun H enc w fuel cs x hx hw => by
  obtain ⟨a, hp, ha⟩ := h H enc w fuel cs x hx hw
  exact ⟨a, hq a hp, ha⟩
/-- A parameter's value. -/
theorem OpT.param {α : Type} {e : α → List T} {p : α → Prop} (h : OpT P t e p) {H : Type} {enc : TypeId × Value → H} {W : World} {v : Value} {x : DataW H} {ps : List MemPlace} {ts : List TypeId} {ds : List (DataW H)} (hT : DataW.Trod enc P W 0 (fun _ => true) true t v x ps)
    (hsz : (DataW.weightsEach P ts ds).all (· ≤ reachBytes) = true) (j : Nat) (hj : ts[j]? = some t) (hd : ds[j]? = some x) : ∃ a, p a ∧ RdL (Old W) W (e a) v.cells.toList := by
  obtain ⟨fuel, hf⟩ := hT
  exact h H enc W fuel _ _ hf (fun n hn => by
    have := List.all_eq_true.1 hsz _ (DataW.weights_mem_each hj hd n hn)
    exact of_decide_eq_true this)
theorem lt_of_trod {H : Type} {enc : TypeId × Value → H} {W : World} {v : Value} {x : DataW H} {ps : List MemPlace} (h : DataW.Trod enc P W 0 (fun _ => true) true t v x ps) : ∀ y ∈ ps, y.block < W.heap.size := by
  obtain ⟨m, hm⟩ := h
  exact DataW.trod_lt m _ _ _ hm
/-- An argument, and how it reads. -/
def RdA (w : World) : AV → Value → Prop
  | .one t, v => Rd (Old w) w t v
  | .agg ts, v => ∃ vs : List Value, v = .agg vs.toArray ∧ RdL (Old w) w ts vs
  | .ptr _, _ => False
def RdAs (w : World) : List AV → List Value → Prop
  | [], [] => True
  | a :: as, v :: vs => RdA w a v ∧ RdAs w as vs
  | _, _ => False
theorem rdL_ghost {w : World} : ∀ {ts : List T} {vs : List Value}, RdL (Old w) w ts vs → ∃ gs : List G, gs.map er = ts ∧ gs.map hdr = vs ∧ ∀ t ∈ gs, Rp (Old w) w t ∧ ∀ b, cnt b t = 0
  | [], [], _ => ⟨[], rfl, rfl, fun t h => by cases h⟩
  | t :: ts, v :: vs, h => by
    obtain ⟨gs, e1, e2, e3⟩ := rdL_ghost (ts := ts) (vs := vs) ⟨by simpa using h.1, fun k t v ht hv => h.2 (k + 1) t v (by simpa using ht) (by simpa using hv)⟩
    obtain ⟨f1, f2, f3⟩ := gro_ok (h.2 0 t v rfl rfl)
    exact ⟨gro t v :: gs, by simp [gro_er, e1], by simp [f1, e2], fun t' ht' => by
      rcases List.mem_cons.1 ht' with rfl | ht'
      · exact ⟨f2, f3⟩
      · exact e3 t' ht'⟩
  | [], _ :: _, h => by simp [RdL] at h
  | _ :: _, [], h => by simp [RdL] at h
theorem rdAs_ghost {w : World} : ∀ {as : List AV} {vs : List Value}, RdAs w as vs → ∃ gs : List GA, gs.map GA.er = as ∧ gs.map GA.val = vs ∧ (∀ x ∈ gs, x.ok (Old w) w ∧ noPtr x) ∧ ∀ b, treeCnt b gs + ptrCnt b gs = 0
  | [], [], _ => ⟨[], rfl, rfl, fun x h => (by cases h), fun b => rfl⟩
  | a :: as, v :: vs, h => by
    obtain ⟨gs, e1, e2, e3, e4⟩ := rdAs_ghost h.2
    have h1 := h.1
    cases a with
    | one t =>
      obtain ⟨f1, f2, f3⟩ := gro_ok (show Rd (Old w) w t v from h1)
      refine ⟨.one (gro t v) :: gs, by simp [GA.er, gro_er, e1], by simp [GA.val, f1, e2], fun x hx => ?_, fun b => ?_⟩
      · rcases List.mem_cons.1 hx with rfl | hx
        · exact ⟨⟨fun t ht => by simp only [GA.ts, List.mem_singleton] at ht; subst ht; exact f2, fun A ts e => by cases e⟩, trivial⟩
        · exact e3 x hx
      · have := e4 b
        have := f3 b
        simp only [treeCnt, ptrCnt, List.flatMap_cons, cntL_append, GA.ts, GA.pb, cntL] at *
        omega
    | agg ts =>
      obtain ⟨us, rfl, hR⟩ := h1
      obtain ⟨ys, f1, f2, f3⟩ := rdL_ghost hR
      refine ⟨.agg ys :: gs, by simp [GA.er, f1, e1], by simp [GA.val, f2, e2], fun x hx => ?_, fun b => ?_⟩
      · rcases List.mem_cons.1 hx with rfl | hx
        · exact ⟨⟨fun t ht => (f3 t ht).1, fun A ts e => by cases e⟩, trivial⟩
        · exact e3 x hx
      · have h4 := e4 b
        have z : cntL b ys = 0 := by
          have : ∀ l : List G, (∀ t ∈ l, cnt b t = 0) → cntL b l = 0 := fun l => by
            induction l with
            | nil => intro _; rfl
            | cons t l ih => intro h; simp [cntL, h t (List.mem_cons_self ..), ih (fun t ht => h t (List.mem_cons_of_mem _ ht))]
          exact this _ (fun t ht => (f3 t ht).2 b)
        simp only [treeCnt, ptrCnt, List.flatMap_cons, cntL_append, GA.ts, GA.pb] at *
        omega
    | ptr => exact h1.elim
  | [], _ :: _, h => h.elim
  | _ :: _, [], h => h.elim
/-- A law is asked. -/
theorem asked {KP : Kept} {f : Nat} {as : List AV} {args : Array Value} {w : World} {u : Value} {os : List (List T)} (hT : Tells P KP f as ⟨[.one (.pv u)], os⟩) (ha : RdAs w as args.toList) (hK : KP.ok (Old w) w) : Calls P f args w fun e w' => e = .returned u ∧ Below w.heap.size w w' := by
  obtain ⟨gs, e1, e2, e3, e4⟩ := rdAs_ghost ha
  have := hT (Old w) gs w e1 (fun b h => h) (fun x hx => (e3 x hx).1) (fun b => by have := e4 b; omega) (fun b hb => by have := e4 b; omega) hK
  rw [e2] at this
  refine this.mono ?_
  rintro e w1 ⟨rs, os', rfl, er1, er2, hrs, hos, hOut, hc1, hc2, hF, _⟩
  have hrs' : rs = [.one (.pv u)] := by
    cases rs with
    | nil => simp at er1
    | cons y ys =>
      cases ys with
      | cons => simp at er1
      | nil =>
        simp at er1
        cases y with
        | one t =>
          simp only [GA.er, AV.one.injEq] at er1
          cases t <;> simp_all [er]
        | _ => simp [GA.er] at er1
  subst hrs'
  exact ⟨rfl, ⟨hF.os, hF.tape, hF.output, hF.size, fun b hb => hF.block b hb (e4 b)⟩⟩
end
end Go.X

/- A -/
namespace Go.X
set_option maxRecDepth 100000
set_option maxHeartbeats 8000000
abbrev iT (a : Int) : T := .pv (.int .i64 a)
abbrev bT (a : Bool) : T := .pv (.bool a)
abbrev sT (s : ByteArray) : T := .pv (.string s)
abbrev uT (a : UInt8) : T := .pv (.int .u8 a.toNat)
abbrev slT {α : Type} (o : Bool) (z : Nat) (f : α → List T) (l : List α) : T := .sl o z () (l.map f)
abbrev bR (a : Bool) : List T := [bT a]
abbrev sR (a : ByteArray) : List T := [sT a]
abbrev iR (a : Int) : List T := [iT a]
abbrev uR (a : UInt8) : List T := [uT a]
/-- What is left of a measure. -/
def left (a : Int) : Int := if a < 0 then -1 else a
def Sane (f : Int → Int) : Prop := ∀ k, 0 ≤ k → f k ≤ k
def SaneL (fs : List (Int → Int)) : Prop := ∀ f ∈ fs, Sane f
theorem SaneL.nil : SaneL [] := fun _ h => by cases h
theorem SaneL.cons {f : Int → Int} {fs : List (Int → Int)} (h : Sane f) (t : SaneL fs) : SaneL (f :: fs) := fun g hg => by
  rcases List.mem_cons.1 hg with rfl | hg
  · exact h
  · exact t _ hg
/-- One measure behind the other, as long as something is left. -/
def szAll : List (Int → Int) → Int → Int
  | [], k => k
  | f :: fs, k => if f k < 0 then -1 else szAll fs (f k)
def ExL (n : Int) : List (Int → Int) → Prop
  | [] => True
  | f :: fs => (∃ j, 0 ≤ j ∧ j ≤ n ∧ 0 ≤ f j) ∧ ExL n fs
theorem Sane.all {fs : List (Int → Int)} (h : SaneL fs) : Sane (szAll fs) := by
  induction fs with
  | nil => intro k hk; exact Int.le_refl _
  | cons f fs ih =>
    intro k hk
    have h1 := h f (List.mem_cons_self ..) k hk
    simp only [szAll]
    split
    · omega
    · have := ih (fun g hg => h g (List.mem_cons_of_mem _ hg)) (f k) (by omega)
      omega
theorem szAll_ex {fs : List (Int → Int)} (h : SaneL fs) {k n : Int} (hk : 0 ≤ k) (hn : k ≤ n) (h0 : 0 ≤ szAll fs k) : ExL n fs := by
  induction fs generalizing k with
  | nil => trivial
  | cons f fs ih =>
    have h1 := h f (List.mem_cons_self ..) k hk
    simp only [szAll] at h0
    split at h0
    · omega
    · exact ⟨⟨k, hk, hn, by omega⟩, ih (fun g hg => h g (List.mem_cons_of_mem _ hg)) (k := f k) (by omega) (by omega) h0⟩
theorem Sane.sub (n : Nat) : Sane (fun k => k - n) := fun k hk => by show k - (n : Int) ≤ k; omega
theorem Sane.left (n : Nat) : Sane (fun k => left (k - n)) := fun k hk => by
  show Go.X.left (k - (n : Int)) ≤ k
  unfold Go.X.left
  split <;> omega
theorem left_nn {a : Int} (h : ¬ left a < 0) : left a = a := by
  unfold left at h ⊢
  split at h
  · omega
  · rw [if_neg (by assumption)]
theorem left_in {k : Int} {n : Nat} (h : 0 ≤ left (k - n)) : (n : Int) ≤ k := by
  unfold left at h
  split at h <;> omega
/-- What is left of a measure behind a row of things. -/
def szSl {α : Type} (f : α → Int → Int) (l : List α) (k : Int) : Int := szAll ((fun k => k - l.length) :: l.map f) k
theorem Sane.sl {α : Type} {f : α → Int → Int} (hf : ∀ a, Sane (f a)) (l : List α) : Sane (szSl f l) := by
  refine Sane.all (.cons (.sub _) fun g hg => ?_)
  obtain ⟨a, _, rfl⟩ := List.mem_map.1 hg
  exact hf a
theorem ExL_map {α : Type} {f : α → Int → Int} {n : Int} : ∀ {l : List α}, ExL n (l.map f) → ∀ a ∈ l, ∃ j, 0 ≤ j ∧ j ≤ n ∧ 0 ≤ f a j
  | [], _, a, h => by cases h
  | b :: l, ⟨h1, h2⟩, a, h => by
    rcases List.mem_cons.1 h with rfl | h
    · exact h1
    · exact ExL_map h2 a h
theorem szSl_in {α : Type} {f : α → Int → Int} {P : α → Prop} {n : Nat} (hf : ∀ a, Sane (f a)) (hP : ∀ a j, 0 ≤ j → j ≤ (n : Int) → 0 ≤ f a j → P a) {l : List α} {k : Int} (hk : 0 ≤ k) (hn : k ≤ n) (h : 0 ≤ szSl f l k) : l.length ≤ n ∧ ∀ a ∈ l, P a := by
  obtain ⟨⟨j, h1, h2, h3⟩, h4⟩ := szAll_ex (.cons (.sub _) fun g hg => by obtain ⟨a, _, rfl⟩ := List.mem_map.1 hg; exact hf a) hk hn h
  refine ⟨by have h5 : (0 : Int) ≤ j - (l.length : Nat) := h3; omega, fun a ha => ?_⟩
  obtain ⟨j, q1, q2, q3⟩ := ExL_map h4 a ha
  exact hP a j q1 q2 q3
def szStr (s : ByteArray) (k : Int) : Int := left (k - s.size)
theorem szStr_sane (s : ByteArray) : Sane (szStr s) := Sane.left _
theorem fill_get {α : Type} (f : α → List T) (l : List α) (z : List T) {i : Nat} (hi : i < l.length) : ((l.take i).map f ++ List.replicate (l.length - i) z)[i]? = some z := by
  rw [List.getElem?_append_right (by simp; omega), List.getElem?_replicate, if_pos (by simp; omega)]
theorem fill_set {α : Type} (f : α → List T) (l : List α) (z : List T) {i : Nat} (hi : i < l.length) : ((l.take i).map f ++ List.replicate (l.length - i) z).set i (f l[i]) = (l.take (i + 1)).map f ++ List.replicate (l.length - (i + 1)) z := by
  rw [List.set_append_right _ _ (by simp; omega), List.take_succ_eq_append_getElem hi, List.map_append, List.append_assoc]
  congr 1
  have e : l.length - i = (l.length - (i + 1)) + 1 := by omega
  rw [e, List.replicate_succ]
  have : i - ((l.take i).map f).length = 0 := by simp; omega
  rw [this]
  rfl
theorem fill_len {α : Type} (f : α → List T) (l : List α) (z : List T) {i : Nat} (hi : i ≤ l.length) : ((l.take i).map f ++ List.replicate (l.length - i) z).length = l.length := by simp; omega
theorem fill_end {α : Type} (f : α → List T) (l : List α) (z : List T) : (l.take l.length).map f ++ List.replicate (l.length - l.length) z = l.map f := by simp
/-- As far as i they are the same. -/
theorem same_step {α : Type} {l m : List α} {i : Nat} (hl : i < l.length) (hm : i < m.length) (h : l.take i = m.take i) (he : l[i] = m[i]) : l.take (i + 1) = m.take (i + 1) := by
  rw [List.take_succ_eq_append_getElem hl, List.take_succ_eq_append_getElem hm, h, he]
theorem same_end {α : Type} {l m : List α} {i : Nat} (hl : l.length ≤ i) (hm : m.length ≤ i) (h : l.take i = m.take i) : l = m := by
  rwa [List.take_of_length_le hl, List.take_of_length_le hm] at h
theorem all_step {α : Type} {l : List α} {p : α → Bool} {i : Nat} (hi : i < l.length) (h : (l.take i).all p = true) (h2 : p l[i] = true) : (l.take (i + 1)).all p = true := by
  rw [List.take_succ_eq_append_getElem hi, List.all_append, h, List.all_cons, h2]; rfl
theorem all_not {α : Type} {l : List α} {p : α → Bool} {i : Nat} (hi : i < l.length) (h2 : p l[i] = false) : l.all p = false := by
  rw [List.all_eq_false]; exact ⟨l[i], List.getElem_mem hi, by simp [h2]⟩
theorem all_end {α : Type} {l : List α} {p : α → Bool} {i : Nat} (hi : l.length ≤ i) (h : (l.take i).all p = true) : l.all p = true := by
  rwa [List.take_of_length_le hi] at h
/-- The marks of n things from k on, w to each. -/
def marks {α : Type} (w : Nat) (mk : Int → α) (n : Nat) (k : Int) : List α := (List.range n).map fun i => mk (k + (w * i : Nat))
theorem marks_length {α : Type} (w : Nat) (mk : Int → α) (n : Nat) (k : Int) : (marks w mk n k).length = n := by simp [marks]
theorem marks_succ {α : Type} (w : Nat) (mk : Int → α) (n : Nat) (k : Int) : marks w mk (n + 1) k = marks w mk n k ++ [mk (k + (w * n : Nat))] := by simp [marks, List.range_succ]
theorem marks_get {α : Type} (w : Nat) (mk : Int → α) {n i : Nat} (k : Int) (h : i < n) : (marks w mk n k)[i]? = some (mk (k + (w * i : Nat))) := by simp [marks, h]
theorem mark_get {α : Type} (f : α → List T) (w : Nat) (mk : Int → α) (l : List α) (k : Int) {i : Nat} (hi : i < l.length) : ((marks w mk i k).map f ++ (l.drop i).map f)[i]? = some (f l[i]) := by
  rw [List.getElem?_append_right (by simp [marks_length]), List.length_map, marks_length, Nat.sub_self, List.getElem?_map, List.getElem?_drop]
  simp [hi]
theorem mark_set {α : Type} (f : α → List T) (w : Nat) (mk : Int → α) (l : List α) (k : Int) {i : Nat} (hi : i < l.length) : ((marks w mk i k).map f ++ (l.drop i).map f).set i (f (mk (k + (w * i : Nat)))) = (marks w mk (i + 1) k).map f ++ (l.drop (i + 1)).map f := by
  rw [List.set_append_right _ _ (by simp [marks_length]), List.length_map, marks_length, Nat.sub_self, List.drop_eq_getElem_cons hi, List.map_cons, List.set_cons_zero, marks_succ, List.map_append, List.append_assoc]
  rfl
theorem mark_len {α : Type} (f : α → List T) (w : Nat) (mk : Int → α) (l : List α) (k : Int) {i : Nat} (hi : i ≤ l.length) : ((marks w mk i k).map f ++ (l.drop i).map f).length = l.length := by simp [marks_length]; omega
theorem mark_reget {α : Type} (f : α → List T) (w : Nat) (mk : Int → α) (l : List α) (k : Int) {i : Nat} (hi : i < l.length) (r : List T) : (((marks w mk i k).map f ++ (l.drop i).map f).set i r)[i]? = some r := by
  rw [List.getElem?_set_self (by rw [mark_len f w mk l k (by omega)]; exact hi)]
theorem mark_end {α : Type} (f : α → List T) (w : Nat) (mk : Int → α) (l : List α) (k : Int) : (marks w mk l.length k).map f ++ (l.drop l.length).map f = (marks w mk l.length k).map f := by simp
theorem marks_take {α β : Type} (f : α → β) (w : Nat) (mk : Int → α) (n : Nat) (k : Int) : ((marks w mk n k).map f).take n = (marks w mk n k).map f := by rw [List.take_of_length_le (by simp [marks_length])]
/-- Marks of things that are not of one size. -/
def markL {α : Type} (m : α → Int → α) (f : α → Int → Int) : List α → Int → List α
  | [], _ => []
  | x :: l, k => m x k :: markL m f l (f x k)
def farL {α : Type} (f : α → Int → Int) : List α → Int → Int
  | [], k => k
  | x :: l, k => farL f l (f x k)
theorem markL_length {α : Type} (m : α → Int → α) (f : α → Int → Int) : ∀ (l : List α) (k : Int), (markL m f l k).length = l.length
  | [], _ => rfl
  | x :: l, k => by simp only [markL, List.length_cons, markL_length m f l]
theorem farL_take {α : Type} (f : α → Int → Int) : ∀ (l : List α) (k : Int) {i : Nat} (h : i < l.length), farL f (l.take (i + 1)) k = f l[i] (farL f (l.take i) k)
  | x :: l, k, 0, h => by simp [farL]
  | x :: l, k, i + 1, h => by
    simp only [List.take_succ_cons, farL, List.getElem_cons_succ]
    exact farL_take f l _ (by simpa using h)
theorem markL_get {α : Type} (m : α → Int → α) (f : α → Int → Int) : ∀ (l : List α) (k : Int) {i : Nat} (h : i < l.length), (markL m f l k)[i]? = some (m l[i] (farL f (l.take i) k))
  | x :: l, k, 0, h => by simp [markL, farL]
  | x :: l, k, i + 1, h => by
    simp only [markL, List.getElem?_cons_succ, List.take_succ_cons, farL, List.getElem_cons_succ]
    exact markL_get m f l _ (by simpa using h)
theorem markL_take {α : Type} (m : α → Int → α) (f : α → Int → Int) : ∀ (l : List α) (k : Int) {i : Nat} (h : i < l.length), markL m f (l.take (i + 1)) k = markL m f (l.take i) k ++ [m l[i] (farL f (l.take i) k)]
  | x :: l, k, 0, h => by simp [markL, farL]
  | x :: l, k, i + 1, h => by
    simp only [List.take_succ_cons, markL, farL, List.cons_append, List.getElem_cons_succ]
    rw [markL_take m f l _ (by simpa using h)]
theorem farL_le {α : Type} {f : α → Int → Int} {p : α → Prop} {l : List α} {n c : Nat} {k : Int} (h : l.length ≤ n ∧ ∀ y ∈ l, p y) (hf : ∀ y, p y → ∀ k, k ≤ f y k ∧ f y k ≤ k + (c : Nat)) : k ≤ farL f l k ∧ farL f l k ≤ k + ((n * c : Nat) : Int) := by
  obtain ⟨h1, h2⟩ := h
  have key : ∀ (l : List α) (k : Int), (∀ y ∈ l, p y) → k ≤ farL f l k ∧ farL f l k ≤ k + ((l.length * c : Nat) : Int) := by
    intro l
    induction l with
    | nil => intro k _; simp [farL]
    | cons x l ih =>
      intro k hp
      have a := hf x (hp x (List.mem_cons_self ..)) k
      have b := ih (f x k) fun y hy => hp y (List.mem_cons_of_mem _ hy)
      simp only [farL, List.length_cons, Nat.add_mul, Nat.one_mul]
      omega
  have a := key l k h2
  have b := Nat.mul_le_mul_right c h1
  omega
theorem markL_len {α : Type} (R : α → List T) (m : α → Int → α) (f : α → Int → Int) (l : List α) (k : Int) {i : Nat} (hi : i ≤ l.length) : ((markL m f (l.take i) k).map R ++ (l.drop i).map R).length = l.length := by simp [markL_length]; omega
theorem markL_at {α : Type} (R : α → List T) (m : α → Int → α) (f : α → Int → Int) (l : List α) (k : Int) {i : Nat} (hi : i < l.length) : ((markL m f (l.take i) k).map R ++ (l.drop i).map R)[i]? = some (R l[i]) := by
  rw [List.getElem?_append_right (by simp [markL_length]; omega), List.length_map, markL_length, List.length_take, Nat.min_eq_left (by omega), Nat.sub_self, List.getElem?_map, List.getElem?_drop]
  simp [hi]
theorem markL_reat {α : Type} (R : α → List T) (m : α → Int → α) (f : α → Int → Int) (l : List α) (k : Int) {i : Nat} (hi : i < l.length) (r : List T) : (((markL m f (l.take i) k).map R ++ (l.drop i).map R).set i r)[i]? = some r := by
  rw [List.getElem?_set_self (by rw [markL_len R m f l k (by omega)]; exact hi)]
theorem markL_set {α : Type} (R : α → List T) (m : α → Int → α) (f : α → Int → Int) (l : List α) (k : Int) {i : Nat} (hi : i < l.length) : ((markL m f (l.take i) k).map R ++ (l.drop i).map R).set i (R (m l[i] (farL f (l.take i) k))) = (markL m f (l.take (i + 1)) k).map R ++ (l.drop (i + 1)).map R := by
  have e : ((markL m f (l.take i) k).map R).length = i := by rw [List.length_map, markL_length, List.length_take]; omega
  rw [List.set_append_right _ _ (by omega), e, Nat.sub_self, List.drop_eq_getElem_cons hi, List.map_cons, List.set_cons_zero, markL_take m f l k hi, List.map_append, List.append_assoc]
  rfl
def mkB (k : Int) : Bool := k.tmod 3 == 0
theorem byte_neq (a b : UInt8) : binV .neq (.int .u8 a.toNat) (.int .u8 b.toNat) = some (.bool (!decide (a = b))) := by
  have : ((a.toNat : Int) = b.toNat) ↔ a = b := by rw [Int.ofNat_inj]; exact UInt8.toNat_inj
  rw [bI_neq]
  by_cases h : a = b
  · subst h; simp
  · have h2 : ¬ ((a.toNat : Int) = b.toNat) := fun e => h (this.1 e)
    simp [h, bne, h2]
def digs (n : Nat) (out : ByteArray) : ByteArray := if h : n = 0 then out else digs (n / 10) (⟨#[UInt8.ofNat (48 + n % 10)]⟩ ++ out)
termination_by n
decreasing_by omega
def mkS (k : Int) : ByteArray := if k ≤ 0 then ⟨#[109, 48]⟩ else ⟨#[109]⟩ ++ digs k.toNat ⟨#[]⟩
def mkI (k : Int) : Int := k
def mkU (k : Int) : UInt8 := UInt8.ofNat (k % 256).toNat
theorem mkU_wrap (k : Int) : IntKind.u8.wrap k = ((mkU k).toNat : Int) := by
  have h1 := Int.emod_nonneg k (show (256 : Int) ≠ 0 by decide)
  have h2 := Int.emod_lt_of_pos k (show (0 : Int) < 256 by decide)
  have h3 : (mkU k).toNat = (k % 256).toNat := by
    rw [mkU, UInt8.toNat_ofNat', Nat.mod_eq_of_lt (by omega)]
  rw [h3, IntKind.wrap_u8]
  omega
end Go.X

/- C -/
namespace Go.X
set_option maxRecDepth 100000
set_option maxHeartbeats 8000000
structure Msg where
  Kind : Int
  From : Int
  To : Int
  Seq : Int
  Key : ByteArray
  Text : ByteArray
  N : Int
  Code : Int
  deriving DecidableEq
abbrev Msg.row (x : Msg) : List Go.X.T := [iT x.Kind, iT x.From, iT x.To, iT x.Seq, sT x.Key, sT x.Text, iT x.N, iT x.Code]
def Msg.In (n : Nat) (x : Msg) : Prop := x.Key.size ≤ n ∧ x.Text.size ≤ n
theorem Msg.In.mono {x : Msg} {n m : Nat} (h : x.In n) (hn : n ≤ m) : x.In m := by
  simp only [Msg.In] at h ⊢
  exact ⟨Nat.le_trans h.1 hn, Nat.le_trans h.2 hn⟩
def szMsg (x : Msg) (k : Int) : Int := szAll [(fun k => k - (x.Key.size : Nat)), (fun k => k - (x.Text.size : Nat))] k
theorem szMsg_sane (x : Msg) : Sane (szMsg x) := Sane.all (.cons (Sane.sub _) (.cons (Sane.sub _) .nil))
theorem szMsg_in {x : Msg} {k : Int} {n : Nat} (hk : 0 ≤ k) (hn : k ≤ n) (h : 0 ≤ szMsg x k) : x.In n := by
  obtain ⟨⟨j0, a0, b0, c0⟩, ⟨j1, a1, b1, c1⟩, _⟩ := szAll_ex (.cons (Sane.sub _) (.cons (Sane.sub _) .nil)) hk hn h
  exact ⟨(by have q : (0 : Int) ≤ j0 - _ := c0; omega), (by have q : (0 : Int) ≤ j1 - _ := c1; omega)⟩
def mkMsg (k : Int) : Msg := ⟨k, k + 1, k + 1 + 1, k + 1 + 1 + 1, mkS (k + 1 + 1 + 1 + 1), mkS (k + 1 + 1 + 1 + 1 + 1), k + 1 + 1 + 1 + 1 + 1 + 1, k + 1 + 1 + 1 + 1 + 1 + 1 + 1⟩
end Go.X

/- D -/
namespace Go.X
set_option maxRecDepth 100000
set_option maxHeartbeats 8000000
structure Lead where
  Phase : Int
  Acked : List Bool
  Ended : List Bool
  At : List ByteArray
  deriving DecidableEq
abbrev Lead.enc (o : Bool) (x : Lead) : List Go.X.T := [iT x.Phase, slT o 1 bR x.Acked, slT o 1 bR x.Ended, slT o 1 sR x.At]
def Lead.In (n : Nat) (x : Lead) : Prop := x.Acked.length ≤ n ∧ x.Ended.length ≤ n ∧ (x.At.length ≤ n ∧ ∀ y ∈ x.At, y.size ≤ n)
theorem Lead.In.mono {x : Lead} {n m : Nat} (h : x.In n) (hn : n ≤ m) : x.In m := by
  simp only [Lead.In] at h ⊢
  exact ⟨Nat.le_trans h.1 hn, Nat.le_trans h.2.1 hn, ⟨Nat.le_trans h.2.2.1 hn, fun y hy => Nat.le_trans (h.2.2.2 y hy) hn⟩⟩
def szLead (x : Lead) (k : Int) : Int := szAll [(fun k => left (k - (x.Acked.length : Nat))), (fun k => left (k - (x.Ended.length : Nat))), (szSl szStr x.At)] k
theorem szLead_sane (x : Lead) : Sane (szLead x) := Sane.all (.cons (Sane.left _) (.cons (Sane.left _) (.cons (Sane.sl szStr_sane _) .nil)))
theorem szLead_in {x : Lead} {k : Int} {n : Nat} (hk : 0 ≤ k) (hn : k ≤ n) (h : 0 ≤ szLead x k) : x.In n := by
  obtain ⟨⟨j0, a0, b0, c0⟩, ⟨j1, a1, b1, c1⟩, ⟨j2, a2, b2, c2⟩, _⟩ := szAll_ex (.cons (Sane.left _) (.cons (Sane.left _) (.cons (Sane.sl szStr_sane _) .nil))) hk hn h
  exact ⟨(by have := left_in c0; omega), (by have := left_in c1; omega), (szSl_in szStr_sane (fun a j h0 hn h => by have := left_in h; omega) a2 b2 c2)⟩
def Lead.Len (x : Lead) : Prop := x.Acked.length ≤ 2 ^ 31 ∧ x.Ended.length ≤ 2 ^ 31 ∧ x.At.length ≤ 2 ^ 31
theorem Lead.In.len {x : Lead} {n : Nat} (h : x.In n) (hn : n ≤ 2 ^ 31) : x.Len := by
  obtain ⟨h0, h1, h2⟩ := h
  exact ⟨Nat.le_trans h0 hn, Nat.le_trans h1 hn, Nat.le_trans h2.1 hn⟩
def Lead.mark (x : Lead) (k : Int) : Lead := ⟨x.Phase, marks 1 mkB x.Acked.length (k), marks 1 mkB x.Ended.length (k + (1 * x.Acked.length : Nat)), marks 1 mkS x.At.length (k + (1 * x.Acked.length : Nat) + (1 * x.Ended.length : Nat))⟩
def Lead.far (x : Lead) (k : Int) : Int := k + (1 * x.Acked.length : Nat) + (1 * x.Ended.length : Nat) + (1 * x.At.length : Nat)
theorem Lead.mark_Acked (x : Lead) (k : Int) : (x.mark k).Acked.length = x.Acked.length := by simp [Lead.mark, marks_length, markL_length]
theorem Lead.take_Acked {β : Type} (f : Bool → β) (x : Lead) (k : Int) : ((x.mark k).Acked.map f).take x.Acked.length = (x.mark k).Acked.map f := by rw [← x.mark_Acked k, take_map]
theorem Lead.mark_Ended (x : Lead) (k : Int) : (x.mark k).Ended.length = x.Ended.length := by simp [Lead.mark, marks_length, markL_length]
theorem Lead.take_Ended {β : Type} (f : Bool → β) (x : Lead) (k : Int) : ((x.mark k).Ended.map f).take x.Ended.length = (x.mark k).Ended.map f := by rw [← x.mark_Ended k, take_map]
theorem Lead.mark_At (x : Lead) (k : Int) : (x.mark k).At.length = x.At.length := by simp [Lead.mark, marks_length, markL_length]
theorem Lead.take_At {β : Type} (f : ByteArray → β) (x : Lead) (k : Int) : ((x.mark k).At.map f).take x.At.length = (x.mark k).At.map f := by rw [← x.mark_At k, take_map]
end Go.X

/- E -/
namespace Go.X
set_option maxRecDepth 100000
set_option maxHeartbeats 8000000
structure DoneV where
  Seq : Int
  Kind : Int
  Key : ByteArray
  Text : ByteArray
  Code : Int
  deriving DecidableEq
abbrev DoneV.row (x : DoneV) : List Go.X.T := [iT x.Seq, iT x.Kind, sT x.Key, sT x.Text, iT x.Code]
def DoneV.In (n : Nat) (x : DoneV) : Prop := x.Key.size ≤ n ∧ x.Text.size ≤ n
theorem DoneV.In.mono {x : DoneV} {n m : Nat} (h : x.In n) (hn : n ≤ m) : x.In m := by
  simp only [DoneV.In] at h ⊢
  exact ⟨Nat.le_trans h.1 hn, Nat.le_trans h.2 hn⟩
def szDone (x : DoneV) (k : Int) : Int := szAll [(fun k => k - (x.Key.size : Nat)), (fun k => k - (x.Text.size : Nat))] k
theorem szDone_sane (x : DoneV) : Sane (szDone x) := Sane.all (.cons (Sane.sub _) (.cons (Sane.sub _) .nil))
theorem szDone_in {x : DoneV} {k : Int} {n : Nat} (hk : 0 ≤ k) (hn : k ≤ n) (h : 0 ≤ szDone x k) : x.In n := by
  obtain ⟨⟨j0, a0, b0, c0⟩, ⟨j1, a1, b1, c1⟩, _⟩ := szAll_ex (.cons (Sane.sub _) (.cons (Sane.sub _) .nil)) hk hn h
  exact ⟨(by have q : (0 : Int) ≤ j0 - _ := c0; omega), (by have q : (0 : Int) ≤ j1 - _ := c1; omega)⟩
def mkDone (k : Int) : DoneV := ⟨k, k + 1, mkS (k + 1 + 1), mkS (k + 1 + 1 + 1), k + 1 + 1 + 1 + 1⟩
structure ClientV where
  Id : Int
  Seq : Int
  Busy : Bool
  M : Msg
  Dones : List DoneV
  deriving DecidableEq
abbrev ClientV.enc (o : Bool) (x : ClientV) : List Go.X.T := [iT x.Id, iT x.Seq, bT x.Busy, iT x.M.Kind, iT x.M.From, iT x.M.To, iT x.M.Seq, sT x.M.Key, sT x.M.Text, iT x.M.N, iT x.M.Code, slT o 5 DoneV.row x.Dones]
def ClientV.In (n : Nat) (x : ClientV) : Prop := x.M.In (n) ∧ (x.Dones.length ≤ n ∧ ∀ y ∈ x.Dones, y.In (n))
theorem ClientV.In.mono {x : ClientV} {n m : Nat} (h : x.In n) (hn : n ≤ m) : x.In m := by
  simp only [ClientV.In] at h ⊢
  exact ⟨h.1.mono hn, ⟨Nat.le_trans h.2.1 hn, fun y hy => (h.2.2 y hy).mono hn⟩⟩
def szClient (x : ClientV) (k : Int) : Int := szAll [(szMsg x.M), (szSl szDone x.Dones)] k
theorem szClient_sane (x : ClientV) : Sane (szClient x) := Sane.all (.cons (szMsg_sane _) (.cons (Sane.sl szDone_sane _) .nil))
theorem szClient_in {x : ClientV} {k : Int} {n : Nat} (hk : 0 ≤ k) (hn : k ≤ n) (h : 0 ≤ szClient x k) : x.In n := by
  obtain ⟨⟨j0, a0, b0, c0⟩, ⟨j1, a1, b1, c1⟩, _⟩ := szAll_ex (.cons (szMsg_sane _) (.cons (Sane.sl szDone_sane _) .nil)) hk hn h
  exact ⟨(szMsg_in a0 b0 c0), (szSl_in szDone_sane (fun a j h0 hn h => szDone_in h0 hn h) a1 b1 c1)⟩
def ClientV.Len (x : ClientV) : Prop := x.Dones.length ≤ 2 ^ 31
theorem ClientV.In.len {x : ClientV} {n : Nat} (h : x.In n) (hn : n ≤ 2 ^ 31) : x.Len := by
  obtain ⟨h0, h1⟩ := h
  exact Nat.le_trans h1.1 hn
def ClientV.mark (x : ClientV) (k : Int) : ClientV := ⟨x.Id, x.Seq, x.Busy, x.M, marks 5 mkDone x.Dones.length (k)⟩
def ClientV.far (x : ClientV) (k : Int) : Int := k + (5 * x.Dones.length : Nat)
theorem ClientV.mark_Dones (x : ClientV) (k : Int) : (x.mark k).Dones.length = x.Dones.length := by simp [ClientV.mark, marks_length, markL_length]
theorem ClientV.take_Dones {β : Type} (f : DoneV → β) (x : ClientV) (k : Int) : ((x.mark k).Dones.map f).take x.Dones.length = (x.mark k).Dones.map f := by rw [← x.mark_Dones k, take_map]
end Go.X

/- Ea -/
namespace Go.X
set_option maxRecDepth 100000
set_option maxHeartbeats 8000000
theorem own_sl {τ : Type} {o : Bool} {z : Nat} {h : τ} {rows : List (List (Tr τ))} : Tr.own (.sl o z h rows) = o := rfl
theorem cellAt_sl {τ : Type} {o : Bool} {z : Nat} {h : τ} {rows : List (List (Tr τ))} {i j : Nat} : cellAt (.sl o z h rows) i j = (rows[i]?).bind (·[j]?) := rfl
theorem setCell_sl {τ : Type} {o : Bool} {z : Nat} {h : τ} {rows : List (List (Tr τ))} {i j : Nat} {u : Tr τ} : setCell (.sl o z h rows) i j u = .sl o z h (rows.set i ((rows[i]?.getD []).set j u)) := by
  simp only [setCell, setRows, Tr.rows, List.getD_eq_getElem?_getD]
attribute [go_sem] own_sl cellAt_sl setCell_sl
theorem back_bif {α : Type} {Te : Nat → List AV → Res → Prop} {c : Bool} {f : St → Bool} {p : Prg α} {st : St} {Q : α → St → Prop} (h : f st = true) (hp : runP Te p st Q) : runP Te (bif c then p else .all f p) st Q := by
  cases c
  · exact ⟨h, hp⟩
  · exact hp
structure CellV where
  Tag : Int
  B : List UInt8
  deriving DecidableEq
abbrev CellV.enc (o : Bool) (x : CellV) : List Go.X.T := [iT x.Tag, slT o 1 uR x.B]
def CellV.In (n : Nat) (x : CellV) : Prop := x.B.length ≤ n
theorem CellV.In.mono {x : CellV} {n m : Nat} (h : x.In n) (hn : n ≤ m) : x.In m := by
  simp only [CellV.In] at h ⊢
  exact Nat.le_trans h hn
def szCell (x : CellV) (k : Int) : Int := szAll [(fun k => left (k - (x.B.length : Nat)))] k
theorem szCell_sane (x : CellV) : Sane (szCell x) := Sane.all (.cons (Sane.left _) .nil)
theorem szCell_in {x : CellV} {k : Int} {n : Nat} (hk : 0 ≤ k) (hn : k ≤ n) (h : 0 ≤ szCell x k) : x.In n := by
  obtain ⟨⟨j0, a0, b0, c0⟩, _⟩ := szAll_ex (.cons (Sane.left _) .nil) hk hn h
  show x.B.length ≤ n
  exact (by have := left_in c0; omega)
def CellV.Len (x : CellV) : Prop := x.B.length ≤ 2 ^ 21
theorem CellV.In.len {x : CellV} {n : Nat} (h : x.In n) (hn : n ≤ 2 ^ 21) : x.Len := by
  have h0 : x.B.length ≤ n := h
  exact Nat.le_trans h0 hn
def CellV.mark (x : CellV) (k : Int) : CellV := ⟨x.Tag, marks 1 mkU x.B.length (k)⟩
def CellV.far (x : CellV) (k : Int) : Int := k + (1 * x.B.length : Nat)
theorem CellV.mark_B (x : CellV) (k : Int) : (x.mark k).B.length = x.B.length := by simp [CellV.mark, marks_length, markL_length]
theorem CellV.take_B {β : Type} (f : UInt8 → β) (x : CellV) (k : Int) : ((x.mark k).B.map f).take x.B.length = (x.mark k).B.map f := by rw [← x.mark_B k, take_map]
theorem CellV.far_le {x : CellV} (hx : x.Len) (k : Int) : k ≤ x.far k ∧ x.far k ≤ k + 2097152 := by
  have h0 : x.B.length ≤ 2 ^ 21 := hx
  simp only [CellV.far]
  omega
structure RowV where
  Key : ByteArray
  Old : CellV
  New : CellV
  Has : Int
  Aside : Bool
  deriving DecidableEq
abbrev RowV.enc (o : Bool) (x : RowV) : List Go.X.T := [sT x.Key, iT x.Old.Tag, slT o 1 uR x.Old.B, iT x.New.Tag, slT o 1 uR x.New.B, iT x.Has, bT x.Aside]
def RowV.In (n : Nat) (x : RowV) : Prop := x.Key.size ≤ n ∧ x.Old.In (n) ∧ x.New.In (n)
theorem RowV.In.mono {x : RowV} {n m : Nat} (h : x.In n) (hn : n ≤ m) : x.In m := by
  simp only [RowV.In] at h ⊢
  exact ⟨Nat.le_trans h.1 hn, h.2.1.mono hn, h.2.2.mono hn⟩
def szRow (x : RowV) (k : Int) : Int := szAll [(fun k => k - (x.Key.size : Nat)), (szCell x.Old), (szCell x.New)] k
theorem szRow_sane (x : RowV) : Sane (szRow x) := Sane.all (.cons (Sane.sub _) (.cons (szCell_sane _) (.cons (szCell_sane _) .nil)))
theorem szRow_in {x : RowV} {k : Int} {n : Nat} (hk : 0 ≤ k) (hn : k ≤ n) (h : 0 ≤ szRow x k) : x.In n := by
  obtain ⟨⟨j0, a0, b0, c0⟩, ⟨j1, a1, b1, c1⟩, ⟨j2, a2, b2, c2⟩, _⟩ := szAll_ex (.cons (Sane.sub _) (.cons (szCell_sane _) (.cons (szCell_sane _) .nil))) hk hn h
  exact ⟨(by have q : (0 : Int) ≤ j0 - _ := c0; omega), (szCell_in a1 b1 c1), (szCell_in a2 b2 c2)⟩
def RowV.Len (x : RowV) : Prop := x.Old.Len ∧ x.New.Len
theorem RowV.In.len {x : RowV} {n : Nat} (h : x.In n) (hn : n ≤ 2 ^ 21) : x.Len := by
  obtain ⟨h0, h1, h2⟩ := h
  exact ⟨(h1).len hn, (h2).len hn⟩
def RowV.mark (x : RowV) (k : Int) : RowV := ⟨x.Key, x.Old.mark (k), x.New.mark (x.Old.far (k)), x.Has, x.Aside⟩
def RowV.far (x : RowV) (k : Int) : Int := x.New.far (x.Old.far (k))
theorem RowV.mark_Old_B (x : RowV) (k : Int) : (x.mark k).Old.B.length = x.Old.B.length := by simp [RowV.mark, CellV.mark, marks_length, markL_length]
theorem RowV.take_Old_B {β : Type} (f : UInt8 → β) (x : RowV) (k : Int) : ((x.mark k).Old.B.map f).take x.Old.B.length = (x.mark k).Old.B.map f := by rw [← x.mark_Old_B k, take_map]
theorem RowV.mark_New_B (x : RowV) (k : Int) : (x.mark k).New.B.length = x.New.B.length := by simp [RowV.mark, CellV.mark, marks_length, markL_length]
theorem RowV.take_New_B {β : Type} (f : UInt8 → β) (x : RowV) (k : Int) : ((x.mark k).New.B.map f).take x.New.B.length = (x.mark k).New.B.map f := by rw [← x.mark_New_B k, take_map]
theorem RowV.far_le {x : RowV} (hx : x.Len) (k : Int) : k ≤ x.far k ∧ x.far k ≤ k + 4194304 := by
  obtain ⟨h0, h1⟩ := hx
  have w0 := CellV.far_le h0 k
  have w1 := CellV.far_le h1 (x.Old.far k)
  simp only [RowV.far]
  omega
def RowV.markE (x : RowV) (k : Int) : RowV := ⟨mkS (k), ⟨k + 1, marks 1 mkU x.Old.B.length (k + 1 + 1)⟩, ⟨k + 1 + 1 + (1 * x.Old.B.length : Nat), marks 1 mkU x.New.B.length (k + 1 + 1 + (1 * x.Old.B.length : Nat) + 1)⟩, k + 1 + 1 + (1 * x.Old.B.length : Nat) + 1 + (1 * x.New.B.length : Nat), mkB (k + 1 + 1 + (1 * x.Old.B.length : Nat) + 1 + (1 * x.New.B.length : Nat) + 1)⟩
def RowV.farE (x : RowV) (k : Int) : Int := k + 1 + 1 + (1 * x.Old.B.length : Nat) + 1 + (1 * x.New.B.length : Nat) + 1 + 1
theorem RowV.farE_le {x : RowV} (hx : x.Len) (k : Int) : k ≤ x.farE k ∧ x.farE k ≤ k + 4194309 := by
  obtain ⟨h0, h1⟩ := hx
  have h0' : x.Old.B.length ≤ 2 ^ 21 := h0
  have h1' : x.New.B.length ≤ 2 ^ 21 := h1
  simp only [RowV.farE]
  omega
structure WrV where
  N : Int
  B : List UInt8
  deriving DecidableEq
abbrev WrV.enc (o : Bool) (x : WrV) : List Go.X.T := [iT x.N, slT o 1 uR x.B]
def WrV.In (n : Nat) (x : WrV) : Prop := x.B.length ≤ n
theorem WrV.In.mono {x : WrV} {n m : Nat} (h : x.In n) (hn : n ≤ m) : x.In m := by
  simp only [WrV.In] at h ⊢
  exact Nat.le_trans h hn
def szWr (x : WrV) (k : Int) : Int := szAll [(fun k => left (k - (x.B.length : Nat)))] k
theorem szWr_sane (x : WrV) : Sane (szWr x) := Sane.all (.cons (Sane.left _) .nil)
theorem szWr_in {x : WrV} {k : Int} {n : Nat} (hk : 0 ≤ k) (hn : k ≤ n) (h : 0 ≤ szWr x k) : x.In n := by
  obtain ⟨⟨j0, a0, b0, c0⟩, _⟩ := szAll_ex (.cons (Sane.left _) .nil) hk hn h
  show x.B.length ≤ n
  exact (by have := left_in c0; omega)
def WrV.Len (x : WrV) : Prop := x.B.length ≤ 2 ^ 21
theorem WrV.In.len {x : WrV} {n : Nat} (h : x.In n) (hn : n ≤ 2 ^ 21) : x.Len := by
  have h0 : x.B.length ≤ n := h
  exact Nat.le_trans h0 hn
def WrV.mark (x : WrV) (k : Int) : WrV := ⟨x.N, marks 1 mkU x.B.length (k)⟩
def WrV.far (x : WrV) (k : Int) : Int := k + (1 * x.B.length : Nat)
theorem WrV.mark_B (x : WrV) (k : Int) : (x.mark k).B.length = x.B.length := by simp [WrV.mark, marks_length, markL_length]
theorem WrV.take_B {β : Type} (f : UInt8 → β) (x : WrV) (k : Int) : ((x.mark k).B.map f).take x.B.length = (x.mark k).B.map f := by rw [← x.mark_B k, take_map]
theorem WrV.far_le {x : WrV} (hx : x.Len) (k : Int) : k ≤ x.far k ∧ x.far k ≤ k + 2097152 := by
  have h0 : x.B.length ≤ 2 ^ 21 := hx
  simp only [WrV.far]
  omega
def WrV.markE (x : WrV) (k : Int) : WrV := ⟨k, marks 1 mkU x.B.length (k + 1)⟩
def WrV.farE (x : WrV) (k : Int) : Int := k + 1 + (1 * x.B.length : Nat)
theorem WrV.farE_le {x : WrV} (hx : x.Len) (k : Int) : k ≤ x.farE k ∧ x.farE k ≤ k + 2097153 := by
  have h0 : x.B.length ≤ 2 ^ 21 := hx
  simp only [WrV.farE]
  omega
structure DevV where
  Secs : List (List UInt8)
  Cache : List WrV
  Fuse : Int
  Down : Bool
  deriving DecidableEq
abbrev DevV.enc (o : Bool) (x : DevV) : List Go.X.T := [slT o 1 (fun y => [slT o 1 uR y]) x.Secs, slT o 2 (WrV.enc o) x.Cache, iT x.Fuse, bT x.Down]
def DevV.In (n : Nat) (x : DevV) : Prop := (x.Secs.length ≤ n ∧ ∀ y ∈ x.Secs, y.length ≤ n) ∧ (x.Cache.length ≤ n ∧ ∀ y ∈ x.Cache, y.In (n))
theorem DevV.In.mono {x : DevV} {n m : Nat} (h : x.In n) (hn : n ≤ m) : x.In m := by
  simp only [DevV.In] at h ⊢
  exact ⟨⟨Nat.le_trans h.1.1 hn, fun y hy => Nat.le_trans (h.1.2 y hy) hn⟩, ⟨Nat.le_trans h.2.1 hn, fun y hy => (h.2.2 y hy).mono hn⟩⟩
def szDev (x : DevV) (k : Int) : Int := szAll [(szSl (fun y k => left (k - y.length)) x.Secs), (szSl szWr x.Cache)] k
theorem szDev_sane (x : DevV) : Sane (szDev x) := Sane.all (.cons (Sane.sl (fun _ => Sane.left _) _) (.cons (Sane.sl szWr_sane _) .nil))
theorem szDev_in {x : DevV} {k : Int} {n : Nat} (hk : 0 ≤ k) (hn : k ≤ n) (h : 0 ≤ szDev x k) : x.In n := by
  obtain ⟨⟨j0, a0, b0, c0⟩, ⟨j1, a1, b1, c1⟩, _⟩ := szAll_ex (.cons (Sane.sl (fun _ => Sane.left _) _) (.cons (Sane.sl szWr_sane _) .nil)) hk hn h
  exact ⟨(szSl_in (fun _ => Sane.left _) (fun a j h0 hn h => by have := left_in h; omega) a0 b0 c0), (szSl_in szWr_sane (fun a j h0 hn h => szWr_in h0 hn h) a1 b1 c1)⟩
def DevV.Len (x : DevV) : Prop := (x.Secs.length ≤ 2 ^ 21 ∧ ∀ y ∈ x.Secs, y.length ≤ 2 ^ 21) ∧ (x.Cache.length ≤ 2 ^ 21 ∧ ∀ y ∈ x.Cache, y.Len)
theorem DevV.In.len {x : DevV} {n : Nat} (h : x.In n) (hn : n ≤ 2 ^ 21) : x.Len := by
  obtain ⟨h0, h1⟩ := h
  exact ⟨⟨Nat.le_trans h0.1 hn, fun y hy => Nat.le_trans (h0.2 y hy) hn⟩, ⟨Nat.le_trans h1.1 hn, fun y hy => ((h1.2 y hy)).len hn⟩⟩
def DevV.mark (x : DevV) (k : Int) : DevV := ⟨markL (fun y k => marks 1 mkU y.length k) (fun y k => k + (1 * y.length : Nat)) x.Secs (k), markL WrV.markE WrV.farE x.Cache (farL (fun y k => k + (1 * y.length : Nat)) x.Secs (k)), x.Fuse, x.Down⟩
def DevV.far (x : DevV) (k : Int) : Int := farL WrV.farE x.Cache (farL (fun y k => k + (1 * y.length : Nat)) x.Secs (k))
theorem DevV.mark_Secs (x : DevV) (k : Int) : (x.mark k).Secs.length = x.Secs.length := by simp [DevV.mark, marks_length, markL_length]
theorem DevV.take_Secs {β : Type} (f : List UInt8 → β) (x : DevV) (k : Int) : ((x.mark k).Secs.map f).take x.Secs.length = (x.mark k).Secs.map f := by rw [← x.mark_Secs k, take_map]
theorem DevV.mark_Cache (x : DevV) (k : Int) : (x.mark k).Cache.length = x.Cache.length := by simp [DevV.mark, marks_length, markL_length]
theorem DevV.take_Cache {β : Type} (f : WrV → β) (x : DevV) (k : Int) : ((x.mark k).Cache.map f).take x.Cache.length = (x.mark k).Cache.map f := by rw [← x.mark_Cache k, take_map]
theorem DevV.far_le {x : DevV} (hx : x.Len) (k : Int) : k ≤ x.far k ∧ x.far k ≤ k + 8796095119360 := by
  obtain ⟨h0, h1⟩ := hx
  have w0 := farL_le (k := k) (c := 2097152) h0 (fun (y : List UInt8) (hy : y.length ≤ 2 ^ 21) (k : Int) => ⟨by show k ≤ k + ((1 * y.length : Nat) : Int); omega, by show k + ((1 * y.length : Nat) : Int) ≤ _; omega⟩)
  have w1 := farL_le (k := (farL (fun y k => k + (1 * y.length : Nat)) x.Secs (k))) (c := 2097153) h1 (fun y hy k => WrV.farE_le hy k)
  simp only [DevV.far]
  omega
end Go.X

/- Eb -/
namespace Go.X
set_option maxRecDepth 100000
set_option maxHeartbeats 8000000
structure MarkV where
  Who : Int
  Seq : Int
  Code : Int
  deriving DecidableEq
abbrev MarkV.row (x : MarkV) : List Go.X.T := [iT x.Who, iT x.Seq, iT x.Code]
def mkMark (k : Int) : MarkV := ⟨k, k + 1, k + 1 + 1⟩
structure TabV where
  Rows : List RowV
  Phase : Int
  Marks : List MarkV
  deriving DecidableEq
abbrev TabV.enc (o : Bool) (x : TabV) : List Go.X.T := [slT o 7 (RowV.enc o) x.Rows, iT x.Phase, slT o 3 MarkV.row x.Marks]
def TabV.In (n : Nat) (x : TabV) : Prop := (x.Rows.length ≤ n ∧ ∀ y ∈ x.Rows, y.In (n)) ∧ x.Marks.length ≤ n
theorem TabV.In.mono {x : TabV} {n m : Nat} (h : x.In n) (hn : n ≤ m) : x.In m := by
  simp only [TabV.In] at h ⊢
  exact ⟨⟨Nat.le_trans h.1.1 hn, fun y hy => (h.1.2 y hy).mono hn⟩, Nat.le_trans h.2 hn⟩
def szTab (x : TabV) (k : Int) : Int := szAll [(szSl szRow x.Rows), (fun k => left (k - (x.Marks.length : Nat)))] k
theorem szTab_sane (x : TabV) : Sane (szTab x) := Sane.all (.cons (Sane.sl szRow_sane _) (.cons (Sane.left _) .nil))
theorem szTab_in {x : TabV} {k : Int} {n : Nat} (hk : 0 ≤ k) (hn : k ≤ n) (h : 0 ≤ szTab x k) : x.In n := by
  obtain ⟨⟨j0, a0, b0, c0⟩, ⟨j1, a1, b1, c1⟩, _⟩ := szAll_ex (.cons (Sane.sl szRow_sane _) (.cons (Sane.left _) .nil)) hk hn h
  exact ⟨(szSl_in szRow_sane (fun a j h0 hn h => szRow_in h0 hn h) a0 b0 c0), (by have := left_in c1; omega)⟩
def TabV.Len (x : TabV) : Prop := (x.Rows.length ≤ 2 ^ 21 ∧ ∀ y ∈ x.Rows, y.Len) ∧ x.Marks.length ≤ 2 ^ 21
theorem TabV.In.len {x : TabV} {n : Nat} (h : x.In n) (hn : n ≤ 2 ^ 21) : x.Len := by
  obtain ⟨h0, h1⟩ := h
  exact ⟨⟨Nat.le_trans h0.1 hn, fun y hy => ((h0.2 y hy)).len hn⟩, Nat.le_trans h1 hn⟩
def TabV.mark (x : TabV) (k : Int) : TabV := ⟨markL RowV.markE RowV.farE x.Rows (k), x.Phase, marks 3 mkMark x.Marks.length (farL RowV.farE x.Rows (k))⟩
def TabV.far (x : TabV) (k : Int) : Int := farL RowV.farE x.Rows (k) + (3 * x.Marks.length : Nat)
theorem TabV.mark_Rows (x : TabV) (k : Int) : (x.mark k).Rows.length = x.Rows.length := by simp [TabV.mark, marks_length, markL_length]
theorem TabV.take_Rows {β : Type} (f : RowV → β) (x : TabV) (k : Int) : ((x.mark k).Rows.map f).take x.Rows.length = (x.mark k).Rows.map f := by rw [← x.mark_Rows k, take_map]
theorem TabV.mark_Marks (x : TabV) (k : Int) : (x.mark k).Marks.length = x.Marks.length := by simp [TabV.mark, marks_length, markL_length]
theorem TabV.take_Marks {β : Type} (f : MarkV → β) (x : TabV) (k : Int) : ((x.mark k).Marks.map f).take x.Marks.length = (x.mark k).Marks.map f := by rw [← x.mark_Marks k, take_map]
theorem TabV.far_le {x : TabV} (hx : x.Len) (k : Int) : k ≤ x.far k ∧ x.far k ≤ k + 8796109799424 := by
  obtain ⟨h0, h1⟩ := hx
  have w0 := farL_le (k := k) (c := 4194309) h0 (fun y hy k => RowV.farE_le hy k)
  simp only [TabV.far]
  omega
structure StoreV where
  D : DevV
  T : TabV
  Gen : Int
  Place : Int
  deriving DecidableEq
abbrev StoreV.enc (o : Bool) (x : StoreV) : List Go.X.T := [slT o 1 (fun y => [slT o 1 uR y]) x.D.Secs, slT o 2 (WrV.enc o) x.D.Cache, iT x.D.Fuse, bT x.D.Down, slT o 7 (RowV.enc o) x.T.Rows, iT x.T.Phase, slT o 3 MarkV.row x.T.Marks, iT x.Gen, iT x.Place]
def StoreV.In (n : Nat) (x : StoreV) : Prop := x.D.In (n) ∧ x.T.In (n)
theorem StoreV.In.mono {x : StoreV} {n m : Nat} (h : x.In n) (hn : n ≤ m) : x.In m := by
  simp only [StoreV.In] at h ⊢
  exact ⟨h.1.mono hn, h.2.mono hn⟩
def szStore (x : StoreV) (k : Int) : Int := szAll [(szDev x.D), (szTab x.T)] k
theorem szStore_sane (x : StoreV) : Sane (szStore x) := Sane.all (.cons (szDev_sane _) (.cons (szTab_sane _) .nil))
theorem szStore_in {x : StoreV} {k : Int} {n : Nat} (hk : 0 ≤ k) (hn : k ≤ n) (h : 0 ≤ szStore x k) : x.In n := by
  obtain ⟨⟨j0, a0, b0, c0⟩, ⟨j1, a1, b1, c1⟩, _⟩ := szAll_ex (.cons (szDev_sane _) (.cons (szTab_sane _) .nil)) hk hn h
  exact ⟨(szDev_in a0 b0 c0), (szTab_in a1 b1 c1)⟩
def StoreV.Len (x : StoreV) : Prop := x.D.Len ∧ x.T.Len
theorem StoreV.In.len {x : StoreV} {n : Nat} (h : x.In n) (hn : n ≤ 2 ^ 21) : x.Len := by
  obtain ⟨h0, h1⟩ := h
  exact ⟨(h0).len hn, (h1).len hn⟩
def StoreV.mark (x : StoreV) (k : Int) : StoreV := ⟨x.D.mark (k), x.T.mark (x.D.far (k)), x.Gen, x.Place⟩
def StoreV.far (x : StoreV) (k : Int) : Int := x.T.far (x.D.far (k))
theorem StoreV.mark_D_Secs (x : StoreV) (k : Int) : (x.mark k).D.Secs.length = x.D.Secs.length := by simp [StoreV.mark, DevV.mark, TabV.mark, marks_length, markL_length]
theorem StoreV.take_D_Secs {β : Type} (f : List UInt8 → β) (x : StoreV) (k : Int) : ((x.mark k).D.Secs.map f).take x.D.Secs.length = (x.mark k).D.Secs.map f := by rw [← x.mark_D_Secs k, take_map]
theorem StoreV.mark_D_Cache (x : StoreV) (k : Int) : (x.mark k).D.Cache.length = x.D.Cache.length := by simp [StoreV.mark, DevV.mark, TabV.mark, marks_length, markL_length]
theorem StoreV.take_D_Cache {β : Type} (f : WrV → β) (x : StoreV) (k : Int) : ((x.mark k).D.Cache.map f).take x.D.Cache.length = (x.mark k).D.Cache.map f := by rw [← x.mark_D_Cache k, take_map]
theorem StoreV.mark_T_Rows (x : StoreV) (k : Int) : (x.mark k).T.Rows.length = x.T.Rows.length := by simp [StoreV.mark, DevV.mark, TabV.mark, marks_length, markL_length]
theorem StoreV.take_T_Rows {β : Type} (f : RowV → β) (x : StoreV) (k : Int) : ((x.mark k).T.Rows.map f).take x.T.Rows.length = (x.mark k).T.Rows.map f := by rw [← x.mark_T_Rows k, take_map]
theorem StoreV.mark_T_Marks (x : StoreV) (k : Int) : (x.mark k).T.Marks.length = x.T.Marks.length := by simp [StoreV.mark, DevV.mark, TabV.mark, marks_length, markL_length]
theorem StoreV.take_T_Marks {β : Type} (f : MarkV → β) (x : StoreV) (k : Int) : ((x.mark k).T.Marks.map f).take x.T.Marks.length = (x.mark k).T.Marks.map f := by rw [← x.mark_T_Marks k, take_map]
theorem StoreV.far_le {x : StoreV} (hx : x.Len) (k : Int) : k ≤ x.far k ∧ x.far k ≤ k + 17592204918784 := by
  obtain ⟨h0, h1⟩ := hx
  have w0 := DevV.far_le h0 k
  have w1 := TabV.far_le h1 (x.D.far k)
  simp only [StoreV.far]
  omega
structure NodeV where
  S : StoreV
  Cs : Int
  deriving DecidableEq
abbrev NodeV.enc (o : Bool) (x : NodeV) : List Go.X.T := [slT o 1 (fun y => [slT o 1 uR y]) x.S.D.Secs, slT o 2 (WrV.enc o) x.S.D.Cache, iT x.S.D.Fuse, bT x.S.D.Down, slT o 7 (RowV.enc o) x.S.T.Rows, iT x.S.T.Phase, slT o 3 MarkV.row x.S.T.Marks, iT x.S.Gen, iT x.S.Place, iT x.Cs]
def NodeV.In (n : Nat) (x : NodeV) : Prop := x.S.In (n)
theorem NodeV.In.mono {x : NodeV} {n m : Nat} (h : x.In n) (hn : n ≤ m) : x.In m := by
  simp only [NodeV.In] at h ⊢
  exact h.mono hn
def szNode (x : NodeV) (k : Int) : Int := szAll [(szStore x.S)] k
theorem szNode_sane (x : NodeV) : Sane (szNode x) := Sane.all (.cons (szStore_sane _) .nil)
theorem szNode_in {x : NodeV} {k : Int} {n : Nat} (hk : 0 ≤ k) (hn : k ≤ n) (h : 0 ≤ szNode x k) : x.In n := by
  obtain ⟨⟨j0, a0, b0, c0⟩, _⟩ := szAll_ex (.cons (szStore_sane _) .nil) hk hn h
  show x.S.In (n)
  exact (szStore_in a0 b0 c0)
def NodeV.Len (x : NodeV) : Prop := x.S.Len
theorem NodeV.In.len {x : NodeV} {n : Nat} (h : x.In n) (hn : n ≤ 2 ^ 21) : x.Len := by
  have h0 : x.S.In (n) := h
  exact (h0).len hn
def NodeV.mark (x : NodeV) (k : Int) : NodeV := ⟨x.S.mark (k), x.Cs⟩
def NodeV.far (x : NodeV) (k : Int) : Int := x.S.far (k)
theorem NodeV.mark_S_D_Secs (x : NodeV) (k : Int) : (x.mark k).S.D.Secs.length = x.S.D.Secs.length := by simp [NodeV.mark, StoreV.mark, DevV.mark, TabV.mark, marks_length, markL_length]
theorem NodeV.take_S_D_Secs {β : Type} (f : List UInt8 → β) (x : NodeV) (k : Int) : ((x.mark k).S.D.Secs.map f).take x.S.D.Secs.length = (x.mark k).S.D.Secs.map f := by rw [← x.mark_S_D_Secs k, take_map]
theorem NodeV.mark_S_D_Cache (x : NodeV) (k : Int) : (x.mark k).S.D.Cache.length = x.S.D.Cache.length := by simp [NodeV.mark, StoreV.mark, DevV.mark, TabV.mark, marks_length, markL_length]
theorem NodeV.take_S_D_Cache {β : Type} (f : WrV → β) (x : NodeV) (k : Int) : ((x.mark k).S.D.Cache.map f).take x.S.D.Cache.length = (x.mark k).S.D.Cache.map f := by rw [← x.mark_S_D_Cache k, take_map]
theorem NodeV.mark_S_T_Rows (x : NodeV) (k : Int) : (x.mark k).S.T.Rows.length = x.S.T.Rows.length := by simp [NodeV.mark, StoreV.mark, DevV.mark, TabV.mark, marks_length, markL_length]
theorem NodeV.take_S_T_Rows {β : Type} (f : RowV → β) (x : NodeV) (k : Int) : ((x.mark k).S.T.Rows.map f).take x.S.T.Rows.length = (x.mark k).S.T.Rows.map f := by rw [← x.mark_S_T_Rows k, take_map]
theorem NodeV.mark_S_T_Marks (x : NodeV) (k : Int) : (x.mark k).S.T.Marks.length = x.S.T.Marks.length := by simp [NodeV.mark, StoreV.mark, DevV.mark, TabV.mark, marks_length, markL_length]
theorem NodeV.take_S_T_Marks {β : Type} (f : MarkV → β) (x : NodeV) (k : Int) : ((x.mark k).S.T.Marks.map f).take x.S.T.Marks.length = (x.mark k).S.T.Marks.map f := by rw [← x.mark_S_T_Marks k, take_map]
theorem NodeV.far_le {x : NodeV} (hx : x.Len) (k : Int) : k ≤ x.far k ∧ x.far k ≤ k + 17592204918784 := by
  have h0 : x.S.Len := hx
  have w0 := StoreV.far_le h0 k
  simp only [NodeV.far]
  omega
structure RecV where
  Kind : Int
  R : RowV
  Key : ByteArray
  N : Int
  Who : Int
  Seq : Int
  Code : Int
  deriving DecidableEq
abbrev RecV.enc (o : Bool) (x : RecV) : List Go.X.T := [iT x.Kind, sT x.R.Key, iT x.R.Old.Tag, slT o 1 uR x.R.Old.B, iT x.R.New.Tag, slT o 1 uR x.R.New.B, iT x.R.Has, bT x.R.Aside, sT x.Key, iT x.N, iT x.Who, iT x.Seq, iT x.Code]
def RecV.In (n : Nat) (x : RecV) : Prop := x.R.In (n) ∧ x.Key.size ≤ n
theorem RecV.In.mono {x : RecV} {n m : Nat} (h : x.In n) (hn : n ≤ m) : x.In m := by
  simp only [RecV.In] at h ⊢
  exact ⟨h.1.mono hn, Nat.le_trans h.2 hn⟩
def szRec (x : RecV) (k : Int) : Int := szAll [(szRow x.R), (fun k => k - (x.Key.size : Nat))] k
theorem szRec_sane (x : RecV) : Sane (szRec x) := Sane.all (.cons (szRow_sane _) (.cons (Sane.sub _) .nil))
theorem szRec_in {x : RecV} {k : Int} {n : Nat} (hk : 0 ≤ k) (hn : k ≤ n) (h : 0 ≤ szRec x k) : x.In n := by
  obtain ⟨⟨j0, a0, b0, c0⟩, ⟨j1, a1, b1, c1⟩, _⟩ := szAll_ex (.cons (szRow_sane _) (.cons (Sane.sub _) .nil)) hk hn h
  exact ⟨(szRow_in a0 b0 c0), (by have q : (0 : Int) ≤ j1 - _ := c1; omega)⟩
def RecV.Len (x : RecV) : Prop := x.R.Len
theorem RecV.In.len {x : RecV} {n : Nat} (h : x.In n) (hn : n ≤ 2 ^ 21) : x.Len := by
  obtain ⟨h0, h1⟩ := h
  exact (h0).len hn
def RecV.mark (x : RecV) (k : Int) : RecV := ⟨x.Kind, x.R.mark (k), x.Key, x.N, x.Who, x.Seq, x.Code⟩
def RecV.far (x : RecV) (k : Int) : Int := x.R.far (k)
theorem RecV.mark_R_Old_B (x : RecV) (k : Int) : (x.mark k).R.Old.B.length = x.R.Old.B.length := by simp [RecV.mark, RowV.mark, CellV.mark, marks_length, markL_length]
theorem RecV.take_R_Old_B {β : Type} (f : UInt8 → β) (x : RecV) (k : Int) : ((x.mark k).R.Old.B.map f).take x.R.Old.B.length = (x.mark k).R.Old.B.map f := by rw [← x.mark_R_Old_B k, take_map]
theorem RecV.mark_R_New_B (x : RecV) (k : Int) : (x.mark k).R.New.B.length = x.R.New.B.length := by simp [RecV.mark, RowV.mark, CellV.mark, marks_length, markL_length]
theorem RecV.take_R_New_B {β : Type} (f : UInt8 → β) (x : RecV) (k : Int) : ((x.mark k).R.New.B.map f).take x.R.New.B.length = (x.mark k).R.New.B.map f := by rw [← x.mark_R_New_B k, take_map]
theorem RecV.far_le {x : RecV} (hx : x.Len) (k : Int) : k ≤ x.far k ∧ x.far k ≤ k + 4194304 := by
  have h0 : x.R.Len := hx
  have w0 := RowV.far_le h0 k
  simp only [RecV.far]
  omega
structure ActV where
  Kind : Int
  Who : Int
  Seq : Int
  Key : ByteArray
  Text : ByteArray
  Code : Int
  deriving DecidableEq
abbrev ActV.row (x : ActV) : List Go.X.T := [iT x.Kind, iT x.Who, iT x.Seq, sT x.Key, sT x.Text, iT x.Code]
def ActV.In (n : Nat) (x : ActV) : Prop := x.Key.size ≤ n ∧ x.Text.size ≤ n
theorem ActV.In.mono {x : ActV} {n m : Nat} (h : x.In n) (hn : n ≤ m) : x.In m := by
  simp only [ActV.In] at h ⊢
  exact ⟨Nat.le_trans h.1 hn, Nat.le_trans h.2 hn⟩
def szAct (x : ActV) (k : Int) : Int := szAll [(fun k => k - (x.Key.size : Nat)), (fun k => k - (x.Text.size : Nat))] k
theorem szAct_sane (x : ActV) : Sane (szAct x) := Sane.all (.cons (Sane.sub _) (.cons (Sane.sub _) .nil))
theorem szAct_in {x : ActV} {k : Int} {n : Nat} (hk : 0 ≤ k) (hn : k ≤ n) (h : 0 ≤ szAct x k) : x.In n := by
  obtain ⟨⟨j0, a0, b0, c0⟩, ⟨j1, a1, b1, c1⟩, _⟩ := szAll_ex (.cons (Sane.sub _) (.cons (Sane.sub _) .nil)) hk hn h
  exact ⟨(by have q : (0 : Int) ≤ j0 - _ := c0; omega), (by have q : (0 : Int) ≤ j1 - _ := c1; omega)⟩
def mkAct (k : Int) : ActV := ⟨k, k + 1, k + 1 + 1, mkS (k + 1 + 1 + 1), mkS (k + 1 + 1 + 1 + 1), k + 1 + 1 + 1 + 1 + 1⟩
end Go.X

/- F -/
namespace Go.X
set_option maxRecDepth 100000
set_option maxHeartbeats 8000000
/-- n lies between. -/
def win (n a b : Int) : Bool := decide (n ≥ a) && decide (n ≤ b)
def x_i_within : FnX := ⟨15, [.tmp 6],
  .seq (.reg [⟨none, some 6, 6, .mv (.k (.one (.pv (.bool false))))⟩])
 (.seq (.reg [⟨none, some 7, 7, .mv (.t 0)⟩,
   ⟨none, some 8, 8, .mv (.t 1)⟩,
   ⟨none, some 9, 9, .bin .geq (.t 7) (.t 8)⟩,
   ⟨none, some 10, 10, .mv (.t 9)⟩,
   ⟨(some (10, true)), some 11, 11, .mv (.t 0)⟩,
   ⟨(some (10, true)), some 12, 12, .mv (.t 2)⟩,
   ⟨(some (10, true)), some 13, 13, .bin .leq (.t 11) (.t 12)⟩,
   ⟨none, some 14, 14, .pick (.t 10) (.t 13) (.k (.one (.pv (.bool false))))⟩,
   ⟨none, some 6, 6, .mv (.t 14)⟩])
 (.ret))⟩
abbrev C_i_within (Te : Nat → List AV → Res → Prop) : Prop := ∀ (n a b : Int), Te 58 [.one (iT n), .one (iT a), .one (iT b)] ⟨[.one (bT (win n a b))], [[iT n], [iT a], [iT b]]⟩
theorem r_i_within {Te : Nat → List AV → Res → Prop} : ∀ (n a b : Int), RunFn Te x_i_within [.one (iT n), .one (iT a), .one (iT b)] ⟨[.one (bT (win n a b))], [[iT n], [iT a], [iT b]]⟩ := by
  intro n a b
  refine ⟨by simp -implicitDefEqProofs (maxSteps := 1000000) only [x_i_within, go_sem], ?_⟩
  simp -implicitDefEqProofs (maxSteps := 1000000) only [x_i_within, go_sem]
  refine bif_cases (fun h => ?_) (fun h => ?_) <;> simp -implicitDefEqProofs (maxSteps := 1000000) only [h, go_sem, win]
def x_s_l1In : FnX := ⟨15, [.tmp 6],
  .seq (.reg [⟨none, some 6, 6, .mv (.k (.one (.pv (.bool false))))⟩])
 (.seq (.reg [⟨none, some 7, 7, .mv (.t 0)⟩,
   ⟨none, some 8, 8, .mv (.t 1)⟩,
   ⟨none, some 9, 9, .bin .geq (.t 7) (.t 8)⟩,
   ⟨none, some 10, 10, .mv (.t 9)⟩,
   ⟨(some (10, true)), some 11, 11, .mv (.t 0)⟩,
   ⟨(some (10, true)), some 12, 12, .mv (.t 2)⟩,
   ⟨(some (10, true)), some 13, 13, .bin .leq (.t 11) (.t 12)⟩,
   ⟨none, some 14, 14, .pick (.t 10) (.t 13) (.k (.one (.pv (.bool false))))⟩,
   ⟨none, some 6, 6, .mv (.t 14)⟩])
 (.ret))⟩
abbrev C_s_l1In (Te : Nat → List AV → Res → Prop) : Prop := ∀ (n a b : Int), Te 59 [.one (iT n), .one (iT a), .one (iT b)] ⟨[.one (bT (win n a b))], [[iT n], [iT a], [iT b]]⟩
theorem r_s_l1In {Te : Nat → List AV → Res → Prop} : ∀ (n a b : Int), RunFn Te x_s_l1In [.one (iT n), .one (iT a), .one (iT b)] ⟨[.one (bT (win n a b))], [[iT n], [iT a], [iT b]]⟩ := by
  intro n a b
  refine ⟨by simp -implicitDefEqProofs (maxSteps := 1000000) only [x_s_l1In, go_sem], ?_⟩
  simp -implicitDefEqProofs (maxSteps := 1000000) only [x_s_l1In, go_sem]
  refine bif_cases (fun h => ?_) (fun h => ?_) <;> simp -implicitDefEqProofs (maxSteps := 1000000) only [h, go_sem, win]
def x_i_isWord : FnX := ⟨5, [.tmp 2],
  .seq (.reg [⟨none, some 2, 2, .mv (.k (.one (.pv (.bool false))))⟩])
 (.seq (.reg [⟨none, some 3, 3, .mv (.t 0)⟩,
   ⟨none, some 4, 4, .call 58 [0, 0, 0] [(.t 3), (.k (.one (.pv (.int .i64 0)))), (.k (.one (.pv (.int .i64 65535))))]⟩,
   ⟨none, some 2, 2, .mv (.t 4)⟩])
 (.ret))⟩
abbrev C_i_isWord (Te : Nat → List AV → Res → Prop) : Prop := ∀ (n : Int), Te 76 [.one (iT n)] ⟨[.one (bT (win n 0 65535))], [[iT n]]⟩
theorem r_i_isWord {Te : Nat → List AV → Res → Prop} (c_i_within : C_i_within Te) : ∀ (n : Int), RunFn Te x_i_isWord [.one (iT n)] ⟨[.one (bT (win n 0 65535))], [[iT n]]⟩ := by
  intro n
  refine ⟨by simp -implicitDefEqProofs (maxSteps := 1000000) only [x_i_isWord, go_sem], ?_⟩
  simp -implicitDefEqProofs (maxSteps := 1000000) only [x_i_isWord, go_sem]
  refine .of (c_i_within _ _ _) ?_
  simp -implicitDefEqProofs (maxSteps := 1000000) only [go_sem]
def x_s_l1Word : FnX := ⟨5, [.tmp 2],
  .seq (.reg [⟨none, some 2, 2, .mv (.k (.one (.pv (.bool false))))⟩])
 (.seq (.reg [⟨none, some 3, 3, .mv (.t 0)⟩,
   ⟨none, some 4, 4, .call 59 [0, 0, 0] [(.t 3), (.k (.one (.pv (.int .i64 0)))), (.k (.one (.pv (.int .i64 65535))))]⟩,
   ⟨none, some 2, 2, .mv (.t 4)⟩])
 (.ret))⟩
abbrev C_s_l1Word (Te : Nat → List AV → Res → Prop) : Prop := ∀ (n : Int), Te 77 [.one (iT n)] ⟨[.one (bT (win n 0 65535))], [[iT n]]⟩
theorem r_s_l1Word {Te : Nat → List AV → Res → Prop} (c_s_l1In : C_s_l1In Te) : ∀ (n : Int), RunFn Te x_s_l1Word [.one (iT n)] ⟨[.one (bT (win n 0 65535))], [[iT n]]⟩ := by
  intro n
  refine ⟨by simp -implicitDefEqProofs (maxSteps := 1000000) only [x_s_l1Word, go_sem], ?_⟩
  simp -implicitDefEqProofs (maxSteps := 1000000) only [x_s_l1Word, go_sem]
  refine .of (c_s_l1In _ _ _) ?_
  simp -implicitDefEqProofs (maxSteps := 1000000) only [go_sem]
def Msg.ok (m : Msg) : Bool := win m.Kind 1 9 && win m.From 0 4 && win m.To 0 4 && (m.From != m.To) && win m.Seq 0 65535 && decide ((m.Key.size : Int) ≤ 60) && decide ((m.Text.size : Int) ≤ 60) && win m.N 0 255 && win m.Code 0 6
def x_i_MsgOk : FnX := ⟨50, [.tmp 2],
  .seq (.reg [⟨none, some 1, 1, .box (.t 0)⟩,
   ⟨none, some 2, 2, .mv (.k (.one (.pv (.bool false))))⟩])
 (.seq (.reg [⟨none, some 3, 3, .faddr (.t 1) 0⟩,
   ⟨none, some 4, 4, .load none (.t 3)⟩,
   ⟨none, some 5, 5, .call 58 [0, 0, 0] [(.t 4), (.k (.one (.pv (.int .i64 1)))), (.k (.one (.pv (.int .i64 9))))]⟩,
   ⟨none, some 6, 6, .mv (.t 5)⟩,
   ⟨(some (6, true)), some 7, 7, .faddr (.t 1) 1⟩,
   ⟨(some (6, true)), some 8, 8, .load none (.t 7)⟩,
   ⟨(some (6, true)), some 9, 9, .call 58 [0, 0, 0] [(.t 8), (.k (.one (.pv (.int .i64 0)))), (.k (.one (.pv (.int .i64 4))))]⟩,
   ⟨none, some 10, 10, .pick (.t 6) (.t 9) (.k (.one (.pv (.bool false))))⟩,
   ⟨none, some 11, 11, .mv (.t 10)⟩,
   ⟨(some (11, true)), some 12, 12, .faddr (.t 1) 2⟩,
   ⟨(some (11, true)), some 13, 13, .load none (.t 12)⟩,
   ⟨(some (11, true)), some 14, 14, .call 58 [0, 0, 0] [(.t 13), (.k (.one (.pv (.int .i64 0)))), (.k (.one (.pv (.int .i64 4))))]⟩,
   ⟨none, some 15, 15, .pick (.t 11) (.t 14) (.k (.one (.pv (.bool false))))⟩,
   ⟨none, some 16, 16, .mv (.t 15)⟩,
   ⟨(some (16, true)), some 17, 17, .faddr (.t 1) 1⟩,
   ⟨(some (16, true)), some 18, 18, .load none (.t 17)⟩,
   ⟨(some (16, true)), some 19, 19, .faddr (.t 1) 2⟩,
   ⟨(some (16, true)), some 20, 20, .load none (.t 19)⟩,
   ⟨(some (16, true)), some 21, 21, .bin .neq (.t 18) (.t 20)⟩,
   ⟨none, some 22, 22, .pick (.t 16) (.t 21) (.k (.one (.pv (.bool false))))⟩,
   ⟨none, some 23, 23, .mv (.t 22)⟩,
   ⟨(some (23, true)), some 24, 24, .faddr (.t 1) 3⟩,
   ⟨(some (23, true)), some 25, 25, .load none (.t 24)⟩,
   ⟨(some (23, true)), some 26, 26, .call 76 [0] [(.t 25)]⟩,
   ⟨none, some 27, 27, .pick (.t 23) (.t 26) (.k (.one (.pv (.bool false))))⟩,
   ⟨none, some 28, 28, .mv (.t 27)⟩,
   ⟨(some (28, true)), some 29, 29, .faddr (.t 1) 4⟩,
   ⟨(some (28, true)), some 30, 30, .load none (.t 29)⟩,
   ⟨(some (28, true)), some 31, 31, .slen (.t 30)⟩,
   ⟨(some (28, true)), some 32, 32, .bin .leq (.t 31) (.k (.one (.pv (.int .i64 60))))⟩,
   ⟨none, some 33, 33, .pick (.t 28) (.t 32) (.k (.one (.pv (.bool false))))⟩,
   ⟨none, some 34, 34, .mv (.t 33)⟩,
   ⟨(some (34, true)), some 35, 35, .faddr (.t 1) 5⟩,
   ⟨(some (34, true)), some 36, 36, .load none (.t 35)⟩,
   ⟨(some (34, true)), some 37, 37, .slen (.t 36)⟩,
   ⟨(some (34, true)), some 38, 38, .bin .leq (.t 37) (.k (.one (.pv (.int .i64 60))))⟩,
   ⟨none, some 39, 39, .pick (.t 34) (.t 38) (.k (.one (.pv (.bool false))))⟩,
   ⟨none, some 40, 40, .mv (.t 39)⟩,
   ⟨(some (40, true)), some 41, 41, .faddr (.t 1) 6⟩,
   ⟨(some (40, true)), some 42, 42, .load none (.t 41)⟩,
   ⟨(some (40, true)), some 43, 43, .call 58 [0, 0, 0] [(.t 42), (.k (.one (.pv (.int .i64 0)))), (.k (.one (.pv (.int .i64 255))))]⟩,
   ⟨none, some 44, 44, .pick (.t 40) (.t 43) (.k (.one (.pv (.bool false))))⟩,
   ⟨none, some 45, 45, .mv (.t 44)⟩,
   ⟨(some (45, true)), some 46, 46, .faddr (.t 1) 7⟩,
   ⟨(some (45, true)), some 47, 47, .load none (.t 46)⟩,
   ⟨(some (45, true)), some 48, 48, .call 58 [0, 0, 0] [(.t 47), (.k (.one (.pv (.int .i64 0)))), (.k (.one (.pv (.int .i64 6))))]⟩,
   ⟨none, some 49, 49, .pick (.t 45) (.t 48) (.k (.one (.pv (.bool false))))⟩,
   ⟨none, some 2, 2, .mv (.t 49)⟩])
 (.ret))⟩
abbrev C_i_MsgOk (Te : Nat → List AV → Res → Prop) : Prop := ∀ (m : Msg), Te 50 [.agg m.row] ⟨[.one (bT m.ok)], [m.row]⟩
theorem r_i_MsgOk {Te : Nat → List AV → Res → Prop} (c_i_within : C_i_within Te) (c_i_isWord : C_i_isWord Te) : ∀ (m : Msg), RunFn Te x_i_MsgOk [.agg m.row] ⟨[.one (bT m.ok)], [m.row]⟩ := by
  intro m
  refine ⟨by simp -implicitDefEqProofs (maxSteps := 1000000) only [x_i_MsgOk, go_sem], ?_⟩
  simp -implicitDefEqProofs (maxSteps := 1000000) only [x_i_MsgOk, go_sem, Msg.ok]
  refine .of (c_i_within _ _ _) ?_
  simp -implicitDefEqProofs (maxSteps := 1000000) only [go_sem]
  refine bif_cases (fun h1 => ?_) (fun h1 => ?_) <;> simp -implicitDefEqProofs (maxSteps := 1000000) only [h1, go_sem]
  refine .of (c_i_within _ _ _) ?_
  simp -implicitDefEqProofs (maxSteps := 1000000) only [go_sem]
  refine bif_cases (fun h2 => ?_) (fun h2 => ?_) <;> simp -implicitDefEqProofs (maxSteps := 1000000) only [h2, go_sem]
  refine .of (c_i_within _ _ _) ?_
  simp -implicitDefEqProofs (maxSteps := 1000000) only [go_sem]
  refine bif_cases (fun h3 => ?_) (fun h3 => ?_) <;> simp -implicitDefEqProofs (maxSteps := 1000000) only [h3, go_sem]
  refine bif_cases (fun h4 => ?_) (fun h4 => ?_) <;> simp -implicitDefEqProofs (maxSteps := 1000000) only [h4, go_sem]
  refine .of (c_i_isWord _) ?_
  simp -implicitDefEqProofs (maxSteps := 1000000) only [go_sem]
  refine bif_cases (fun h5 => ?_) (fun h5 => ?_) <;> simp -implicitDefEqProofs (maxSteps := 1000000) only [h5, go_sem]
  refine bif_cases (fun h6 => ?_) (fun h6 => ?_) <;> simp -implicitDefEqProofs (maxSteps := 1000000) only [h6, go_sem]
  refine bif_cases (fun h7 => ?_) (fun h7 => ?_) <;> simp -implicitDefEqProofs (maxSteps := 1000000) only [h7, go_sem]
  refine .of (c_i_within _ _ _) ?_
  simp -implicitDefEqProofs (maxSteps := 1000000) only [go_sem]
  refine bif_cases (fun h8 => ?_) (fun h8 => ?_) <;> simp -implicitDefEqProofs (maxSteps := 1000000) only [h8, go_sem]
  refine .of (c_i_within _ _ _) ?_
  simp -implicitDefEqProofs (maxSteps := 1000000) only [go_sem]
def x_s_MsgOk : FnX := ⟨50, [.tmp 2],
  .seq (.reg [⟨none, some 1, 1, .box (.t 0)⟩,
   ⟨none, some 2, 2, .mv (.k (.one (.pv (.bool false))))⟩])
 (.seq (.reg [⟨none, some 3, 3, .faddr (.t 1) 0⟩,
   ⟨none, some 4, 4, .load none (.t 3)⟩,
   ⟨none, some 5, 5, .call 59 [0, 0, 0] [(.t 4), (.k (.one (.pv (.int .i64 1)))), (.k (.one (.pv (.int .i64 9))))]⟩,
   ⟨none, some 6, 6, .mv (.t 5)⟩,
   ⟨(some (6, true)), some 7, 7, .faddr (.t 1) 1⟩,
   ⟨(some (6, true)), some 8, 8, .load none (.t 7)⟩,
   ⟨(some (6, true)), some 9, 9, .call 59 [0, 0, 0] [(.t 8), (.k (.one (.pv (.int .i64 0)))), (.k (.one (.pv (.int .i64 4))))]⟩,
   ⟨none, some 10, 10, .pick (.t 6) (.t 9) (.k (.one (.pv (.bool false))))⟩,
   ⟨none, some 11, 11, .mv (.t 10)⟩,
   ⟨(some (11, true)), some 12, 12, .faddr (.t 1) 2⟩,
   ⟨(some (11, true)), some 13, 13, .load none (.t 12)⟩,
   ⟨(some (11, true)), some 14, 14, .call 59 [0, 0, 0] [(.t 13), (.k (.one (.pv (.int .i64 0)))), (.k (.one (.pv (.int .i64 4))))]⟩,
   ⟨none, some 15, 15, .pick (.t 11) (.t 14) (.k (.one (.pv (.bool false))))⟩,
   ⟨none, some 16, 16, .mv (.t 15)⟩,
   ⟨(some (16, true)), some 17, 17, .faddr (.t 1) 1⟩,
   ⟨(some (16, true)), some 18, 18, .load none (.t 17)⟩,
   ⟨(some (16, true)), some 19, 19, .faddr (.t 1) 2⟩,
   ⟨(some (16, true)), some 20, 20, .load none (.t 19)⟩,
   ⟨(some (16, true)), some 21, 21, .bin .neq (.t 18) (.t 20)⟩,
   ⟨none, some 22, 22, .pick (.t 16) (.t 21) (.k (.one (.pv (.bool false))))⟩,
   ⟨none, some 23, 23, .mv (.t 22)⟩,
   ⟨(some (23, true)), some 24, 24, .faddr (.t 1) 3⟩,
   ⟨(some (23, true)), some 25, 25, .load none (.t 24)⟩,
   ⟨(some (23, true)), some 26, 26, .call 77 [0] [(.t 25)]⟩,
   ⟨none, some 27, 27, .pick (.t 23) (.t 26) (.k (.one (.pv (.bool false))))⟩,
   ⟨none, some 28, 28, .mv (.t 27)⟩,
   ⟨(some (28, true)), some 29, 29, .faddr (.t 1) 4⟩,
   ⟨(some (28, true)), some 30, 30, .load none (.t 29)⟩,
   ⟨(some (28, true)), some 31, 31, .slen (.t 30)⟩,
   ⟨(some (28, true)), some 32, 32, .bin .leq (.t 31) (.k (.one (.pv (.int .i64 60))))⟩,
   ⟨none, some 33, 33, .pick (.t 28) (.t 32) (.k (.one (.pv (.bool false))))⟩,
   ⟨none, some 34, 34, .mv (.t 33)⟩,
   ⟨(some (34, true)), some 35, 35, .faddr (.t 1) 5⟩,
   ⟨(some (34, true)), some 36, 36, .load none (.t 35)⟩,
   ⟨(some (34, true)), some 37, 37, .slen (.t 36)⟩,
   ⟨(some (34, true)), some 38, 38, .bin .leq (.t 37) (.k (.one (.pv (.int .i64 60))))⟩,
   ⟨none, some 39, 39, .pick (.t 34) (.t 38) (.k (.one (.pv (.bool false))))⟩,
   ⟨none, some 40, 40, .mv (.t 39)⟩,
   ⟨(some (40, true)), some 41, 41, .faddr (.t 1) 6⟩,
   ⟨(some (40, true)), some 42, 42, .load none (.t 41)⟩,
   ⟨(some (40, true)), some 43, 43, .call 59 [0, 0, 0] [(.t 42), (.k (.one (.pv (.int .i64 0)))), (.k (.one (.pv (.int .i64 255))))]⟩,
   ⟨none, some 44, 44, .pick (.t 40) (.t 43) (.k (.one (.pv (.bool false))))⟩,
   ⟨none, some 45, 45, .mv (.t 44)⟩,
   ⟨(some (45, true)), some 46, 46, .faddr (.t 1) 7⟩,
   ⟨(some (45, true)), some 47, 47, .load none (.t 46)⟩,
   ⟨(some (45, true)), some 48, 48, .call 59 [0, 0, 0] [(.t 47), (.k (.one (.pv (.int .i64 0)))), (.k (.one (.pv (.int .i64 6))))]⟩,
   ⟨none, some 49, 49, .pick (.t 45) (.t 48) (.k (.one (.pv (.bool false))))⟩,
   ⟨none, some 2, 2, .mv (.t 49)⟩])
 (.ret))⟩
abbrev C_s_MsgOk (Te : Nat → List AV → Res → Prop) : Prop := ∀ (m : Msg), Te 55 [.agg m.row] ⟨[.one (bT m.ok)], [m.row]⟩
theorem r_s_MsgOk {Te : Nat → List AV → Res → Prop} (c_s_l1In : C_s_l1In Te) (c_s_l1Word : C_s_l1Word Te) : ∀ (m : Msg), RunFn Te x_s_MsgOk [.agg m.row] ⟨[.one (bT m.ok)], [m.row]⟩ := by
  intro m
  refine ⟨by simp -implicitDefEqProofs (maxSteps := 1000000) only [x_s_MsgOk, go_sem], ?_⟩
  simp -implicitDefEqProofs (maxSteps := 1000000) only [x_s_MsgOk, go_sem, Msg.ok]
  refine .of (c_s_l1In _ _ _) ?_
  simp -implicitDefEqProofs (maxSteps := 1000000) only [go_sem]
  refine bif_cases (fun h1 => ?_) (fun h1 => ?_) <;> simp -implicitDefEqProofs (maxSteps := 1000000) only [h1, go_sem]
  refine .of (c_s_l1In _ _ _) ?_
  simp -implicitDefEqProofs (maxSteps := 1000000) only [go_sem]
  refine bif_cases (fun h2 => ?_) (fun h2 => ?_) <;> simp -implicitDefEqProofs (maxSteps := 1000000) only [h2, go_sem]
  refine .of (c_s_l1In _ _ _) ?_
  simp -implicitDefEqProofs (maxSteps := 1000000) only [go_sem]
  refine bif_cases (fun h3 => ?_) (fun h3 => ?_) <;> simp -implicitDefEqProofs (maxSteps := 1000000) only [h3, go_sem]
  refine bif_cases (fun h4 => ?_) (fun h4 => ?_) <;> simp -implicitDefEqProofs (maxSteps := 1000000) only [h4, go_sem]
  refine .of (c_s_l1Word _) ?_
  simp -implicitDefEqProofs (maxSteps := 1000000) only [go_sem]
  refine bif_cases (fun h5 => ?_) (fun h5 => ?_) <;> simp -implicitDefEqProofs (maxSteps := 1000000) only [h5, go_sem]
  refine bif_cases (fun h6 => ?_) (fun h6 => ?_) <;> simp -implicitDefEqProofs (maxSteps := 1000000) only [h6, go_sem]
  refine bif_cases (fun h7 => ?_) (fun h7 => ?_) <;> simp -implicitDefEqProofs (maxSteps := 1000000) only [h7, go_sem]
  refine .of (c_s_l1In _ _ _) ?_
  simp -implicitDefEqProofs (maxSteps := 1000000) only [go_sem]
  refine bif_cases (fun h8 => ?_) (fun h8 => ?_) <;> simp -implicitDefEqProofs (maxSteps := 1000000) only [h8, go_sem]
  refine .of (c_s_l1In _ _ _) ?_
  simp -implicitDefEqProofs (maxSteps := 1000000) only [go_sem]
end Go.X

/- K -/
namespace Go.X
set_option maxRecDepth 100000
set_option maxHeartbeats 8000000
abbrev bytesR (o : Bool) (l : List UInt8) : List T := [slT o 1 uR l]
theorem toNat_ofInt (a : Nat) (h : a < 2 ^ 62) : (BitVec.ofInt 64 (a : Int)).toNat = a := by
  rw [BitVec.toNat_ofInt]
  omega
theorem xor_nat (a b : Nat) (ha : a < 2 ^ 62) (hb : b < 2 ^ 62) : xorK .i64 (a : Int) (b : Int) = ((a ^^^ b : Nat) : Int) := by
  rw [xorK_def, show IntKind.i64.bits = 64 from rfl, BitVec.toNat_xor, toNat_ofInt a ha, toNat_ofInt b hb, IntWalk.i64_in]
  have := Nat.xor_lt_two_pow ha hb
  omega
theorem or_nat (a b : Nat) (ha : a < 2 ^ 62) (hb : b < 2 ^ 62) : orK .i64 (a : Int) (b : Int) = ((a ||| b : Nat) : Int) := by
  rw [orK_def, show IntKind.i64.bits = 64 from rfl, BitVec.toNat_or, toNat_ofInt a ha, toNat_ofInt b hb, IntWalk.i64_in]
  have := Nat.or_lt_two_pow ha hb
  omega
theorem and_nat (a b : Nat) (ha : a < 2 ^ 62) (hb : b < 2 ^ 62) : andK .i64 (a : Int) (b : Int) = ((a &&& b : Nat) : Int) := by
  rw [andK_def, show IntKind.i64.bits = 64 from rfl, BitVec.toNat_and, toNat_ofInt a ha, toNat_ofInt b hb, IntWalk.i64_in]
  have := Nat.and_lt_two_pow a hb
  omega
theorem min8 : Nat.min 8 64 = 8 := rfl
theorem and255 (a : Int) : mkU (andK .i64 a 255) = mkU a := by
  rw [andK_def]
  show mkU (IntKind.i64.wrap ((BitVec.ofInt 64 a &&& BitVec.ofInt 64 255).toNat)) = mkU a
  have e : (BitVec.ofInt 64 a &&& BitVec.ofInt 64 255).toNat = (a % 256).toNat := by
    rw [BitVec.toNat_and, BitVec.toNat_ofInt, show (BitVec.ofInt 64 255).toNat = 2 ^ 8 - 1 by decide, Nat.and_two_pow_sub_one_eq_mod]
    omega
  rw [e, IntWalk.i64_in _ (by omega)]
  simp only [mkU]
  congr 1
  omega
theorem ofBytes_eq (l : List UInt8) : ofBytes l = l.map uR := rfl
def hiB (n : Int) : UInt8 := mkU (n.fdiv 256)
def putW (b : List UInt8) (n : Int) : List UInt8 := b ++ [hiB n, mkU n]
def putText (b : List UInt8) (s : ByteArray) : List UInt8 := if (s.size : Int) > 60 then b else putW b s.size ++ s.data.toList
def sumBit (s : Nat) : Nat := if 2 * s > 65535 then 2 * s ^^^ 69665 else 2 * s
def sumBits : Nat → Nat → Nat
  | 0, s => s
  | n + 1, s => sumBit (sumBits n s)
def sumByte (s : Nat) (b : UInt8) : Nat := sumBits 8 (s ^^^ (256 * b.toNat))
def sum (l : List UInt8) : Nat := l.foldl sumByte 65535 &&& 65535
theorem sumBit_lt {s : Nat} (h : s < 65536) : sumBit s < 65536 := by
  unfold sumBit
  split
  · rename_i q
    have h1 : 2 * s < 2 ^ 17 := by omega
    refine Nat.lt_pow_two_of_testBit (n := 16) _ fun i hi => ?_
    rw [Nat.testBit_xor]
    by_cases h16 : i = 16
    · subst h16
      have : (2 * s).testBit 16 = true := by
        rw [Nat.testBit_eq_decide_div_mod_eq]
        have : 2 * s / 2 ^ 16 = 1 := by omega
        simp [this]
      rw [this]; decide
    · rw [Nat.testBit_lt_two_pow (Nat.lt_of_lt_of_le h1 (Nat.pow_le_pow_right (by decide) (by omega))), Nat.testBit_lt_two_pow (Nat.lt_of_lt_of_le (show 69665 < 2 ^ 17 by decide) (Nat.pow_le_pow_right (by decide) (by omega)))]
      rfl
  · omega
theorem sumBits_lt (n : Nat) {s : Nat} (h : s < 65536) : sumBits n s < 65536 := by
  induction n with
  | zero => exact h
  | succ n ih => exact sumBit_lt ih
theorem sumX_lt {s : Nat} (b : UInt8) (h : s < 65536) : s ^^^ (256 * b.toNat) < 65536 := Nat.xor_lt_two_pow (n := 16) h (by have := b.toNat_lt; omega)
theorem sumByte_lt {s : Nat} (b : UInt8) (h : s < 65536) : sumByte s b < 65536 := sumBits_lt 8 (sumX_lt b h)
end Go.X

/- L -/
namespace Go.X
set_option maxRecDepth 100000
set_option maxHeartbeats 8000000
def client0 (id : Int) : ClientV := ⟨id, 0, false, ⟨0, 0, 0, 0, ⟨#[]⟩, ⟨#[]⟩, 0, 0⟩, []⟩
theorem client0_len (id : Int) : (client0 id).Len := by show 0 ≤ 2 ^ 31; decide
def x_i_ClientNew : FnX := ⟨5, [.cell 2 (some 12)],
  .seq (.reg [⟨none, some 2, 2, .alloc [.pv (.int .i64 0), .pv (.int .i64 0), .pv (.bool false), .pv (.int .i64 0), .pv (.int .i64 0), .pv (.int .i64 0), .pv (.int .i64 0), .pv (.string ⟨#[]⟩), .pv (.string ⟨#[]⟩), .pv (.int .i64 0), .pv (.int .i64 0), .nils 5]⟩])
 (.seq (.reg [⟨none, some 3, 3, .mv (.t 0)⟩,
   ⟨none, some 4, 4, .build [.pv (.int .i64 0), .pv (.int .i64 0), .pv (.bool false), .pv (.int .i64 0), .pv (.int .i64 0), .pv (.int .i64 0), .pv (.int .i64 0), .pv (.string ⟨#[]⟩), .pv (.string ⟨#[]⟩), .pv (.int .i64 0), .pv (.int .i64 0), .nils 5] [(0, 1, (.t 3))]⟩,
   ⟨none, none, 100001, .store 12 (.t 2) (.t 4)⟩])
 (.ret))⟩
abbrev C_i_ClientNew (Te : Nat → List AV → Res → Prop) : Prop := ∀ (id : Int), Te 20 [.one (iT id)] ⟨[.agg ((client0 id).enc true)], [[iT id]]⟩
theorem r_i_ClientNew {Te : Nat → List AV → Res → Prop} : ∀ (id : Int), RunFn Te x_i_ClientNew [.one (iT id)] ⟨[.agg ((client0 id).enc true)], [[iT id]]⟩ := by
  intro id
  refine ⟨by simp -implicitDefEqProofs (maxSteps := 1000000) only [x_i_ClientNew, go_sem], ?_⟩
  simp -implicitDefEqProofs (maxSteps := 1000000) only [x_i_ClientNew, go_sem]
  rfl
def x_s_ClientNew : FnX := ⟨5, [.cell 2 (some 12)],
  .seq (.reg [⟨none, some 2, 2, .alloc [.pv (.int .i64 0), .pv (.int .i64 0), .pv (.bool false), .pv (.int .i64 0), .pv (.int .i64 0), .pv (.int .i64 0), .pv (.int .i64 0), .pv (.string ⟨#[]⟩), .pv (.string ⟨#[]⟩), .pv (.int .i64 0), .pv (.int .i64 0), .nils 5]⟩])
 (.seq (.reg [⟨none, some 3, 3, .mv (.t 0)⟩,
   ⟨none, some 4, 4, .build [.pv (.int .i64 0), .pv (.int .i64 0), .pv (.bool false), .pv (.int .i64 0), .pv (.int .i64 0), .pv (.int .i64 0), .pv (.int .i64 0), .pv (.string ⟨#[]⟩), .pv (.string ⟨#[]⟩), .pv (.int .i64 0), .pv (.int .i64 0), .nils 5] [(0, 1, (.t 3))]⟩,
   ⟨none, none, 100001, .store 12 (.t 2) (.t 4)⟩])
 (.ret))⟩
abbrev C_s_ClientNew (Te : Nat → List AV → Res → Prop) : Prop := ∀ (id : Int), Te 81 [.one (iT id)] ⟨[.agg ((client0 id).enc true)], [[iT id]]⟩
theorem r_s_ClientNew {Te : Nat → List AV → Res → Prop} : ∀ (id : Int), RunFn Te x_s_ClientNew [.one (iT id)] ⟨[.agg ((client0 id).enc true)], [[iT id]]⟩ := by
  intro id
  refine ⟨by simp -implicitDefEqProofs (maxSteps := 1000000) only [x_s_ClientNew, go_sem], ?_⟩
  simp -implicitDefEqProofs (maxSteps := 1000000) only [x_s_ClientNew, go_sem]
  rfl
def asked1 (k : Int) : Bool := (k == 1) || (k == 3) || (k == 4)
def x_i_isAsked : FnX := ⟨13, [.tmp 2],
  .seq (.reg [⟨none, some 2, 2, .mv (.k (.one (.pv (.bool false))))⟩])
 (.seq (.reg [⟨none, some 3, 3, .mv (.t 0)⟩,
   ⟨none, some 4, 4, .bin .eql (.t 3) (.k (.one (.pv (.int .i64 1))))⟩,
   ⟨none, some 5, 5, .mv (.t 4)⟩,
   ⟨(some (5, false)), some 6, 6, .mv (.t 0)⟩,
   ⟨(some (5, false)), some 7, 7, .bin .eql (.t 6) (.k (.one (.pv (.int .i64 3))))⟩,
   ⟨none, some 8, 8, .pick (.t 5) (.k (.one (.pv (.bool true)))) (.t 7)⟩,
   ⟨none, some 9, 9, .mv (.t 8)⟩,
   ⟨(some (9, false)), some 10, 10, .mv (.t 0)⟩,
   ⟨(some (9, false)), some 11, 11, .bin .eql (.t 10) (.k (.one (.pv (.int .i64 4))))⟩,
   ⟨none, some 12, 12, .pick (.t 9) (.k (.one (.pv (.bool true)))) (.t 11)⟩,
   ⟨none, some 2, 2, .mv (.t 12)⟩])
 (.ret))⟩
abbrev C_i_isAsked (Te : Nat → List AV → Res → Prop) : Prop := ∀ (k : Int), Te 49 [.one (iT k)] ⟨[.one (bT (asked1 k))], [[iT k]]⟩
theorem r_i_isAsked {Te : Nat → List AV → Res → Prop} : ∀ (k : Int), RunFn Te x_i_isAsked [.one (iT k)] ⟨[.one (bT (asked1 k))], [[iT k]]⟩ := by
  intro k
  refine ⟨by simp -implicitDefEqProofs (maxSteps := 1000000) only [x_i_isAsked, go_sem], ?_⟩
  cases g1 : (k == 1)
  · cases g2 : (k == 3)
    · simp -implicitDefEqProofs (maxSteps := 1000000) only [x_i_isAsked, go_sem, g1, g2, asked1]
    · simp -implicitDefEqProofs (maxSteps := 1000000) only [x_i_isAsked, go_sem, g1, g2, asked1]
  · simp -implicitDefEqProofs (maxSteps := 1000000) only [x_i_isAsked, go_sem, g1, asked1]
def x_s_l20Kind : FnX := ⟨13, [.tmp 2],
  .seq (.reg [⟨none, some 2, 2, .mv (.k (.one (.pv (.bool false))))⟩])
 (.seq (.reg [⟨none, some 3, 3, .mv (.t 0)⟩,
   ⟨none, some 4, 4, .bin .eql (.t 3) (.k (.one (.pv (.int .i64 1))))⟩,
   ⟨none, some 5, 5, .mv (.t 4)⟩,
   ⟨(some (5, false)), some 6, 6, .mv (.t 0)⟩,
   ⟨(some (5, false)), some 7, 7, .bin .eql (.t 6) (.k (.one (.pv (.int .i64 3))))⟩,
   ⟨none, some 8, 8, .pick (.t 5) (.k (.one (.pv (.bool true)))) (.t 7)⟩,
   ⟨none, some 9, 9, .mv (.t 8)⟩,
   ⟨(some (9, false)), some 10, 10, .mv (.t 0)⟩,
   ⟨(some (9, false)), some 11, 11, .bin .eql (.t 10) (.k (.one (.pv (.int .i64 4))))⟩,
   ⟨none, some 12, 12, .pick (.t 9) (.k (.one (.pv (.bool true)))) (.t 11)⟩,
   ⟨none, some 2, 2, .mv (.t 12)⟩])
 (.ret))⟩
abbrev C_s_l20Kind (Te : Nat → List AV → Res → Prop) : Prop := ∀ (k : Int), Te 54 [.one (iT k)] ⟨[.one (bT (asked1 k))], [[iT k]]⟩
theorem r_s_l20Kind {Te : Nat → List AV → Res → Prop} : ∀ (k : Int), RunFn Te x_s_l20Kind [.one (iT k)] ⟨[.one (bT (asked1 k))], [[iT k]]⟩ := by
  intro k
  refine ⟨by simp -implicitDefEqProofs (maxSteps := 1000000) only [x_s_l20Kind, go_sem], ?_⟩
  cases g1 : (k == 1)
  · cases g2 : (k == 3)
    · simp -implicitDefEqProofs (maxSteps := 1000000) only [x_s_l20Kind, go_sem, g1, g2, asked1]
    · simp -implicitDefEqProofs (maxSteps := 1000000) only [x_s_l20Kind, go_sem, g1, g2, asked1]
  · simp -implicitDefEqProofs (maxSteps := 1000000) only [x_s_l20Kind, go_sem, g1, asked1]
def nodeOf (s : ByteArray) : Int := if s.size = 0 then 3 else 3 + ((s.data.toList.getD 0 0).toNat % 2 : Nat)
theorem nodeOf_rem (b : UInt8) : ((b.toNat : Int)).tmod 2 = ((b.toNat % 2 : Nat) : Int) := by
  rw [Int.tmod_eq_emod_of_nonneg (by omega)]
  rfl
def x_i_NodeOf : FnX := ⟨11, [.tmp 2],
  .seq (.reg [⟨none, some 2, 2, .mv (.k (.one (.pv (.int .i64 0))))⟩])
 (.seq (.seq (.reg [⟨none, some 3, 3, .mv (.t 0)⟩,
   ⟨none, some 4, 4, .bin .neq (.t 3) (.k (.one (.pv (.string ⟨#[]⟩))))⟩,
   ⟨none, some 5, 5, .mv (.t 4)⟩,
   ⟨(some (5, true)), some 6, 6, .mv (.t 0)⟩,
   ⟨(some (5, true)), some 7, 7, .sidx (.t 6) (.k (.one (.pv (.int .i64 0))))⟩,
   ⟨(some (5, true)), some 8, 8, .bin .rem (.t 7) (.k (.one (.pv (.int .u8 2))))⟩,
   ⟨(some (5, true)), some 9, 9, .bin .eql (.t 8) (.k (.one (.pv (.int .u8 1))))⟩,
   ⟨none, some 10, 10, .pick (.t 5) (.t 9) (.k (.one (.pv (.bool false))))⟩])
 (.cond 10 (.seq (.reg [⟨none, some 2, 2, .mv (.k (.one (.pv (.int .i64 4))))⟩])
 (.ret)) (.skip)))
 (.seq (.reg [⟨none, some 2, 2, .mv (.k (.one (.pv (.int .i64 3))))⟩])
 (.ret)))⟩
abbrev C_i_NodeOf (Te : Nat → List AV → Res → Prop) : Prop := ∀ (s : ByteArray) (h : s.size ≤ 2 ^ 48), Te 48 [.one (sT s)] ⟨[.one (iT (nodeOf s))], [[sT s]]⟩
theorem r_i_NodeOf {Te : Nat → List AV → Res → Prop} : ∀ (s : ByteArray) (h : s.size ≤ 2 ^ 48), RunFn Te x_i_NodeOf [.one (sT s)] ⟨[.one (iT (nodeOf s))], [[sT s]]⟩ := by
  intro s h
  refine ⟨by simp -implicitDefEqProofs (maxSteps := 1000000) only [x_i_NodeOf, go_sem], ?_⟩
  cases g : decide (s = ⟨#[]⟩)
  · have g' : s ≠ ⟨#[]⟩ := by simpa using g
    have hs : 0 < s.size := by
      rcases Nat.eq_zero_or_pos s.size with q | q
      · exact absurd (by rcases s with ⟨⟨l⟩⟩; simp only [ByteArray.size, List.size_toArray, List.length_eq_zero_iff] at q; rw [q]) g'
      · exact q
    have hm := Nat.mod_lt (s.data.toList.getD 0 0).toNat (show 0 < 2 by decide)
    cases g2 : (((s.data.toList.getD 0 0).toNat % 2 : Nat) : Int) == 1
    · have e : nodeOf s = 3 := by
        simp only [beq_eq_false_iff_ne, ne_eq] at g2
        unfold nodeOf
        rw [if_neg (by omega)]
        omega
      simp -implicitDefEqProofs (maxSteps := 1000000) only [x_i_NodeOf, go_sem, g, nodeOf_rem, g2, e]
      repeat (first | refine ⟨rfl, ?_⟩ | refine ⟨by decide, ?_⟩ | refine ⟨decide_eq_true hs, ?_⟩)
      first | rfl | exact decide_eq_true hs
    · have e : nodeOf s = 4 := by
        simp only [beq_iff_eq] at g2
        unfold nodeOf
        rw [if_neg (by omega)]
        omega
      simp -implicitDefEqProofs (maxSteps := 1000000) only [x_i_NodeOf, go_sem, g, nodeOf_rem, g2, e]
      repeat (first | refine ⟨rfl, ?_⟩ | refine ⟨by decide, ?_⟩ | refine ⟨decide_eq_true hs, ?_⟩)
      first | rfl | exact decide_eq_true hs
  · have g' : s = ⟨#[]⟩ := by simpa using g
    have e : nodeOf s = 3 := by subst g'; rfl
    simp -implicitDefEqProofs (maxSteps := 1000000) only [x_i_NodeOf, go_sem, g, e]
def x_s_NodeOf : FnX := ⟨11, [.tmp 2],
  .seq (.reg [⟨none, some 2, 2, .mv (.k (.one (.pv (.int .i64 0))))⟩])
 (.seq (.seq (.reg [⟨none, some 3, 3, .mv (.t 0)⟩,
   ⟨none, some 4, 4, .slen (.t 3)⟩,
   ⟨none, some 5, 5, .bin .eql (.t 4) (.k (.one (.pv (.int .i64 0))))⟩])
 (.cond 5 (.seq (.reg [⟨none, some 2, 2, .mv (.k (.one (.pv (.int .i64 3))))⟩])
 (.ret)) (.skip)))
 (.seq (.reg [⟨none, some 6, 6, .mv (.t 0)⟩,
   ⟨none, some 7, 7, .sidx (.t 6) (.k (.one (.pv (.int .i64 0))))⟩,
   ⟨none, some 8, 8, .conv (.int .i64) (.t 7)⟩,
   ⟨none, some 9, 9, .bin .rem (.t 8) (.k (.one (.pv (.int .i64 2))))⟩,
   ⟨none, some 10, 10, .bin .add (.k (.one (.pv (.int .i64 3)))) (.t 9)⟩,
   ⟨none, some 2, 2, .mv (.t 10)⟩])
 (.ret)))⟩
abbrev C_s_NodeOf (Te : Nat → List AV → Res → Prop) : Prop := ∀ (s : ByteArray) (h : s.size ≤ 2 ^ 48), Te 53 [.one (sT s)] ⟨[.one (iT (nodeOf s))], [[sT s]]⟩
theorem r_s_NodeOf {Te : Nat → List AV → Res → Prop} : ∀ (s : ByteArray) (h : s.size ≤ 2 ^ 48), RunFn Te x_s_NodeOf [.one (sT s)] ⟨[.one (iT (nodeOf s))], [[sT s]]⟩ := by
  intro s h
  refine ⟨by simp -implicitDefEqProofs (maxSteps := 1000000) only [x_s_NodeOf, go_sem], ?_⟩
  have hb := (s.data.toList.getD 0 0).toNat_lt
  have e1 : IntKind.i64.wrap ((s.data.toList.getD 0 0).toNat : Int) = ((s.data.toList.getD 0 0).toNat : Int) := IntWalk.i64_in _ (by omega)
  have e2 : IntKind.i64.wrap (3 + (((s.data.toList.getD 0 0).toNat % 2 : Nat) : Int)) = 3 + (((s.data.toList.getD 0 0).toNat % 2 : Nat) : Int) := IntWalk.i64_in _ (by omega)
  simp -implicitDefEqProofs (maxSteps := 1000000) only [x_s_NodeOf, go_sem, e1, nodeOf_rem, e2]
  refine ⟨fun q => ?_, fun q => ?_⟩
  · have hs : s.size = 0 := by simp only [beq_iff_eq] at q; omega
    simp only [nodeOf, hs, if_true]
  · have hs : s.size ≠ 0 := by simp only [beq_eq_false_iff_ne, ne_eq] at q; omega
    refine ⟨decide_eq_true (by omega), ?_⟩
    simp only [nodeOf, if_neg hs]
def x_i_copyClient : FnX := ⟨9, [.cell 2 (some 12)],
  .seq (.reg [⟨none, some 1, 1, .box (.t 0)⟩,
   ⟨none, some 2, 2, .alloc [.pv (.int .i64 0), .pv (.int .i64 0), .pv (.bool false), .pv (.int .i64 0), .pv (.int .i64 0), .pv (.int .i64 0), .pv (.int .i64 0), .pv (.string ⟨#[]⟩), .pv (.string ⟨#[]⟩), .pv (.int .i64 0), .pv (.int .i64 0), .nils 5]⟩])
 (.seq (.reg [⟨none, some 3, 3, .bslice 5 []⟩,
   ⟨none, some 4, 4, .faddr (.t 1) 11⟩,
   ⟨none, some 5, 5, .load none (.t 4)⟩,
   ⟨none, some 6, 6, .app 5 56 (.t 3) (.t 5)⟩,
   ⟨none, some 7, 7, .faddr (.t 1) 11⟩,
   ⟨none, none, 100001, .store 1 (.t 7) (.t 6)⟩])
 (.seq (.reg [⟨none, some 8, 8, .load (some 12) (.t 1)⟩,
   ⟨none, none, 100002, .store 12 (.t 2) (.t 8)⟩])
 (.ret)))⟩
abbrev C_i_copyClient (Te : Nat → List AV → Res → Prop) : Prop := ∀ (c : ClientV) (h : c.Len), Te 51 [.agg (c.enc false)] ⟨[.agg (c.enc true)], [c.enc false]⟩
theorem r_i_copyClient {Te : Nat → List AV → Res → Prop} : ∀ (c : ClientV) (h : c.Len), RunFn Te x_i_copyClient [.agg (c.enc false)] ⟨[.agg (c.enc true)], [c.enc false]⟩ := by
  intro c h
  refine ⟨by simp -implicitDefEqProofs (maxSteps := 1000000) only [x_i_copyClient, go_sem], ?_⟩
  have h0 : c.Dones.length ≤ 2 ^ 31 := h
  simp -implicitDefEqProofs (maxSteps := 1000000) only [x_i_copyClient, go_sem]
  exact ⟨decide_eq_true (by omega), decide_eq_true (by omega)⟩
def x_s_l20Copy : FnX := ⟨16, [.cell 2 (some 12)],
  .seq (.reg [⟨none, some 1, 1, .box (.t 0)⟩,
   ⟨none, some 2, 2, .alloc [.pv (.int .i64 0), .pv (.int .i64 0), .pv (.bool false), .pv (.int .i64 0), .pv (.int .i64 0), .pv (.int .i64 0), .pv (.int .i64 0), .pv (.string ⟨#[]⟩), .pv (.string ⟨#[]⟩), .pv (.int .i64 0), .pv (.int .i64 0), .nils 5]⟩])
 (.seq (.draw [⟨none, some 3, 3, .faddr (.t 1) 0⟩,
   ⟨none, some 4, 4, .load none (.t 3)⟩,
   ⟨none, some 5, 5, .faddr (.t 1) 1⟩,
   ⟨none, some 6, 6, .load none (.t 5)⟩,
   ⟨none, some 7, 7, .faddr (.t 1) 2⟩,
   ⟨none, some 8, 8, .load none (.t 7)⟩,
   ⟨none, some 9, 9, .faddr (.t 1) 3⟩,
   ⟨none, some 10, 10, .load (some 8) (.t 9)⟩,
   ⟨none, some 11, 11, .bslice 5 []⟩,
   ⟨none, some 12, 12, .faddr (.t 1) 11⟩,
   ⟨none, some 13, 13, .load none (.t 12)⟩,
   ⟨none, some 14, 14, .app 5 56 (.t 11) (.t 13)⟩,
   ⟨none, some 15, 15, .build [.pv (.int .i64 0), .pv (.int .i64 0), .pv (.bool false), .pv (.int .i64 0), .pv (.int .i64 0), .pv (.int .i64 0), .pv (.int .i64 0), .pv (.string ⟨#[]⟩), .pv (.string ⟨#[]⟩), .pv (.int .i64 0), .pv (.int .i64 0), .nils 5] [(0, 1, (.t 4)), (1, 1, (.t 6)), (2, 1, (.t 8)), (3, 8, (.t 10)), (11, 1, (.t 14))]⟩,
   ⟨none, none, 100001, .store 12 (.t 2) (.t 15)⟩] [[], [0], [], [2], [], [4], [], [6], [], [], [9], [8, 10], [1, 3, 5, 7, 11], [12, 11, 0, 1, 2, 3, 4, 5, 6, 7, 8, 9, 10, 11, 12]])
 (.ret))⟩
abbrev C_s_l20Copy (Te : Nat → List AV → Res → Prop) : Prop := ∀ (c : ClientV) (h : c.Len), Te 52 [.agg (c.enc false)] ⟨[.agg (c.enc true)], [c.enc false]⟩
theorem r_s_l20Copy {Te : Nat → List AV → Res → Prop} : ∀ (c : ClientV) (h : c.Len), RunFn Te x_s_l20Copy [.agg (c.enc false)] ⟨[.agg (c.enc true)], [c.enc false]⟩ := by
  intro c h
  refine ⟨by simp -implicitDefEqProofs (maxSteps := 1000000) only [x_s_l20Copy, go_sem], ?_⟩
  have h0 : c.Dones.length ≤ 2 ^ 31 := h
  simp -implicitDefEqProofs (maxSteps := 1000000) only [x_s_l20Copy, go_sem]
  exact ⟨⟨decide_eq_true (by omega), decide_eq_true (by omega)⟩, by decide⟩
end Go.X

/- M -/
namespace Go.X
set_option maxRecDepth 100000
set_option maxHeartbeats 8000000
theorem msg_eqs (m n : Msg) : eqL [0, 0, 0, 0, 2, 2, 0, 0] [.pv (.int .i64 m.Kind), .pv (.int .i64 m.From), .pv (.int .i64 m.To), .pv (.int .i64 m.Seq), .pv (.string m.Key), .pv (.string m.Text), .pv (.int .i64 m.N), .pv (.int .i64 m.Code)]
    [.pv (.int .i64 n.Kind), .pv (.int .i64 n.From), .pv (.int .i64 n.To), .pv (.int .i64 n.Seq), .pv (.string n.Key), .pv (.string n.Text), .pv (.int .i64 n.N), .pv (.int .i64 n.Code)] = some (decide (m = n)) := by
  have key : (m = n) ↔ m.Kind = n.Kind ∧ m.From = n.From ∧ m.To = n.To ∧ m.Seq = n.Seq ∧ m.Key = n.Key ∧ m.Text = n.Text ∧ m.N = n.N ∧ m.Code = n.Code := by cases m; cases n; simp
  simp only [eqL, eqV, bytes_beq, beq_self_eq_true, cond_true, Option.bind_some, Option.map_some, key]
  congr 1
  rw [Bool.eq_iff_iff]
  simp
theorem msg_eq0 (m : Msg) : eqL [0, 0, 0, 0, 2, 2, 0, 0] [.pv (.int .i64 m.Kind), .pv (.int .i64 m.From), .pv (.int .i64 m.To), .pv (.int .i64 m.Seq), .pv (.string m.Key), .pv (.string m.Text), .pv (.int .i64 m.N), .pv (.int .i64 m.Code)]
    [.pv (.int .i64 0), .pv (.int .i64 0), .pv (.int .i64 0), .pv (.int .i64 0), .pv (.string ⟨#[]⟩), .pv (.string ⟨#[]⟩), .pv (.int .i64 0), .pv (.int .i64 0)] = some (decide (m = ⟨0, 0, 0, 0, ⟨#[]⟩, ⟨#[]⟩, 0, 0⟩)) := msg_eqs m ⟨0, 0, 0, 0, ⟨#[]⟩, ⟨#[]⟩, 0, 0⟩
def DoneV.ok (q : Int) (d : DoneV) : Bool := win d.Seq 1 q && asked1 d.Kind && decide ((d.Key.size : Int) ≤ 60) && decide ((d.Text.size : Int) ≤ 60) && win d.Code 0 6
def ClientV.mok (c : ClientV) : Bool := if c.Busy = true then c.M.ok && asked1 c.M.Kind && (c.M.From == c.Id) && (c.M.To == nodeOf c.M.Key) && (c.M.Seq == c.Seq) && decide (c.Seq ≥ 1) else decide (c.M = ⟨0, 0, 0, 0, ⟨#[]⟩, ⟨#[]⟩, 0, 0⟩)
def ClientV.ok (c : ClientV) : Bool := win c.Id 1 2 && win c.Seq 0 60000 && decide ((c.Dones.length : Int) ≤ 60) && c.Dones.all (DoneV.ok c.Seq) && c.mok
def ClientV.again (c : ClientV) : Msg := if c.ok = true ∧ c.Busy = true then c.M else ⟨0, 0, 0, 0, ⟨#[]⟩, ⟨#[]⟩, 0, 0⟩
def x_i_ClientOk : FnX := ⟨106, [.tmp 2],
  .seq (.reg [⟨none, some 1, 1, .box (.t 0)⟩,
   ⟨none, some 2, 2, .mv (.k (.one (.pv (.bool false))))⟩])
 (.seq (.seq (.reg [⟨none, some 5, 5, .faddr (.t 1) 0⟩,
   ⟨none, some 6, 6, .load none (.t 5)⟩,
   ⟨none, some 7, 7, .call 58 [0, 0, 0] [(.t 6), (.k (.one (.pv (.int .i64 1)))), (.k (.one (.pv (.int .i64 2))))]⟩,
   ⟨none, some 8, 8, .not (.t 7)⟩,
   ⟨none, some 9, 9, .mv (.t 8)⟩,
   ⟨(some (9, false)), some 10, 10, .faddr (.t 1) 1⟩,
   ⟨(some (9, false)), some 11, 11, .load none (.t 10)⟩,
   ⟨(some (9, false)), some 12, 12, .call 58 [0, 0, 0] [(.t 11), (.k (.one (.pv (.int .i64 0)))), (.k (.one (.pv (.int .i64 60000))))]⟩,
   ⟨(some (9, false)), some 13, 13, .not (.t 12)⟩,
   ⟨none, some 14, 14, .pick (.t 9) (.k (.one (.pv (.bool true)))) (.t 13)⟩,
   ⟨none, some 15, 15, .mv (.t 14)⟩,
   ⟨(some (15, false)), some 16, 16, .faddr (.t 1) 11⟩,
   ⟨(some (15, false)), some 17, 17, .load none (.t 16)⟩,
   ⟨(some (15, false)), some 18, 18, .len (.t 17)⟩,
   ⟨(some (15, false)), some 19, 19, .bin .gtr (.t 18) (.k (.one (.pv (.int .i64 60))))⟩,
   ⟨none, some 20, 20, .pick (.t 15) (.k (.one (.pv (.bool true)))) (.t 19)⟩])
 (.cond 20 (.seq (.reg [⟨none, some 2, 2, .mv (.k (.one (.pv (.bool false))))⟩])
 (.ret)) (.skip)))
 (.seq (.seq (.reg [⟨none, some 21, 21, .faddr (.t 1) 11⟩,
   ⟨none, some 22, 22, .load none (.t 21)⟩,
   ⟨none, some 23, 23, .len (.t 22)⟩,
   ⟨none, some 24, 24, .mv (.k (.one (.pv (.int .i64 0))))⟩])
 (.block 0 (.loop [1, 22, 23, 24] (.seq (.reg [⟨none, some 25, 25, .bin .lss (.t 24) (.t 23)⟩])
 (.seq (.cond 25 (.skip) (.exit 0))
 (.seq (.block 1 (.seq (.reg [⟨none, some 26, 26, .iaddr 5 (.t 22) (.t 24)⟩,
   ⟨none, some 27, 27, .load (some 5) (.t 26)⟩,
   ⟨none, some 4, 4, .alloc [.pv (.int .i64 0), .pv (.int .i64 0), .pv (.string ⟨#[]⟩), .pv (.string ⟨#[]⟩), .pv (.int .i64 0)]⟩,
   ⟨none, none, 100001, .store 5 (.t 4) (.t 27)⟩])
 (.seq (.reg [⟨none, some 28, 28, .faddr (.t 4) 0⟩,
   ⟨none, some 29, 29, .load none (.t 28)⟩,
   ⟨none, some 30, 30, .faddr (.t 1) 1⟩,
   ⟨none, some 31, 31, .load none (.t 30)⟩,
   ⟨none, some 32, 32, .call 58 [0, 0, 0] [(.t 29), (.k (.one (.pv (.int .i64 1)))), (.t 31)]⟩,
   ⟨none, some 33, 33, .not (.t 32)⟩,
   ⟨none, some 34, 34, .mv (.t 33)⟩,
   ⟨(some (34, false)), some 35, 35, .faddr (.t 4) 1⟩,
   ⟨(some (34, false)), some 36, 36, .load none (.t 35)⟩,
   ⟨(some (34, false)), some 37, 37, .call 49 [0] [(.t 36)]⟩,
   ⟨(some (34, false)), some 38, 38, .not (.t 37)⟩,
   ⟨none, some 39, 39, .pick (.t 34) (.k (.one (.pv (.bool true)))) (.t 38)⟩,
   ⟨none, some 40, 40, .mv (.t 39)⟩,
   ⟨(some (40, false)), some 41, 41, .faddr (.t 4) 2⟩,
   ⟨(some (40, false)), some 42, 42, .load none (.t 41)⟩,
   ⟨(some (40, false)), some 43, 43, .slen (.t 42)⟩,
   ⟨(some (40, false)), some 44, 44, .bin .gtr (.t 43) (.k (.one (.pv (.int .i64 60))))⟩,
   ⟨none, some 45, 45, .pick (.t 40) (.k (.one (.pv (.bool true)))) (.t 44)⟩,
   ⟨none, some 46, 46, .mv (.t 45)⟩,
   ⟨(some (46, false)), some 47, 47, .faddr (.t 4) 3⟩,
   ⟨(some (46, false)), some 48, 48, .load none (.t 47)⟩,
   ⟨(some (46, false)), some 49, 49, .slen (.t 48)⟩,
   ⟨(some (46, false)), some 50, 50, .bin .gtr (.t 49) (.k (.one (.pv (.int .i64 60))))⟩,
   ⟨none, some 51, 51, .pick (.t 46) (.k (.one (.pv (.bool true)))) (.t 50)⟩,
   ⟨none, some 52, 52, .mv (.t 51)⟩,
   ⟨(some (52, false)), some 53, 53, .faddr (.t 4) 4⟩,
   ⟨(some (52, false)), some 54, 54, .load none (.t 53)⟩,
   ⟨(some (52, false)), some 55, 55, .call 58 [0, 0, 0] [(.t 54), (.k (.one (.pv (.int .i64 0)))), (.k (.one (.pv (.int .i64 6))))]⟩,
   ⟨(some (52, false)), some 56, 56, .not (.t 55)⟩,
   ⟨none, some 57, 57, .pick (.t 52) (.k (.one (.pv (.bool true)))) (.t 56)⟩])
 (.cond 57 (.seq (.reg [⟨none, some 2, 2, .mv (.k (.one (.pv (.bool false))))⟩])
 (.ret)) (.skip)))))
 (.reg [⟨none, some 58, 58, .bin .add (.t 24) (.k (.one (.pv (.int .i64 1))))⟩,
   ⟨none, some 24, 24, .mv (.t 58)⟩])))))))
 (.norm [1] (.seq (.seq (.reg [⟨none, some 59, 59, .faddr (.t 1) 2⟩,
   ⟨none, some 60, 60, .load none (.t 59)⟩,
   ⟨none, some 61, 61, .not (.t 60)⟩])
 (.cond 61 (.seq (.reg [⟨none, some 62, 62, .faddr (.t 1) 3⟩,
   ⟨none, some 63, 63, .load (some 8) (.t 62)⟩,
   ⟨none, some 64, 64, .build [.pv (.int .i64 0), .pv (.int .i64 0), .pv (.int .i64 0), .pv (.int .i64 0), .pv (.string ⟨#[]⟩), .pv (.string ⟨#[]⟩), .pv (.int .i64 0), .pv (.int .i64 0)] []⟩,
   ⟨none, some 65, 65, .eqs false [0, 0, 0, 0, 2, 2, 0, 0] (.t 63) (.t 64)⟩,
   ⟨none, some 2, 2, .mv (.t 65)⟩])
 (.ret)) (.skip)))
 (.seq (.draw [⟨none, some 66, 66, .faddr (.t 1) 3⟩,
   ⟨none, some 67, 67, .load (some 8) (.t 66)⟩,
   ⟨none, some 68, 68, .call 50 [0] [(.t 67)]⟩,
   ⟨none, some 69, 69, .mv (.t 68)⟩,
   ⟨(some (69, true)), some 70, 70, .faddr (.t 1) 3⟩,
   ⟨(some (69, true)), some 71, 71, .faddr (.t 70) 0⟩,
   ⟨(some (69, true)), some 72, 72, .load none (.t 71)⟩,
   ⟨(some (69, true)), some 73, 73, .call 49 [0] [(.t 72)]⟩,
   ⟨none, some 74, 74, .pick (.t 69) (.t 73) (.k (.one (.pv (.bool false))))⟩,
   ⟨none, some 75, 75, .mv (.t 74)⟩,
   ⟨(some (75, true)), some 76, 76, .faddr (.t 1) 3⟩,
   ⟨(some (75, true)), some 77, 77, .faddr (.t 76) 1⟩,
   ⟨(some (75, true)), some 78, 78, .load none (.t 77)⟩,
   ⟨(some (75, true)), some 79, 79, .faddr (.t 1) 0⟩,
   ⟨(some (75, true)), some 80, 80, .load none (.t 79)⟩,
   ⟨(some (75, true)), some 81, 81, .bin .eql (.t 78) (.t 80)⟩,
   ⟨none, some 82, 82, .pick (.t 75) (.t 81) (.k (.one (.pv (.bool false))))⟩,
   ⟨none, some 83, 83, .mv (.t 82)⟩,
   ⟨(some (83, true)), some 84, 84, .faddr (.t 1) 3⟩,
   ⟨(some (83, true)), some 85, 85, .faddr (.t 84) 2⟩,
   ⟨(some (83, true)), some 86, 86, .load none (.t 85)⟩,
   ⟨(some (83, true)), some 87, 87, .faddr (.t 1) 3⟩,
   ⟨(some (83, true)), some 88, 88, .faddr (.t 87) 4⟩,
   ⟨(some (83, true)), some 89, 89, .load none (.t 88)⟩,
   ⟨(some (83, true)), some 90, 90, .call 48 [0] [(.t 89)]⟩,
   ⟨(some (83, true)), some 91, 91, .bin .eql (.t 86) (.t 90)⟩,
   ⟨none, some 92, 92, .pick (.t 83) (.t 91) (.k (.one (.pv (.bool false))))⟩,
   ⟨none, some 93, 93, .mv (.t 92)⟩,
   ⟨(some (93, true)), some 94, 94, .faddr (.t 1) 3⟩,
   ⟨(some (93, true)), some 95, 95, .faddr (.t 94) 3⟩,
   ⟨(some (93, true)), some 96, 96, .load none (.t 95)⟩,
   ⟨(some (93, true)), some 97, 97, .faddr (.t 1) 1⟩,
   ⟨(some (93, true)), some 98, 98, .load none (.t 97)⟩,
   ⟨(some (93, true)), some 99, 99, .bin .eql (.t 96) (.t 98)⟩,
   ⟨none, some 100, 100, .pick (.t 93) (.t 99) (.k (.one (.pv (.bool false))))⟩,
   ⟨none, some 101, 101, .mv (.t 100)⟩,
   ⟨(some (101, true)), some 102, 102, .faddr (.t 1) 1⟩,
   ⟨(some (101, true)), some 103, 103, .load none (.t 102)⟩,
   ⟨(some (101, true)), some 104, 104, .bin .geq (.t 103) (.k (.one (.pv (.int .i64 1))))⟩,
   ⟨none, some 105, 105, .pick (.t 101) (.t 104) (.k (.one (.pv (.bool false))))⟩,
   ⟨none, some 2, 2, .mv (.t 105)⟩] [[], [0], [1], [2, 2], [3], [4, 3], [5, 3], [6, 3, 3], [3, 7], [8, 7], [9], [10, 9], [11, 9], [9], [13, 9], [12, 14, 9], [9, 15], [16, 9], [17], [18, 17], [19, 17], [17], [21, 17], [22, 17], [23, 17, 17], [20, 24, 17], [17, 25], [26, 24], [27], [28, 27], [29, 27], [27], [31, 27], [30, 32, 27], [27, 33], [34, 27], [35], [36, 35], [37, 35], [35, 38], [39, 35, 0, 1, 2, 3, 4, 5, 6, 7, 8, 9, 10, 11, 12, 13, 14, 15, 16, 17, 18, 19, 20, 21, 22, 23, 24, 25, 26, 27, 28, 29, 30, 31, 32, 33, 34, 35, 36, 37, 38, 39]])
 (.ret))))))⟩
abbrev C_i_ClientOk (Te : Nat → List AV → Res → Prop) : Prop := ∀ (c : ClientV) (h : c.In (2 ^ 31)), Te 18 [.agg (c.enc false)] ⟨[.one (bT c.ok)], [c.enc false]⟩
theorem r_i_ClientOk {Te : Nat → List AV → Res → Prop} (c_i_within : C_i_within Te) (c_i_isAsked : C_i_isAsked Te) (c_i_MsgOk : C_i_MsgOk Te) (c_i_NodeOf : C_i_NodeOf Te) : ∀ (c : ClientV) (h : c.In (2 ^ 31)), RunFn Te x_i_ClientOk [.agg (c.enc false)] ⟨[.one (bT c.ok)], [c.enc false]⟩ := by
  intro c h
  refine ⟨by simp -implicitDefEqProofs (maxSteps := 1000000) only [x_i_ClientOk, go_sem], ?_⟩
  obtain ⟨⟨hk, ht⟩, hl, hd⟩ := h
  simp -implicitDefEqProofs (maxSteps := 1000000) only [x_i_ClientOk, go_sem, ClientV.ok]
  refine .of (c_i_within _ _ _) ?_
  cases g1 : win c.Id 1 2
  · simp -implicitDefEqProofs (maxSteps := 1000000) only [go_sem]
  simp -implicitDefEqProofs (maxSteps := 1000000) only [go_sem]
  refine .of (c_i_within _ _ _) ?_
  cases g2 : win c.Seq 0 60000
  · simp -implicitDefEqProofs (maxSteps := 1000000) only [go_sem]
  cases g3 : decide ((c.Dones.length : Int) > 60)
  · have g3' : decide ((c.Dones.length : Int) ≤ 60) = true := by simp at g3 ⊢; omega
    simp -implicitDefEqProofs (maxSteps := 1000000) only [go_sem, g3, g3']
    refine loop_of (σ := Nat) (fun i => ⟨[(1, .bp 1 0), (22, .one (.ro 5 (c.Dones.map DoneV.row))), (23, .one (.pv (.int .i64 c.Dones.length))), (24, .one (.pv (.int .i64 i)))], [(1, [.pv (.int .i64 c.Id), .pv (.int .i64 c.Seq), .pv (.bool c.Busy), .pv (.int .i64 c.M.Kind), .pv (.int .i64 c.M.From), .pv (.int .i64 c.M.To), .pv (.int .i64 c.M.Seq), .pv (.string c.M.Key), .pv (.string c.M.Text), .pv (.int .i64 c.M.N), .pv (.int .i64 c.M.Code), .ro 5 (c.Dones.map DoneV.row)])], [(0, c.enc false)]⟩) (fun i => i ≤ c.Dones.length ∧ (c.Dones.take i).all (DoneV.ok c.Seq) = true) (fun i => c.Dones.length - i) 0 ?_ ⟨Nat.zero_le _, rfl⟩ ?_
    · simp -implicitDefEqProofs (maxSteps := 1000000) only [go_sem]; rfl
    · rintro i ⟨hi, hp⟩
      simp -implicitDefEqProofs (maxSteps := 1000000) only [go_sem]
      refine ⟨fun h => ?_, fun h => ?_⟩
      · have hi' : i < c.Dones.length := by simp only [decide_eq_true_eq] at h; omega
        have bad : DoneV.ok c.Seq c.Dones[i] = false → c.Dones.all (DoneV.ok c.Seq) = false := all_not hi'
        have good : DoneV.ok c.Seq c.Dones[i] = true → ((c.Dones.take (i + 1)).all (DoneV.ok c.Seq)) = true := all_step hi' hp
        simp -implicitDefEqProofs (maxSteps := 1000000) only [go_sem, List.getElem?_eq_getElem hi']
        generalize c.Dones[i] = d at bad good
        refine .of (c_i_within _ _ _) ?_
        cases w1 : win d.Seq 1 c.Seq
        · have e := bad (by simp only [DoneV.ok, w1, Bool.false_and])
          simp -implicitDefEqProofs (maxSteps := 1000000) only [go_sem, e]
        simp -implicitDefEqProofs (maxSteps := 1000000) only [go_sem]
        refine .of (c_i_isAsked _) ?_
        cases w2 : asked1 d.Kind
        · have e := bad (by simp only [DoneV.ok, w2, Bool.false_and, Bool.and_false])
          simp -implicitDefEqProofs (maxSteps := 1000000) only [go_sem, e]
        cases w3 : decide ((d.Key.size : Int) > 60)
        · have w3' : decide ((d.Key.size : Int) ≤ 60) = true := by simp at w3 ⊢; omega
          cases w4 : decide ((d.Text.size : Int) > 60)
          · have w4' : decide ((d.Text.size : Int) ≤ 60) = true := by simp at w4 ⊢; omega
            simp -implicitDefEqProofs (maxSteps := 1000000) only [go_sem, w3, w4]
            refine .of (c_i_within _ _ _) ?_
            cases w5 : win d.Code 0 6
            · have e := bad (by simp only [DoneV.ok, w5, Bool.and_false])
              simp -implicitDefEqProofs (maxSteps := 1000000) only [go_sem, e]
            · have e := good (by simp only [DoneV.ok, w1, w2, w3', w4', w5, Bool.and_true])
              simp -implicitDefEqProofs (maxSteps := 1000000) only [go_sem]
              exact ⟨i + 1, by rw [IntWalk.i64_in _ (by omega)]; rfl, ⟨hi', e⟩, by omega⟩
          · have w4' : decide ((d.Text.size : Int) ≤ 60) = false := by simp at w4 ⊢; omega
            have e := bad (by simp only [DoneV.ok, w4', Bool.and_false, Bool.false_and])
            simp -implicitDefEqProofs (maxSteps := 1000000) only [go_sem, w3, w4, e]
        · have w3' : decide ((d.Key.size : Int) ≤ 60) = false := by simp at w3 ⊢; omega
          have e := bad (by simp only [DoneV.ok, w3', Bool.and_false, Bool.false_and])
          simp -implicitDefEqProofs (maxSteps := 1000000) only [go_sem, w3, e]
      · have e := all_end (show c.Dones.length ≤ i by simp only [decide_eq_false_iff_not] at h; omega) hp
        cases hb : c.Busy
        · simp -implicitDefEqProofs (maxSteps := 1000000) only [go_sem, e, hb, ClientV.mok, if_false, msg_eq0, true_implies, false_implies, Bool.bne_false]
        · simp -implicitDefEqProofs (maxSteps := 1000000) only [go_sem, e, hb, ClientV.mok, if_true, true_implies, false_implies]
          refine .of (c_i_MsgOk c.M) ?_
          cases m1 : c.M.ok
          · simp -implicitDefEqProofs (maxSteps := 1000000) only [go_sem]
            try decide
          simp -implicitDefEqProofs (maxSteps := 1000000) only [go_sem]
          refine .of (c_i_isAsked _) ?_
          cases m2 : asked1 c.M.Kind
          · simp -implicitDefEqProofs (maxSteps := 1000000) only [go_sem]
            try decide
          cases m3 : (c.M.From == c.Id)
          · simp -implicitDefEqProofs (maxSteps := 1000000) only [go_sem, m3]
            try decide
          simp -implicitDefEqProofs (maxSteps := 1000000) only [go_sem, m3]
          refine .of (c_i_NodeOf _ (Nat.le_trans hk (by decide))) ?_
          cases m4 : (c.M.To == nodeOf c.M.Key)
          · simp -implicitDefEqProofs (maxSteps := 1000000) only [go_sem, m4]
            try decide
          cases m5 : (c.M.Seq == c.Seq)
          · simp -implicitDefEqProofs (maxSteps := 1000000) only [go_sem, m4, m5]
            try decide
          · simp -implicitDefEqProofs (maxSteps := 1000000) only [go_sem, m4, m5]
            try decide
  · have g3' : decide ((c.Dones.length : Int) ≤ 60) = false := by simp at g3 ⊢; omega
    simp -implicitDefEqProofs (maxSteps := 1000000) only [go_sem, g3, g3']
def x_s_l20Msg : FnX := ⟨50, [.tmp 2],
  .seq (.reg [⟨none, some 1, 1, .box (.t 0)⟩,
   ⟨none, some 2, 2, .mv (.k (.one (.pv (.bool false))))⟩])
 (.seq (.seq (.reg [⟨none, some 3, 3, .faddr (.t 1) 2⟩,
   ⟨none, some 4, 4, .load none (.t 3)⟩,
   ⟨none, some 5, 5, .not (.t 4)⟩])
 (.cond 5 (.seq (.reg [⟨none, some 6, 6, .faddr (.t 1) 3⟩,
   ⟨none, some 7, 7, .load (some 8) (.t 6)⟩,
   ⟨none, some 8, 8, .build [.pv (.int .i64 0), .pv (.int .i64 0), .pv (.int .i64 0), .pv (.int .i64 0), .pv (.string ⟨#[]⟩), .pv (.string ⟨#[]⟩), .pv (.int .i64 0), .pv (.int .i64 0)] []⟩,
   ⟨none, some 9, 9, .eqs false [0, 0, 0, 0, 2, 2, 0, 0] (.t 7) (.t 8)⟩,
   ⟨none, some 2, 2, .mv (.t 9)⟩])
 (.ret)) (.skip)))
 (.seq (.draw [⟨none, some 10, 10, .faddr (.t 1) 3⟩,
   ⟨none, some 11, 11, .load (some 8) (.t 10)⟩,
   ⟨none, some 12, 12, .call 55 [0] [(.t 11)]⟩,
   ⟨none, some 13, 13, .mv (.t 12)⟩,
   ⟨(some (13, true)), some 14, 14, .faddr (.t 1) 3⟩,
   ⟨(some (13, true)), some 15, 15, .faddr (.t 14) 0⟩,
   ⟨(some (13, true)), some 16, 16, .load none (.t 15)⟩,
   ⟨(some (13, true)), some 17, 17, .call 54 [0] [(.t 16)]⟩,
   ⟨none, some 18, 18, .pick (.t 13) (.t 17) (.k (.one (.pv (.bool false))))⟩,
   ⟨none, some 19, 19, .mv (.t 18)⟩,
   ⟨(some (19, true)), some 20, 20, .faddr (.t 1) 3⟩,
   ⟨(some (19, true)), some 21, 21, .faddr (.t 20) 1⟩,
   ⟨(some (19, true)), some 22, 22, .load none (.t 21)⟩,
   ⟨(some (19, true)), some 23, 23, .faddr (.t 1) 0⟩,
   ⟨(some (19, true)), some 24, 24, .load none (.t 23)⟩,
   ⟨(some (19, true)), some 25, 25, .bin .eql (.t 22) (.t 24)⟩,
   ⟨none, some 26, 26, .pick (.t 19) (.t 25) (.k (.one (.pv (.bool false))))⟩,
   ⟨none, some 27, 27, .mv (.t 26)⟩,
   ⟨(some (27, true)), some 28, 28, .faddr (.t 1) 3⟩,
   ⟨(some (27, true)), some 29, 29, .faddr (.t 28) 2⟩,
   ⟨(some (27, true)), some 30, 30, .load none (.t 29)⟩,
   ⟨(some (27, true)), some 31, 31, .faddr (.t 1) 3⟩,
   ⟨(some (27, true)), some 32, 32, .faddr (.t 31) 4⟩,
   ⟨(some (27, true)), some 33, 33, .load none (.t 32)⟩,
   ⟨(some (27, true)), some 34, 34, .call 53 [0] [(.t 33)]⟩,
   ⟨(some (27, true)), some 35, 35, .bin .eql (.t 30) (.t 34)⟩,
   ⟨none, some 36, 36, .pick (.t 27) (.t 35) (.k (.one (.pv (.bool false))))⟩,
   ⟨none, some 37, 37, .mv (.t 36)⟩,
   ⟨(some (37, true)), some 38, 38, .faddr (.t 1) 3⟩,
   ⟨(some (37, true)), some 39, 39, .faddr (.t 38) 3⟩,
   ⟨(some (37, true)), some 40, 40, .load none (.t 39)⟩,
   ⟨(some (37, true)), some 41, 41, .faddr (.t 1) 1⟩,
   ⟨(some (37, true)), some 42, 42, .load none (.t 41)⟩,
   ⟨(some (37, true)), some 43, 43, .bin .eql (.t 40) (.t 42)⟩,
   ⟨none, some 44, 44, .pick (.t 37) (.t 43) (.k (.one (.pv (.bool false))))⟩,
   ⟨none, some 45, 45, .mv (.t 44)⟩,
   ⟨(some (45, true)), some 46, 46, .faddr (.t 1) 1⟩,
   ⟨(some (45, true)), some 47, 47, .load none (.t 46)⟩,
   ⟨(some (45, true)), some 48, 48, .bin .geq (.t 47) (.k (.one (.pv (.int .i64 1))))⟩,
   ⟨none, some 49, 49, .pick (.t 45) (.t 48) (.k (.one (.pv (.bool false))))⟩,
   ⟨none, some 2, 2, .mv (.t 49)⟩] [[], [0], [1], [2, 2], [3], [4, 3], [5, 3], [6, 3, 3], [3, 7], [8, 7], [9], [10, 9], [11, 9], [9], [13, 9], [12, 14, 9], [9, 15], [16, 9], [17], [18, 17], [19, 17], [17], [21, 17], [22, 17], [23, 17, 17], [20, 24, 17], [17, 25], [26, 24], [27], [28, 27], [29, 27], [27], [31, 27], [30, 32, 27], [27, 33], [34, 27], [35], [36, 35], [37, 35], [35, 38], [39, 35, 0, 1, 2, 3, 4, 5, 6, 7, 8, 9, 10, 11, 12, 13, 14, 15, 16, 17, 18, 19, 20, 21, 22, 23, 24, 25, 26, 27, 28, 29, 30, 31, 32, 33, 34, 35, 36, 37, 38, 39]])
 (.ret)))⟩
abbrev C_s_l20Msg (Te : Nat → List AV → Res → Prop) : Prop := ∀ (c : ClientV) (h : c.In (2 ^ 31)), Te 60 [.agg (c.enc false)] ⟨[.one (bT c.mok)], [c.enc false]⟩
theorem r_s_l20Msg {Te : Nat → List AV → Res → Prop} (c_s_MsgOk : C_s_MsgOk Te) (c_s_l20Kind : C_s_l20Kind Te) (c_s_NodeOf : C_s_NodeOf Te) : ∀ (c : ClientV) (h : c.In (2 ^ 31)), RunFn Te x_s_l20Msg [.agg (c.enc false)] ⟨[.one (bT c.mok)], [c.enc false]⟩ := by
  intro c h
  refine ⟨by simp -implicitDefEqProofs (maxSteps := 1000000) only [x_s_l20Msg, go_sem], ?_⟩
  obtain ⟨⟨hk, ht⟩, hl, hd⟩ := h
  cases hb : c.Busy
  · simp -implicitDefEqProofs (maxSteps := 1000000) only [x_s_l20Msg, go_sem, hb, ClientV.mok, if_false, msg_eq0, true_implies, false_implies, Bool.bne_false]
  · simp -implicitDefEqProofs (maxSteps := 1000000) only [x_s_l20Msg, go_sem, hb, ClientV.mok, if_true, true_implies, false_implies]
    refine .of (c_s_MsgOk c.M) ?_
    cases m1 : c.M.ok
    · simp -implicitDefEqProofs (maxSteps := 1000000) only [go_sem]
      try decide
    simp -implicitDefEqProofs (maxSteps := 1000000) only [go_sem]
    refine .of (c_s_l20Kind _) ?_
    cases m2 : asked1 c.M.Kind
    · simp -implicitDefEqProofs (maxSteps := 1000000) only [go_sem]
      try decide
    cases m3 : (c.M.From == c.Id)
    · simp -implicitDefEqProofs (maxSteps := 1000000) only [go_sem, m3]
      try decide
    simp -implicitDefEqProofs (maxSteps := 1000000) only [go_sem, m3]
    refine .of (c_s_NodeOf _ (Nat.le_trans hk (by decide))) ?_
    cases m4 : (c.M.To == nodeOf c.M.Key)
    · simp -implicitDefEqProofs (maxSteps := 1000000) only [go_sem, m4]
      try decide
    cases m5 : (c.M.Seq == c.Seq)
    · simp -implicitDefEqProofs (maxSteps := 1000000) only [go_sem, m4, m5]
      try decide
    · simp -implicitDefEqProofs (maxSteps := 1000000) only [go_sem, m4, m5]
      try decide
def x_s_ClientOk : FnX := ⟨65, [.tmp 2],
  .seq (.reg [⟨none, some 1, 1, .box (.t 0)⟩,
   ⟨none, some 2, 2, .mv (.k (.one (.pv (.bool false))))⟩])
 (.seq (.seq (.reg [⟨none, some 3, 3, .mv (.k (.one (.pv (.int .i64 0))))⟩])
 (.block 0 (.loop [1, 3] (.seq (.seq (.reg [⟨none, some 5, 5, .mv (.t 3)⟩,
   ⟨none, some 6, 6, .faddr (.t 1) 11⟩,
   ⟨none, some 7, 7, .load none (.t 6)⟩,
   ⟨none, some 8, 8, .len (.t 7)⟩,
   ⟨none, some 9, 9, .bin .lss (.t 5) (.t 8)⟩])
 (.cond 9 (.skip) (.exit 0)))
 (.seq (.block 1 (.seq (.reg [⟨none, some 12, 12, .faddr (.t 1) 11⟩,
   ⟨none, some 13, 13, .load none (.t 12)⟩,
   ⟨none, some 14, 14, .mv (.t 3)⟩,
   ⟨none, some 15, 15, .iaddr 5 (.t 13) (.t 14)⟩,
   ⟨none, some 16, 16, .load (some 5) (.t 15)⟩,
   ⟨none, some 4, 4, .alloc [.pv (.int .i64 0), .pv (.int .i64 0), .pv (.string ⟨#[]⟩), .pv (.string ⟨#[]⟩), .pv (.int .i64 0)]⟩,
   ⟨none, none, 100001, .store 5 (.t 4) (.t 16)⟩])
 (.seq (.reg [⟨none, some 17, 17, .faddr (.t 4) 1⟩,
   ⟨none, some 18, 18, .load none (.t 17)⟩,
   ⟨none, some 19, 19, .call 54 [0] [(.t 18)]⟩,
   ⟨none, some 20, 20, .not (.t 19)⟩,
   ⟨none, some 21, 21, .mv (.t 20)⟩,
   ⟨(some (21, false)), some 22, 22, .faddr (.t 4) 0⟩,
   ⟨(some (21, false)), some 23, 23, .load none (.t 22)⟩,
   ⟨(some (21, false)), some 24, 24, .faddr (.t 1) 1⟩,
   ⟨(some (21, false)), some 25, 25, .load none (.t 24)⟩,
   ⟨(some (21, false)), some 26, 26, .call 59 [0, 0, 0] [(.t 23), (.k (.one (.pv (.int .i64 1)))), (.t 25)]⟩,
   ⟨(some (21, false)), some 27, 27, .not (.t 26)⟩,
   ⟨none, some 28, 28, .pick (.t 21) (.k (.one (.pv (.bool true)))) (.t 27)⟩,
   ⟨none, some 29, 29, .mv (.t 28)⟩,
   ⟨(some (29, false)), some 30, 30, .faddr (.t 4) 4⟩,
   ⟨(some (29, false)), some 31, 31, .load none (.t 30)⟩,
   ⟨(some (29, false)), some 32, 32, .call 59 [0, 0, 0] [(.t 31), (.k (.one (.pv (.int .i64 0)))), (.k (.one (.pv (.int .i64 6))))]⟩,
   ⟨(some (29, false)), some 33, 33, .not (.t 32)⟩,
   ⟨none, some 34, 34, .pick (.t 29) (.k (.one (.pv (.bool true)))) (.t 33)⟩,
   ⟨none, some 35, 35, .mv (.t 34)⟩,
   ⟨(some (35, false)), some 36, 36, .faddr (.t 4) 2⟩,
   ⟨(some (35, false)), some 37, 37, .load none (.t 36)⟩,
   ⟨(some (35, false)), some 38, 38, .slen (.t 37)⟩,
   ⟨(some (35, false)), some 39, 39, .bin .gtr (.t 38) (.k (.one (.pv (.int .i64 60))))⟩,
   ⟨none, some 40, 40, .pick (.t 35) (.k (.one (.pv (.bool true)))) (.t 39)⟩,
   ⟨none, some 41, 41, .mv (.t 40)⟩,
   ⟨(some (41, false)), some 42, 42, .faddr (.t 4) 3⟩,
   ⟨(some (41, false)), some 43, 43, .load none (.t 42)⟩,
   ⟨(some (41, false)), some 44, 44, .slen (.t 43)⟩,
   ⟨(some (41, false)), some 45, 45, .bin .gtr (.t 44) (.k (.one (.pv (.int .i64 60))))⟩,
   ⟨none, some 46, 46, .pick (.t 41) (.k (.one (.pv (.bool true)))) (.t 45)⟩])
 (.cond 46 (.seq (.reg [⟨none, some 2, 2, .mv (.k (.one (.pv (.bool false))))⟩])
 (.ret)) (.skip)))))
 (.reg [⟨none, some 10, 10, .mv (.t 3)⟩,
   ⟨none, some 11, 11, .bin .add (.t 10) (.k (.one (.pv (.int .i64 1))))⟩,
   ⟨none, some 3, 3, .mv (.t 11)⟩]))))))
 (.norm [1] (.seq (.reg [⟨none, some 47, 47, .faddr (.t 1) 0⟩,
   ⟨none, some 48, 48, .load none (.t 47)⟩,
   ⟨none, some 49, 49, .call 59 [0, 0, 0] [(.t 48), (.k (.one (.pv (.int .i64 1)))), (.k (.one (.pv (.int .i64 2))))]⟩,
   ⟨none, some 50, 50, .mv (.t 49)⟩,
   ⟨(some (50, true)), some 51, 51, .faddr (.t 1) 1⟩,
   ⟨(some (50, true)), some 52, 52, .load none (.t 51)⟩,
   ⟨(some (50, true)), some 53, 53, .call 59 [0, 0, 0] [(.t 52), (.k (.one (.pv (.int .i64 0)))), (.k (.one (.pv (.int .i64 60000))))]⟩,
   ⟨none, some 54, 54, .pick (.t 50) (.t 53) (.k (.one (.pv (.bool false))))⟩,
   ⟨none, some 55, 55, .mv (.t 54)⟩,
   ⟨(some (55, true)), some 56, 56, .load (some 12) (.t 1)⟩,
   ⟨(some (55, true)), some 57, 57, .call 60 [0] [(.t 56)]⟩,
   ⟨none, some 58, 58, .pick (.t 55) (.t 57) (.k (.one (.pv (.bool false))))⟩,
   ⟨none, some 59, 59, .mv (.t 58)⟩,
   ⟨(some (59, true)), some 60, 60, .faddr (.t 1) 11⟩,
   ⟨(some (59, true)), some 61, 61, .load none (.t 60)⟩,
   ⟨(some (59, true)), some 62, 62, .len (.t 61)⟩,
   ⟨(some (59, true)), some 63, 63, .bin .leq (.t 62) (.k (.one (.pv (.int .i64 60))))⟩,
   ⟨none, some 64, 64, .pick (.t 59) (.t 63) (.k (.one (.pv (.bool false))))⟩,
   ⟨none, some 2, 2, .mv (.t 64)⟩])
 (.ret))))⟩
abbrev C_s_ClientOk (Te : Nat → List AV → Res → Prop) : Prop := ∀ (c : ClientV) (h : c.In (2 ^ 31)), Te 19 [.agg (c.enc false)] ⟨[.one (bT c.ok)], [c.enc false]⟩
theorem r_s_ClientOk {Te : Nat → List AV → Res → Prop} (c_s_l20Kind : C_s_l20Kind Te) (c_s_l1In : C_s_l1In Te) (c_s_l20Msg : C_s_l20Msg Te) : ∀ (c : ClientV) (h : c.In (2 ^ 31)), RunFn Te x_s_ClientOk [.agg (c.enc false)] ⟨[.one (bT c.ok)], [c.enc false]⟩ := by
  intro c h
  refine ⟨by simp -implicitDefEqProofs (maxSteps := 1000000) only [x_s_ClientOk, go_sem], ?_⟩
  have h' := h
  obtain ⟨⟨hk, ht⟩, hl, hd⟩ := h
  simp -implicitDefEqProofs (maxSteps := 1000000) only [x_s_ClientOk, go_sem, ClientV.ok]
  refine loop_of (σ := Nat) (fun i => ⟨[(1, .bp 1 0), (3, .one (.pv (.int .i64 i)))], [(1, [.pv (.int .i64 c.Id), .pv (.int .i64 c.Seq), .pv (.bool c.Busy), .pv (.int .i64 c.M.Kind), .pv (.int .i64 c.M.From), .pv (.int .i64 c.M.To), .pv (.int .i64 c.M.Seq), .pv (.string c.M.Key), .pv (.string c.M.Text), .pv (.int .i64 c.M.N), .pv (.int .i64 c.M.Code), .ro 5 (c.Dones.map DoneV.row)])], [(0, c.enc false)]⟩) (fun i => i ≤ c.Dones.length ∧ (c.Dones.take i).all (DoneV.ok c.Seq) = true) (fun i => c.Dones.length - i) 0 ?_ ⟨Nat.zero_le _, rfl⟩ ?_
  · simp -implicitDefEqProofs (maxSteps := 1000000) only [go_sem]; rfl
  · rintro i ⟨hi, hp⟩
    simp -implicitDefEqProofs (maxSteps := 1000000) only [go_sem]
    refine ⟨fun h => ?_, fun h => ?_⟩
    · have hi' : i < c.Dones.length := by simp only [decide_eq_true_eq] at h; omega
      have bad : DoneV.ok c.Seq c.Dones[i] = false → c.Dones.all (DoneV.ok c.Seq) = false := all_not hi'
      have good : DoneV.ok c.Seq c.Dones[i] = true → ((c.Dones.take (i + 1)).all (DoneV.ok c.Seq)) = true := all_step hi' hp
      simp -implicitDefEqProofs (maxSteps := 1000000) only [go_sem, List.getElem?_eq_getElem hi']
      generalize c.Dones[i] = d at bad good
      refine .of (c_s_l20Kind _) ?_
      cases w2 : asked1 d.Kind
      · have e := bad (by simp only [DoneV.ok, w2, Bool.false_and, Bool.and_false])
        simp -implicitDefEqProofs (maxSteps := 1000000) only [go_sem, e]
      simp -implicitDefEqProofs (maxSteps := 1000000) only [go_sem]
      refine .of (c_s_l1In _ _ _) ?_
      cases w1 : win d.Seq 1 c.Seq
      · have e := bad (by simp only [DoneV.ok, w1, Bool.false_and])
        simp -implicitDefEqProofs (maxSteps := 1000000) only [go_sem, e]
      simp -implicitDefEqProofs (maxSteps := 1000000) only [go_sem]
      refine .of (c_s_l1In _ _ _) ?_
      cases w5 : win d.Code 0 6
      · have e := bad (by simp only [DoneV.ok, w5, Bool.and_false])
        simp -implicitDefEqProofs (maxSteps := 1000000) only [go_sem, e]
      cases w3 : decide ((d.Key.size : Int) > 60)
      · have w3' : decide ((d.Key.size : Int) ≤ 60) = true := by simp at w3 ⊢; omega
        cases w4 : decide ((d.Text.size : Int) > 60)
        · have w4' : decide ((d.Text.size : Int) ≤ 60) = true := by simp at w4 ⊢; omega
          have e := good (by simp only [DoneV.ok, w1, w2, w3', w4', w5, Bool.and_true])
          simp -implicitDefEqProofs (maxSteps := 1000000) only [go_sem, w3, w4]
          exact ⟨i + 1, by rw [IntWalk.i64_in _ (by omega)]; rfl, ⟨hi', e⟩, by omega⟩
        · have w4' : decide ((d.Text.size : Int) ≤ 60) = false := by simp at w4 ⊢; omega
          have e := bad (by simp only [DoneV.ok, w4', Bool.and_false, Bool.false_and])
          simp -implicitDefEqProofs (maxSteps := 1000000) only [go_sem, w3, w4, e]
      · have w3' : decide ((d.Key.size : Int) ≤ 60) = false := by simp at w3 ⊢; omega
        have e := bad (by simp only [DoneV.ok, w3', Bool.and_false, Bool.false_and])
        simp -implicitDefEqProofs (maxSteps := 1000000) only [go_sem, w3, e]
    · have e := all_end (show c.Dones.length ≤ i by simp only [decide_eq_false_iff_not] at h; omega) hp
      simp -implicitDefEqProofs (maxSteps := 1000000) only [go_sem, e]
      refine .of (c_s_l1In _ _ _) ?_
      cases g1 : win c.Id 1 2
      · simp -implicitDefEqProofs (maxSteps := 1000000) only [go_sem]
      simp -implicitDefEqProofs (maxSteps := 1000000) only [go_sem]
      refine .of (c_s_l1In _ _ _) ?_
      cases g2 : win c.Seq 0 60000
      · simp -implicitDefEqProofs (maxSteps := 1000000) only [go_sem]
      simp -implicitDefEqProofs (maxSteps := 1000000) only [go_sem]
      refine .of (c_s_l20Msg _ h') ?_
      cases g3 : c.mok
      · simp -implicitDefEqProofs (maxSteps := 1000000) only [go_sem]
      · simp -implicitDefEqProofs (maxSteps := 1000000) only [go_sem]
def x_i_Again : FnX := ⟨15, [.cell 2 (some 8), .tmp 3],
  .seq (.reg [⟨none, some 1, 1, .box (.t 0)⟩,
   ⟨none, some 2, 2, .alloc [.pv (.int .i64 0), .pv (.int .i64 0), .pv (.int .i64 0), .pv (.int .i64 0), .pv (.string ⟨#[]⟩), .pv (.string ⟨#[]⟩), .pv (.int .i64 0), .pv (.int .i64 0)]⟩,
   ⟨none, some 3, 3, .mv (.k (.one (.pv (.bool false))))⟩])
 (.seq (.seq (.reg [⟨none, some 4, 4, .load (some 12) (.t 1)⟩,
   ⟨none, some 5, 5, .call 18 [0] [(.t 4)]⟩,
   ⟨none, some 6, 6, .not (.t 5)⟩,
   ⟨none, some 7, 7, .mv (.t 6)⟩,
   ⟨(some (7, false)), some 8, 8, .faddr (.t 1) 2⟩,
   ⟨(some (7, false)), some 9, 9, .load none (.t 8)⟩,
   ⟨(some (7, false)), some 10, 10, .not (.t 9)⟩,
   ⟨none, some 11, 11, .pick (.t 7) (.k (.one (.pv (.bool true)))) (.t 10)⟩])
 (.cond 11 (.seq (.reg [⟨none, some 12, 12, .build [.pv (.int .i64 0), .pv (.int .i64 0), .pv (.int .i64 0), .pv (.int .i64 0), .pv (.string ⟨#[]⟩), .pv (.string ⟨#[]⟩), .pv (.int .i64 0), .pv (.int .i64 0)] []⟩,
   ⟨none, none, 100001, .store 8 (.t 2) (.t 12)⟩,
   ⟨none, some 3, 3, .mv (.k (.one (.pv (.bool false))))⟩])
 (.ret)) (.skip)))
 (.seq (.reg [⟨none, some 13, 13, .faddr (.t 1) 3⟩,
   ⟨none, some 14, 14, .load (some 8) (.t 13)⟩,
   ⟨none, none, 100002, .store 8 (.t 2) (.t 14)⟩,
   ⟨none, some 3, 3, .mv (.k (.one (.pv (.bool true))))⟩])
 (.ret)))⟩
abbrev C_i_Again (Te : Nat → List AV → Res → Prop) : Prop := ∀ (c : ClientV) (h : c.In (2 ^ 31)), Te 10 [.agg (c.enc false)] ⟨[.agg c.again.row, .one (bT (c.ok && c.Busy))], [c.enc false]⟩
theorem r_i_Again {Te : Nat → List AV → Res → Prop} (c_i_ClientOk : C_i_ClientOk Te) : ∀ (c : ClientV) (h : c.In (2 ^ 31)), RunFn Te x_i_Again [.agg (c.enc false)] ⟨[.agg c.again.row, .one (bT (c.ok && c.Busy))], [c.enc false]⟩ := by
  intro c h
  refine ⟨by simp -implicitDefEqProofs (maxSteps := 1000000) only [x_i_Again, go_sem], ?_⟩
  simp -implicitDefEqProofs (maxSteps := 1000000) only [x_i_Again, go_sem]
  refine .of (c_i_ClientOk _ h) ?_
  cases g1 : c.ok
  · simp -implicitDefEqProofs (maxSteps := 1000000) only [go_sem, ClientV.again, g1, if_false, false_and]
  · cases g2 : c.Busy
    · simp -implicitDefEqProofs (maxSteps := 1000000) only [go_sem, ClientV.again, g1, g2, if_false, and_false]
    · simp -implicitDefEqProofs (maxSteps := 1000000) only [go_sem, ClientV.again, g1, g2, if_true]
def x_s_Again : FnX := ⟨15, [.cell 2 (some 8), .tmp 3],
  .seq (.reg [⟨none, some 1, 1, .box (.t 0)⟩,
   ⟨none, some 2, 2, .alloc [.pv (.int .i64 0), .pv (.int .i64 0), .pv (.int .i64 0), .pv (.int .i64 0), .pv (.string ⟨#[]⟩), .pv (.string ⟨#[]⟩), .pv (.int .i64 0), .pv (.int .i64 0)]⟩,
   ⟨none, some 3, 3, .mv (.k (.one (.pv (.bool false))))⟩])
 (.seq (.seq (.reg [⟨none, some 4, 4, .load (some 12) (.t 1)⟩,
   ⟨none, some 5, 5, .call 19 [0] [(.t 4)]⟩,
   ⟨none, some 6, 6, .not (.t 5)⟩,
   ⟨none, some 7, 7, .mv (.t 6)⟩,
   ⟨(some (7, false)), some 8, 8, .faddr (.t 1) 2⟩,
   ⟨(some (7, false)), some 9, 9, .load none (.t 8)⟩,
   ⟨(some (7, false)), some 10, 10, .not (.t 9)⟩,
   ⟨none, some 11, 11, .pick (.t 7) (.k (.one (.pv (.bool true)))) (.t 10)⟩])
 (.cond 11 (.seq (.reg [⟨none, some 12, 12, .build [.pv (.int .i64 0), .pv (.int .i64 0), .pv (.int .i64 0), .pv (.int .i64 0), .pv (.string ⟨#[]⟩), .pv (.string ⟨#[]⟩), .pv (.int .i64 0), .pv (.int .i64 0)] []⟩,
   ⟨none, none, 100001, .store 8 (.t 2) (.t 12)⟩,
   ⟨none, some 3, 3, .mv (.k (.one (.pv (.bool false))))⟩])
 (.ret)) (.skip)))
 (.seq (.reg [⟨none, some 13, 13, .faddr (.t 1) 3⟩,
   ⟨none, some 14, 14, .load (some 8) (.t 13)⟩,
   ⟨none, none, 100002, .store 8 (.t 2) (.t 14)⟩,
   ⟨none, some 3, 3, .mv (.k (.one (.pv (.bool true))))⟩])
 (.ret)))⟩
abbrev C_s_Again (Te : Nat → List AV → Res → Prop) : Prop := ∀ (c : ClientV) (h : c.In (2 ^ 31)), Te 11 [.agg (c.enc false)] ⟨[.agg c.again.row, .one (bT (c.ok && c.Busy))], [c.enc false]⟩
theorem r_s_Again {Te : Nat → List AV → Res → Prop} (c_s_ClientOk : C_s_ClientOk Te) : ∀ (c : ClientV) (h : c.In (2 ^ 31)), RunFn Te x_s_Again [.agg (c.enc false)] ⟨[.agg c.again.row, .one (bT (c.ok && c.Busy))], [c.enc false]⟩ := by
  intro c h
  refine ⟨by simp -implicitDefEqProofs (maxSteps := 1000000) only [x_s_Again, go_sem], ?_⟩
  simp -implicitDefEqProofs (maxSteps := 1000000) only [x_s_Again, go_sem]
  refine .of (c_s_ClientOk _ h) ?_
  cases g1 : c.ok
  · simp -implicitDefEqProofs (maxSteps := 1000000) only [go_sem, ClientV.again, g1, if_false, false_and]
  · cases g2 : c.Busy
    · simp -implicitDefEqProofs (maxSteps := 1000000) only [go_sem, ClientV.again, g1, g2, if_false, and_false]
    · simp -implicitDefEqProofs (maxSteps := 1000000) only [go_sem, ClientV.again, g1, g2, if_true]
end Go.X

/- N -/
namespace Go.X
set_option maxRecDepth 100000
set_option maxHeartbeats 8000000
theorem ok_dones {c : ClientV} (h : c.ok = true) : (c.Dones.length : Int) ≤ 60 := by
  simp only [ClientV.ok, Bool.and_eq_true, decide_eq_true_eq] at h
  exact h.1.1.2
theorem ok_seq {c : ClientV} (h : c.ok = true) (hb : c.Busy = true) : c.M.Seq = c.Seq := by
  simp only [ClientV.ok, ClientV.mok, hb, if_true, Bool.and_eq_true, beq_iff_eq] at h
  exact h.2.1.2
def askMsg (c : ClientV) (kind : Int) (key text : ByteArray) : Msg := ⟨kind, c.Id, nodeOf key, IntKind.i64.wrap (c.Seq + 1), key, if kind = 3 then text else ⟨#[]⟩, 0, 0⟩
def askMay (c : ClientV) (kind : Int) (key text : ByteArray) : Bool := c.ok && !c.Busy && !(decide ((c.Dones.length : Int) ≥ 60)) && !(decide (c.Seq ≥ 60000)) && asked1 kind && (askMsg c kind key text).ok
def askFor (c : ClientV) (kind : Int) (key text : ByteArray) : ClientV × Msg × Bool := if askMay c kind key text = true then (⟨c.Id, IntKind.i64.wrap (c.Seq + 1), true, askMsg c kind key text, c.Dones⟩, askMsg c kind key text, true) else (c, ⟨0, 0, 0, 0, ⟨#[]⟩, ⟨#[]⟩, 0, 0⟩, false)
theorem askFor_no {c : ClientV} {kind : Int} {key text : ByteArray} (h : askMay c kind key text = false) : askFor c kind key text = (c, ⟨0, 0, 0, 0, ⟨#[]⟩, ⟨#[]⟩, 0, 0⟩, false) := by simp only [askFor, h]; rfl
theorem askFor_yes {c : ClientV} {kind : Int} {key text : ByteArray} (h : askMay c kind key text = true) : askFor c kind key text = (⟨c.Id, IntKind.i64.wrap (c.Seq + 1), true, askMsg c kind key text, c.Dones⟩, askMsg c kind key text, true) := by simp only [askFor, h]; rfl
theorem askFor_len {c : ClientV} (kind : Int) (key text : ByteArray) (h : c.Len) : (askFor c kind key text).1.Len := by
  unfold askFor
  split <;> exact h
def x_i_AskFor : FnX := ⟨68, [.cell 8 (some 12), .cell 9 (some 8), .tmp 10],
  .seq (.reg [⟨none, some 4, 4, .box (.t 0)⟩,
   ⟨none, some 8, 8, .alloc [.pv (.int .i64 0), .pv (.int .i64 0), .pv (.bool false), .pv (.int .i64 0), .pv (.int .i64 0), .pv (.int .i64 0), .pv (.int .i64 0), .pv (.string ⟨#[]⟩), .pv (.string ⟨#[]⟩), .pv (.int .i64 0), .pv (.int .i64 0), .nils 5]⟩,
   ⟨none, some 9, 9, .alloc [.pv (.int .i64 0), .pv (.int .i64 0), .pv (.int .i64 0), .pv (.int .i64 0), .pv (.string ⟨#[]⟩), .pv (.string ⟨#[]⟩), .pv (.int .i64 0), .pv (.int .i64 0)]⟩,
   ⟨none, some 10, 10, .mv (.k (.one (.pv (.bool false))))⟩])
 (.seq (.seq (.reg [⟨none, some 13, 13, .mv (.t 1)⟩,
   ⟨none, some 14, 14, .bin .neq (.t 13) (.k (.one (.pv (.int .i64 3))))⟩])
 (.cond 14 (.reg [⟨none, some 3, 3, .mv (.k (.one (.pv (.string ⟨#[]⟩))))⟩]) (.skip)))
 (.seq (.draw [⟨none, some 15, 15, .mv (.t 1)⟩,
   ⟨none, some 16, 16, .faddr (.t 4) 0⟩,
   ⟨none, some 17, 17, .load none (.t 16)⟩,
   ⟨none, some 18, 18, .mv (.t 2)⟩,
   ⟨none, some 19, 19, .call 48 [0] [(.t 18)]⟩,
   ⟨none, some 20, 20, .faddr (.t 4) 1⟩,
   ⟨none, some 21, 21, .load none (.t 20)⟩,
   ⟨none, some 22, 22, .bin .add (.t 21) (.k (.one (.pv (.int .i64 1))))⟩,
   ⟨none, some 23, 23, .mv (.t 2)⟩,
   ⟨none, some 24, 24, .mv (.t 3)⟩,
   ⟨none, some 25, 25, .build [.pv (.int .i64 0), .pv (.int .i64 0), .pv (.int .i64 0), .pv (.int .i64 0), .pv (.string ⟨#[]⟩), .pv (.string ⟨#[]⟩), .pv (.int .i64 0), .pv (.int .i64 0)] [(0, 1, (.t 15)), (1, 1, (.t 17)), (2, 1, (.t 19)), (3, 1, (.t 22)), (4, 1, (.t 23)), (5, 1, (.t 24))]⟩,
   ⟨none, some 11, 11, .alloc [.pv (.int .i64 0), .pv (.int .i64 0), .pv (.int .i64 0), .pv (.int .i64 0), .pv (.string ⟨#[]⟩), .pv (.string ⟨#[]⟩), .pv (.int .i64 0), .pv (.int .i64 0)]⟩,
   ⟨none, none, 100001, .store 8 (.t 11) (.t 25)⟩] [[], [], [1], [], [3], [], [5], [6], [], [], [0, 2, 4, 7, 8, 9], [], [11, 10, 4, 0, 1, 2, 3, 4, 5, 6, 7, 8, 9, 10, 11]])
 (.seq (.seq (.reg [⟨none, some 26, 26, .load (some 12) (.t 4)⟩,
   ⟨none, some 27, 27, .call 18 [0] [(.t 26)]⟩,
   ⟨none, some 28, 28, .not (.t 27)⟩,
   ⟨none, some 29, 29, .mv (.t 28)⟩,
   ⟨(some (29, false)), some 30, 30, .faddr (.t 4) 2⟩,
   ⟨(some (29, false)), some 31, 31, .load none (.t 30)⟩,
   ⟨none, some 32, 32, .pick (.t 29) (.k (.one (.pv (.bool true)))) (.t 31)⟩,
   ⟨none, some 33, 33, .mv (.t 32)⟩,
   ⟨(some (33, false)), some 34, 34, .faddr (.t 4) 11⟩,
   ⟨(some (33, false)), some 35, 35, .load none (.t 34)⟩,
   ⟨(some (33, false)), some 36, 36, .len (.t 35)⟩,
   ⟨(some (33, false)), some 37, 37, .bin .eql (.t 36) (.k (.one (.pv (.int .i64 60))))⟩,
   ⟨none, some 38, 38, .pick (.t 33) (.k (.one (.pv (.bool true)))) (.t 37)⟩,
   ⟨none, some 39, 39, .mv (.t 38)⟩,
   ⟨(some (39, false)), some 40, 40, .faddr (.t 4) 1⟩,
   ⟨(some (39, false)), some 41, 41, .load none (.t 40)⟩,
   ⟨(some (39, false)), some 42, 42, .bin .geq (.t 41) (.k (.one (.pv (.int .i64 60000))))⟩,
   ⟨none, some 43, 43, .pick (.t 39) (.k (.one (.pv (.bool true)))) (.t 42)⟩,
   ⟨none, some 44, 44, .mv (.t 43)⟩,
   ⟨(some (44, false)), some 45, 45, .mv (.t 1)⟩,
   ⟨(some (44, false)), some 46, 46, .call 49 [0] [(.t 45)]⟩,
   ⟨(some (44, false)), some 47, 47, .not (.t 46)⟩,
   ⟨none, some 48, 48, .pick (.t 44) (.k (.one (.pv (.bool true)))) (.t 47)⟩,
   ⟨none, some 49, 49, .mv (.t 48)⟩,
   ⟨(some (49, false)), some 50, 50, .load (some 8) (.t 11)⟩,
   ⟨(some (49, false)), some 51, 51, .call 50 [0] [(.t 50)]⟩,
   ⟨(some (49, false)), some 52, 52, .not (.t 51)⟩,
   ⟨none, some 53, 53, .pick (.t 49) (.k (.one (.pv (.bool true)))) (.t 52)⟩])
 (.cond 53 (.seq (.reg [⟨none, some 54, 54, .load (some 12) (.t 4)⟩,
   ⟨none, some 55, 55, .call 51 [0] [(.t 54)]⟩,
   ⟨none, some 56, 56, .build [.pv (.int .i64 0), .pv (.int .i64 0), .pv (.int .i64 0), .pv (.int .i64 0), .pv (.string ⟨#[]⟩), .pv (.string ⟨#[]⟩), .pv (.int .i64 0), .pv (.int .i64 0)] []⟩,
   ⟨none, none, 100002, .store 12 (.t 8) (.t 55)⟩,
   ⟨none, none, 100003, .store 8 (.t 9) (.t 56)⟩,
   ⟨none, some 10, 10, .mv (.k (.one (.pv (.bool false))))⟩])
 (.ret)) (.skip)))
 (.seq (.reg [⟨none, some 57, 57, .load (some 12) (.t 4)⟩,
   ⟨none, some 58, 58, .call 51 [0] [(.t 57)]⟩,
   ⟨none, some 12, 12, .alloc [.pv (.int .i64 0), .pv (.int .i64 0), .pv (.bool false), .pv (.int .i64 0), .pv (.int .i64 0), .pv (.int .i64 0), .pv (.int .i64 0), .pv (.string ⟨#[]⟩), .pv (.string ⟨#[]⟩), .pv (.int .i64 0), .pv (.int .i64 0), .nils 5]⟩,
   ⟨none, none, 100004, .store 12 (.t 12) (.t 58)⟩])
 (.seq (.draw [⟨none, some 59, 59, .faddr (.t 4) 1⟩,
   ⟨none, some 60, 60, .load none (.t 59)⟩,
   ⟨none, some 61, 61, .bin .add (.t 60) (.k (.one (.pv (.int .i64 1))))⟩,
   ⟨none, some 62, 62, .load (some 8) (.t 11)⟩,
   ⟨none, some 63, 63, .faddr (.t 12) 1⟩,
   ⟨none, none, 100005, .store 1 (.t 63) (.t 61)⟩,
   ⟨none, some 64, 64, .faddr (.t 12) 2⟩,
   ⟨none, none, 100006, .store 1 (.t 64) (.k (.one (.pv (.bool true))))⟩,
   ⟨none, some 65, 65, .faddr (.t 12) 3⟩,
   ⟨none, none, 100007, .store 8 (.t 65) (.t 62)⟩] [[], [0], [1], [], [0, 1, 2], [4, 2, 0, 1, 2], [0, 1, 2, 4, 5], [6, 5, 0, 1, 2, 4, 5], [0, 1, 2, 3, 4, 5, 6, 7], [8, 3, 7, 0, 1, 2, 3, 4, 5, 6, 7]])
 (.seq (.draw [⟨none, some 66, 66, .load (some 12) (.t 12)⟩,
   ⟨none, some 67, 67, .load (some 8) (.t 11)⟩,
   ⟨none, none, 100008, .store 12 (.t 8) (.t 66)⟩,
   ⟨none, none, 100009, .store 8 (.t 9) (.t 67)⟩,
   ⟨none, some 10, 10, .mv (.k (.one (.pv (.bool true))))⟩] [[], [], [0, 0], [1, 2, 0, 1, 2], [3, 0, 1, 2, 3]])
 (.ret)))))))⟩
abbrev C_i_AskFor (Te : Nat → List AV → Res → Prop) : Prop := ∀ (c : ClientV) (kind : Int) (key text : ByteArray) (h : c.In (2 ^ 31)) (hk : key.size ≤ 2 ^ 48), Te 7 [.agg (c.enc false), .one (iT kind), .one (sT key), .one (sT text)] ⟨[.agg ((askFor c kind key text).1.enc true), .agg (askFor c kind key text).2.1.row, .one (bT (askFor c kind key text).2.2)], [c.enc false, [iT kind], [sT key], [sT text]]⟩
theorem r_i_AskFor {Te : Nat → List AV → Res → Prop} (c_i_NodeOf : C_i_NodeOf Te) (c_i_ClientOk : C_i_ClientOk Te) (c_i_isAsked : C_i_isAsked Te) (c_i_MsgOk : C_i_MsgOk Te) (c_i_copyClient : C_i_copyClient Te) : ∀ (c : ClientV) (kind : Int) (key text : ByteArray) (h : c.In (2 ^ 31)) (hk : key.size ≤ 2 ^ 48), RunFn Te x_i_AskFor [.agg (c.enc false), .one (iT kind), .one (sT key), .one (sT text)] ⟨[.agg ((askFor c kind key text).1.enc true), .agg (askFor c kind key text).2.1.row, .one (bT (askFor c kind key text).2.2)], [c.enc false, [iT kind], [sT key], [sT text]]⟩ := by
  intro c kind key text h hk
  refine ⟨by simp -implicitDefEqProofs (maxSteps := 1000000) only [x_i_AskFor, go_sem], ?_⟩
  have hl : c.Len := h.len (by decide)
  cases g0 : (kind == 3)
  · have em : askMsg c kind key text = ⟨kind, c.Id, nodeOf key, IntKind.i64.wrap (c.Seq + 1), key, ⟨#[]⟩, 0, 0⟩ := by simp only [askMsg]; rw [if_neg (by simpa using g0)]
    simp -implicitDefEqProofs (maxSteps := 1000000) only [x_i_AskFor, go_sem, true_implies, false_implies, bne, g0]
    repeat (first | refine ⟨rfl, ?_⟩ | refine ⟨by decide, ?_⟩ | refine ⟨⟨by decide, by decide⟩, ?_⟩ | refine ⟨decide_eq_true (by omega), ?_⟩ | refine ⟨⟨decide_eq_true (by omega), decide_eq_true (by omega)⟩, ?_⟩)
    try (first | done | decide | exact decide_eq_true (by omega) | exact ⟨decide_eq_true (by omega), decide_eq_true (by omega)⟩)
    refine .of (c_i_NodeOf key hk) ?_
    try simp -implicitDefEqProofs (maxSteps := 1000000) only [go_sem, true_implies, false_implies, bne, g0]
    repeat (first | refine ⟨rfl, ?_⟩ | refine ⟨by decide, ?_⟩ | refine ⟨⟨by decide, by decide⟩, ?_⟩ | refine ⟨decide_eq_true (by omega), ?_⟩ | refine ⟨⟨decide_eq_true (by omega), decide_eq_true (by omega)⟩, ?_⟩)
    try (first | done | decide | exact decide_eq_true (by omega) | exact ⟨decide_eq_true (by omega), decide_eq_true (by omega)⟩)
    refine .of (c_i_ClientOk _ h) ?_
    cases g1 : c.ok
    · have e := askFor_no (c := c) (kind := kind) (key := key) (text := text) (by simp only [askMay, g1, Bool.not_true, Bool.not_false, Bool.false_and, Bool.and_false])
      try simp -implicitDefEqProofs (maxSteps := 1000000) only [go_sem, true_implies, false_implies, e]
      repeat (first | refine ⟨rfl, ?_⟩ | refine ⟨by decide, ?_⟩ | refine ⟨⟨by decide, by decide⟩, ?_⟩ | refine ⟨decide_eq_true (by omega), ?_⟩ | refine ⟨⟨decide_eq_true (by omega), decide_eq_true (by omega)⟩, ?_⟩)
      try (first | done | decide | exact decide_eq_true (by omega) | exact ⟨decide_eq_true (by omega), decide_eq_true (by omega)⟩)
      refine .of (c_i_copyClient _ hl) ?_
      try simp -implicitDefEqProofs (maxSteps := 1000000) only [go_sem, true_implies, false_implies, e]
      repeat (first | refine ⟨rfl, ?_⟩ | refine ⟨by decide, ?_⟩ | refine ⟨⟨by decide, by decide⟩, ?_⟩ | refine ⟨decide_eq_true (by omega), ?_⟩ | refine ⟨⟨decide_eq_true (by omega), decide_eq_true (by omega)⟩, ?_⟩)
      try (first | done | decide | exact decide_eq_true (by omega) | exact ⟨decide_eq_true (by omega), decide_eq_true (by omega)⟩)
    have hd := ok_dones g1
    cases g2 : c.Busy
    rotate_left
    · have e := askFor_no (c := c) (kind := kind) (key := key) (text := text) (by simp only [askMay, g2, Bool.not_true, Bool.not_false, Bool.false_and, Bool.and_false])
      try simp -implicitDefEqProofs (maxSteps := 1000000) only [go_sem, true_implies, false_implies, e, g2]
      repeat (first | refine ⟨rfl, ?_⟩ | refine ⟨by decide, ?_⟩ | refine ⟨⟨by decide, by decide⟩, ?_⟩ | refine ⟨decide_eq_true (by omega), ?_⟩ | refine ⟨⟨decide_eq_true (by omega), decide_eq_true (by omega)⟩, ?_⟩)
      try (first | done | decide | exact decide_eq_true (by omega) | exact ⟨decide_eq_true (by omega), decide_eq_true (by omega)⟩)
      refine .of (c_i_copyClient ⟨c.Id, c.Seq, true, c.M, c.Dones⟩ hl) ?_
      try simp -implicitDefEqProofs (maxSteps := 1000000) only [go_sem, true_implies, false_implies, e, g2]
      repeat (first | refine ⟨rfl, ?_⟩ | refine ⟨by decide, ?_⟩ | refine ⟨⟨by decide, by decide⟩, ?_⟩ | refine ⟨decide_eq_true (by omega), ?_⟩ | refine ⟨⟨decide_eq_true (by omega), decide_eq_true (by omega)⟩, ?_⟩)
      try (first | done | decide | exact decide_eq_true (by omega) | exact ⟨decide_eq_true (by omega), decide_eq_true (by omega)⟩)
      all_goals first | rfl | (simp only [ClientV.enc, g2]; done) | (simp only [ClientV.enc, g2]; rfl)
    cases g3 : (decide ((c.Dones.length : Int) ≥ 60))
    rotate_left
    · have g3' : (((c.Dones.length : Int)) == 60) = true := by simp only [decide_eq_true_eq] at g3; simp only [beq_iff_eq]; omega
      have e := askFor_no (c := c) (kind := kind) (key := key) (text := text) (by simp only [askMay, g3, Bool.not_true, Bool.not_false, Bool.false_and, Bool.and_false])
      try simp -implicitDefEqProofs (maxSteps := 1000000) only [go_sem, true_implies, false_implies, e, g2, g3, g3']
      repeat (first | refine ⟨rfl, ?_⟩ | refine ⟨by decide, ?_⟩ | refine ⟨⟨by decide, by decide⟩, ?_⟩ | refine ⟨decide_eq_true (by omega), ?_⟩ | refine ⟨⟨decide_eq_true (by omega), decide_eq_true (by omega)⟩, ?_⟩)
      try (first | done | decide | exact decide_eq_true (by omega) | exact ⟨decide_eq_true (by omega), decide_eq_true (by omega)⟩)
      refine .of (c_i_copyClient ⟨c.Id, c.Seq, false, c.M, c.Dones⟩ hl) ?_
      try simp -implicitDefEqProofs (maxSteps := 1000000) only [go_sem, true_implies, false_implies, e, g2]
      repeat (first | refine ⟨rfl, ?_⟩ | refine ⟨by decide, ?_⟩ | refine ⟨⟨by decide, by decide⟩, ?_⟩ | refine ⟨decide_eq_true (by omega), ?_⟩ | refine ⟨⟨decide_eq_true (by omega), decide_eq_true (by omega)⟩, ?_⟩)
      try (first | done | decide | exact decide_eq_true (by omega) | exact ⟨decide_eq_true (by omega), decide_eq_true (by omega)⟩)
      all_goals first | rfl | (simp only [ClientV.enc, g2]; done) | (simp only [ClientV.enc, g2]; rfl)
    have g3' : (((c.Dones.length : Int)) == 60) = false := by simp only [decide_eq_false_iff_not] at g3; simp only [beq_eq_false_iff_ne]; omega
    cases g4 : (decide (c.Seq ≥ 60000))
    rotate_left
    · have e := askFor_no (c := c) (kind := kind) (key := key) (text := text) (by simp only [askMay, g4, Bool.not_true, Bool.not_false, Bool.false_and, Bool.and_false])
      try simp -implicitDefEqProofs (maxSteps := 1000000) only [go_sem, true_implies, false_implies, e, g2, g3, g3', g4]
      repeat (first | refine ⟨rfl, ?_⟩ | refine ⟨by decide, ?_⟩ | refine ⟨⟨by decide, by decide⟩, ?_⟩ | refine ⟨decide_eq_true (by omega), ?_⟩ | refine ⟨⟨decide_eq_true (by omega), decide_eq_true (by omega)⟩, ?_⟩)
      try (first | done | decide | exact decide_eq_true (by omega) | exact ⟨decide_eq_true (by omega), decide_eq_true (by omega)⟩)
      refine .of (c_i_copyClient ⟨c.Id, c.Seq, false, c.M, c.Dones⟩ hl) ?_
      try simp -implicitDefEqProofs (maxSteps := 1000000) only [go_sem, true_implies, false_implies, e, g2]
      repeat (first | refine ⟨rfl, ?_⟩ | refine ⟨by decide, ?_⟩ | refine ⟨⟨by decide, by decide⟩, ?_⟩ | refine ⟨decide_eq_true (by omega), ?_⟩ | refine ⟨⟨decide_eq_true (by omega), decide_eq_true (by omega)⟩, ?_⟩)
      try (first | done | decide | exact decide_eq_true (by omega) | exact ⟨decide_eq_true (by omega), decide_eq_true (by omega)⟩)
      all_goals first | rfl | (simp only [ClientV.enc, g2]; done) | (simp only [ClientV.enc, g2]; rfl)
    try simp -implicitDefEqProofs (maxSteps := 1000000) only [go_sem, true_implies, false_implies, g2, g3, g3', g4]
    repeat (first | refine ⟨rfl, ?_⟩ | refine ⟨by decide, ?_⟩ | refine ⟨⟨by decide, by decide⟩, ?_⟩ | refine ⟨decide_eq_true (by omega), ?_⟩ | refine ⟨⟨decide_eq_true (by omega), decide_eq_true (by omega)⟩, ?_⟩)
    try (first | done | decide | exact decide_eq_true (by omega) | exact ⟨decide_eq_true (by omega), decide_eq_true (by omega)⟩)
    refine .of (c_i_isAsked _) ?_
    cases g5 : asked1 kind
    · have e := askFor_no (c := c) (kind := kind) (key := key) (text := text) (by simp only [askMay, g5, Bool.not_true, Bool.not_false, Bool.false_and, Bool.and_false])
      try simp -implicitDefEqProofs (maxSteps := 1000000) only [go_sem, true_implies, false_implies, e, g2]
      repeat (first | refine ⟨rfl, ?_⟩ | refine ⟨by decide, ?_⟩ | refine ⟨⟨by decide, by decide⟩, ?_⟩ | refine ⟨decide_eq_true (by omega), ?_⟩ | refine ⟨⟨decide_eq_true (by omega), decide_eq_true (by omega)⟩, ?_⟩)
      try (first | done | decide | exact decide_eq_true (by omega) | exact ⟨decide_eq_true (by omega), decide_eq_true (by omega)⟩)
      refine .of (c_i_copyClient ⟨c.Id, c.Seq, false, c.M, c.Dones⟩ hl) ?_
      try simp -implicitDefEqProofs (maxSteps := 1000000) only [go_sem, true_implies, false_implies, e, g2]
      repeat (first | refine ⟨rfl, ?_⟩ | refine ⟨by decide, ?_⟩ | refine ⟨⟨by decide, by decide⟩, ?_⟩ | refine ⟨decide_eq_true (by omega), ?_⟩ | refine ⟨⟨decide_eq_true (by omega), decide_eq_true (by omega)⟩, ?_⟩)
      try (first | done | decide | exact decide_eq_true (by omega) | exact ⟨decide_eq_true (by omega), decide_eq_true (by omega)⟩)
      all_goals first | rfl | (simp only [ClientV.enc, g2]; done) | (simp only [ClientV.enc, g2]; rfl)
    try simp -implicitDefEqProofs (maxSteps := 1000000) only [go_sem, true_implies, false_implies]
    repeat (first | refine ⟨rfl, ?_⟩ | refine ⟨by decide, ?_⟩ | refine ⟨⟨by decide, by decide⟩, ?_⟩ | refine ⟨decide_eq_true (by omega), ?_⟩ | refine ⟨⟨decide_eq_true (by omega), decide_eq_true (by omega)⟩, ?_⟩)
    try (first | done | decide | exact decide_eq_true (by omega) | exact ⟨decide_eq_true (by omega), decide_eq_true (by omega)⟩)
    refine .of (c_i_MsgOk ⟨kind, c.Id, nodeOf key, IntKind.i64.wrap (c.Seq + 1), key, ⟨#[]⟩, 0, 0⟩) ?_
    rw [← em]
    cases g6 : (askMsg c kind key text).ok
    · have e := askFor_no (c := c) (kind := kind) (key := key) (text := text) (by simp only [askMay, g6, Bool.not_true, Bool.not_false, Bool.false_and, Bool.and_false])
      try simp -implicitDefEqProofs (maxSteps := 1000000) only [go_sem, true_implies, false_implies, e, g2]
      repeat (first | refine ⟨rfl, ?_⟩ | refine ⟨by decide, ?_⟩ | refine ⟨⟨by decide, by decide⟩, ?_⟩ | refine ⟨decide_eq_true (by omega), ?_⟩ | refine ⟨⟨decide_eq_true (by omega), decide_eq_true (by omega)⟩, ?_⟩)
      try (first | done | decide | exact decide_eq_true (by omega) | exact ⟨decide_eq_true (by omega), decide_eq_true (by omega)⟩)
      refine .of (c_i_copyClient ⟨c.Id, c.Seq, false, c.M, c.Dones⟩ hl) ?_
      try simp -implicitDefEqProofs (maxSteps := 1000000) only [go_sem, true_implies, false_implies, e, g2]
      repeat (first | refine ⟨rfl, ?_⟩ | refine ⟨by decide, ?_⟩ | refine ⟨⟨by decide, by decide⟩, ?_⟩ | refine ⟨decide_eq_true (by omega), ?_⟩ | refine ⟨⟨decide_eq_true (by omega), decide_eq_true (by omega)⟩, ?_⟩)
      try (first | done | decide | exact decide_eq_true (by omega) | exact ⟨decide_eq_true (by omega), decide_eq_true (by omega)⟩)
      all_goals first | rfl | (simp only [ClientV.enc, g2]; done) | (simp only [ClientV.enc, g2]; rfl)
    · have e := askFor_yes (c := c) (kind := kind) (key := key) (text := text) (by simp only [askMay, g1, g2, g3, g4, g5, g6, Bool.not_true, Bool.not_false, Bool.and_true])
      try simp -implicitDefEqProofs (maxSteps := 1000000) only [go_sem, true_implies, false_implies]
      repeat (first | refine ⟨rfl, ?_⟩ | refine ⟨by decide, ?_⟩ | refine ⟨⟨by decide, by decide⟩, ?_⟩ | refine ⟨decide_eq_true (by omega), ?_⟩ | refine ⟨⟨decide_eq_true (by omega), decide_eq_true (by omega)⟩, ?_⟩)
      try (first | done | decide | exact decide_eq_true (by omega) | exact ⟨decide_eq_true (by omega), decide_eq_true (by omega)⟩)
      refine .of (c_i_copyClient ⟨c.Id, c.Seq, false, c.M, c.Dones⟩ hl) ?_
      try simp -implicitDefEqProofs (maxSteps := 1000000) only [go_sem, true_implies, false_implies, e, em, g2]
      repeat (first | refine ⟨rfl, ?_⟩ | refine ⟨by decide, ?_⟩ | refine ⟨⟨by decide, by decide⟩, ?_⟩ | refine ⟨decide_eq_true (by omega), ?_⟩ | refine ⟨⟨decide_eq_true (by omega), decide_eq_true (by omega)⟩, ?_⟩)
      try (first | done | decide | exact decide_eq_true (by omega) | exact ⟨decide_eq_true (by omega), decide_eq_true (by omega)⟩)
      all_goals first | rfl | (simp only [ClientV.enc, g2]; done) | (simp only [ClientV.enc, g2]; rfl)
  · have em : askMsg c kind key text = ⟨kind, c.Id, nodeOf key, IntKind.i64.wrap (c.Seq + 1), key, text, 0, 0⟩ := by simp only [askMsg]; rw [if_pos (by simpa using g0)]
    simp -implicitDefEqProofs (maxSteps := 1000000) only [x_i_AskFor, go_sem, true_implies, false_implies, bne, g0]
    repeat (first | refine ⟨rfl, ?_⟩ | refine ⟨by decide, ?_⟩ | refine ⟨⟨by decide, by decide⟩, ?_⟩ | refine ⟨decide_eq_true (by omega), ?_⟩ | refine ⟨⟨decide_eq_true (by omega), decide_eq_true (by omega)⟩, ?_⟩)
    try (first | done | decide | exact decide_eq_true (by omega) | exact ⟨decide_eq_true (by omega), decide_eq_true (by omega)⟩)
    refine .of (c_i_NodeOf key hk) ?_
    try simp -implicitDefEqProofs (maxSteps := 1000000) only [go_sem, true_implies, false_implies, bne, g0]
    repeat (first | refine ⟨rfl, ?_⟩ | refine ⟨by decide, ?_⟩ | refine ⟨⟨by decide, by decide⟩, ?_⟩ | refine ⟨decide_eq_true (by omega), ?_⟩ | refine ⟨⟨decide_eq_true (by omega), decide_eq_true (by omega)⟩, ?_⟩)
    try (first | done | decide | exact decide_eq_true (by omega) | exact ⟨decide_eq_true (by omega), decide_eq_true (by omega)⟩)
    refine .of (c_i_ClientOk _ h) ?_
    cases g1 : c.ok
    · have e := askFor_no (c := c) (kind := kind) (key := key) (text := text) (by simp only [askMay, g1, Bool.not_true, Bool.not_false, Bool.false_and, Bool.and_false])
      try simp -implicitDefEqProofs (maxSteps := 1000000) only [go_sem, true_implies, false_implies, e]
      repeat (first | refine ⟨rfl, ?_⟩ | refine ⟨by decide, ?_⟩ | refine ⟨⟨by decide, by decide⟩, ?_⟩ | refine ⟨decide_eq_true (by omega), ?_⟩ | refine ⟨⟨decide_eq_true (by omega), decide_eq_true (by omega)⟩, ?_⟩)
      try (first | done | decide | exact decide_eq_true (by omega) | exact ⟨decide_eq_true (by omega), decide_eq_true (by omega)⟩)
      refine .of (c_i_copyClient _ hl) ?_
      try simp -implicitDefEqProofs (maxSteps := 1000000) only [go_sem, true_implies, false_implies, e]
      repeat (first | refine ⟨rfl, ?_⟩ | refine ⟨by decide, ?_⟩ | refine ⟨⟨by decide, by decide⟩, ?_⟩ | refine ⟨decide_eq_true (by omega), ?_⟩ | refine ⟨⟨decide_eq_true (by omega), decide_eq_true (by omega)⟩, ?_⟩)
      try (first | done | decide | exact decide_eq_true (by omega) | exact ⟨decide_eq_true (by omega), decide_eq_true (by omega)⟩)
    have hd := ok_dones g1
    cases g2 : c.Busy
    rotate_left
    · have e := askFor_no (c := c) (kind := kind) (key := key) (text := text) (by simp only [askMay, g2, Bool.not_true, Bool.not_false, Bool.false_and, Bool.and_false])
      try simp -implicitDefEqProofs (maxSteps := 1000000) only [go_sem, true_implies, false_implies, e, g2]
      repeat (first | refine ⟨rfl, ?_⟩ | refine ⟨by decide, ?_⟩ | refine ⟨⟨by decide, by decide⟩, ?_⟩ | refine ⟨decide_eq_true (by omega), ?_⟩ | refine ⟨⟨decide_eq_true (by omega), decide_eq_true (by omega)⟩, ?_⟩)
      try (first | done | decide | exact decide_eq_true (by omega) | exact ⟨decide_eq_true (by omega), decide_eq_true (by omega)⟩)
      refine .of (c_i_copyClient ⟨c.Id, c.Seq, true, c.M, c.Dones⟩ hl) ?_
      try simp -implicitDefEqProofs (maxSteps := 1000000) only [go_sem, true_implies, false_implies, e, g2]
      repeat (first | refine ⟨rfl, ?_⟩ | refine ⟨by decide, ?_⟩ | refine ⟨⟨by decide, by decide⟩, ?_⟩ | refine ⟨decide_eq_true (by omega), ?_⟩ | refine ⟨⟨decide_eq_true (by omega), decide_eq_true (by omega)⟩, ?_⟩)
      try (first | done | decide | exact decide_eq_true (by omega) | exact ⟨decide_eq_true (by omega), decide_eq_true (by omega)⟩)
      all_goals first | rfl | (simp only [ClientV.enc, g2]; done) | (simp only [ClientV.enc, g2]; rfl)
    cases g3 : (decide ((c.Dones.length : Int) ≥ 60))
    rotate_left
    · have g3' : (((c.Dones.length : Int)) == 60) = true := by simp only [decide_eq_true_eq] at g3; simp only [beq_iff_eq]; omega
      have e := askFor_no (c := c) (kind := kind) (key := key) (text := text) (by simp only [askMay, g3, Bool.not_true, Bool.not_false, Bool.false_and, Bool.and_false])
      try simp -implicitDefEqProofs (maxSteps := 1000000) only [go_sem, true_implies, false_implies, e, g2, g3, g3']
      repeat (first | refine ⟨rfl, ?_⟩ | refine ⟨by decide, ?_⟩ | refine ⟨⟨by decide, by decide⟩, ?_⟩ | refine ⟨decide_eq_true (by omega), ?_⟩ | refine ⟨⟨decide_eq_true (by omega), decide_eq_true (by omega)⟩, ?_⟩)
      try (first | done | decide | exact decide_eq_true (by omega) | exact ⟨decide_eq_true (by omega), decide_eq_true (by omega)⟩)
      refine .of (c_i_copyClient ⟨c.Id, c.Seq, false, c.M, c.Dones⟩ hl) ?_
      try simp -implicitDefEqProofs (maxSteps := 1000000) only [go_sem, true_implies, false_implies, e, g2]
      repeat (first | refine ⟨rfl, ?_⟩ | refine ⟨by decide, ?_⟩ | refine ⟨⟨by decide, by decide⟩, ?_⟩ | refine ⟨decide_eq_true (by omega), ?_⟩ | refine ⟨⟨decide_eq_true (by omega), decide_eq_true (by omega)⟩, ?_⟩)
      try (first | done | decide | exact decide_eq_true (by omega) | exact ⟨decide_eq_true (by omega), decide_eq_true (by omega)⟩)
      all_goals first | rfl | (simp only [ClientV.enc, g2]; done) | (simp only [ClientV.enc, g2]; rfl)
    have g3' : (((c.Dones.length : Int)) == 60) = false := by simp only [decide_eq_false_iff_not] at g3; simp only [beq_eq_false_iff_ne]; omega
    cases g4 : (decide (c.Seq ≥ 60000))
    rotate_left
    · have e := askFor_no (c := c) (kind := kind) (key := key) (text := text) (by simp only [askMay, g4, Bool.not_true, Bool.not_false, Bool.false_and, Bool.and_false])
      try simp -implicitDefEqProofs (maxSteps := 1000000) only [go_sem, true_implies, false_implies, e, g2, g3, g3', g4]
      repeat (first | refine ⟨rfl, ?_⟩ | refine ⟨by decide, ?_⟩ | refine ⟨⟨by decide, by decide⟩, ?_⟩ | refine ⟨decide_eq_true (by omega), ?_⟩ | refine ⟨⟨decide_eq_true (by omega), decide_eq_true (by omega)⟩, ?_⟩)
      try (first | done | decide | exact decide_eq_true (by omega) | exact ⟨decide_eq_true (by omega), decide_eq_true (by omega)⟩)
      refine .of (c_i_copyClient ⟨c.Id, c.Seq, false, c.M, c.Dones⟩ hl) ?_
      try simp -implicitDefEqProofs (maxSteps := 1000000) only [go_sem, true_implies, false_implies, e, g2]
      repeat (first | refine ⟨rfl, ?_⟩ | refine ⟨by decide, ?_⟩ | refine ⟨⟨by decide, by decide⟩, ?_⟩ | refine ⟨decide_eq_true (by omega), ?_⟩ | refine ⟨⟨decide_eq_true (by omega), decide_eq_true (by omega)⟩, ?_⟩)
      try (first | done | decide | exact decide_eq_true (by omega) | exact ⟨decide_eq_true (by omega), decide_eq_true (by omega)⟩)
      all_goals first | rfl | (simp only [ClientV.enc, g2]; done) | (simp only [ClientV.enc, g2]; rfl)
    try simp -implicitDefEqProofs (maxSteps := 1000000) only [go_sem, true_implies, false_implies, g2, g3, g3', g4]
    repeat (first | refine ⟨rfl, ?_⟩ | refine ⟨by decide, ?_⟩ | refine ⟨⟨by decide, by decide⟩, ?_⟩ | refine ⟨decide_eq_true (by omega), ?_⟩ | refine ⟨⟨decide_eq_true (by omega), decide_eq_true (by omega)⟩, ?_⟩)
    try (first | done | decide | exact decide_eq_true (by omega) | exact ⟨decide_eq_true (by omega), decide_eq_true (by omega)⟩)
    refine .of (c_i_isAsked _) ?_
    cases g5 : asked1 kind
    · have e := askFor_no (c := c) (kind := kind) (key := key) (text := text) (by simp only [askMay, g5, Bool.not_true, Bool.not_false, Bool.false_and, Bool.and_false])
      try simp -implicitDefEqProofs (maxSteps := 1000000) only [go_sem, true_implies, false_implies, e, g2]
      repeat (first | refine ⟨rfl, ?_⟩ | refine ⟨by decide, ?_⟩ | refine ⟨⟨by decide, by decide⟩, ?_⟩ | refine ⟨decide_eq_true (by omega), ?_⟩ | refine ⟨⟨decide_eq_true (by omega), decide_eq_true (by omega)⟩, ?_⟩)
      try (first | done | decide | exact decide_eq_true (by omega) | exact ⟨decide_eq_true (by omega), decide_eq_true (by omega)⟩)
      refine .of (c_i_copyClient ⟨c.Id, c.Seq, false, c.M, c.Dones⟩ hl) ?_
      try simp -implicitDefEqProofs (maxSteps := 1000000) only [go_sem, true_implies, false_implies, e, g2]
      repeat (first | refine ⟨rfl, ?_⟩ | refine ⟨by decide, ?_⟩ | refine ⟨⟨by decide, by decide⟩, ?_⟩ | refine ⟨decide_eq_true (by omega), ?_⟩ | refine ⟨⟨decide_eq_true (by omega), decide_eq_true (by omega)⟩, ?_⟩)
      try (first | done | decide | exact decide_eq_true (by omega) | exact ⟨decide_eq_true (by omega), decide_eq_true (by omega)⟩)
      all_goals first | rfl | (simp only [ClientV.enc, g2]; done) | (simp only [ClientV.enc, g2]; rfl)
    try simp -implicitDefEqProofs (maxSteps := 1000000) only [go_sem, true_implies, false_implies]
    repeat (first | refine ⟨rfl, ?_⟩ | refine ⟨by decide, ?_⟩ | refine ⟨⟨by decide, by decide⟩, ?_⟩ | refine ⟨decide_eq_true (by omega), ?_⟩ | refine ⟨⟨decide_eq_true (by omega), decide_eq_true (by omega)⟩, ?_⟩)
    try (first | done | decide | exact decide_eq_true (by omega) | exact ⟨decide_eq_true (by omega), decide_eq_true (by omega)⟩)
    refine .of (c_i_MsgOk ⟨kind, c.Id, nodeOf key, IntKind.i64.wrap (c.Seq + 1), key, text, 0, 0⟩) ?_
    rw [← em]
    cases g6 : (askMsg c kind key text).ok
    · have e := askFor_no (c := c) (kind := kind) (key := key) (text := text) (by simp only [askMay, g6, Bool.not_true, Bool.not_false, Bool.false_and, Bool.and_false])
      try simp -implicitDefEqProofs (maxSteps := 1000000) only [go_sem, true_implies, false_implies, e, g2]
      repeat (first | refine ⟨rfl, ?_⟩ | refine ⟨by decide, ?_⟩ | refine ⟨⟨by decide, by decide⟩, ?_⟩ | refine ⟨decide_eq_true (by omega), ?_⟩ | refine ⟨⟨decide_eq_true (by omega), decide_eq_true (by omega)⟩, ?_⟩)
      try (first | done | decide | exact decide_eq_true (by omega) | exact ⟨decide_eq_true (by omega), decide_eq_true (by omega)⟩)
      refine .of (c_i_copyClient ⟨c.Id, c.Seq, false, c.M, c.Dones⟩ hl) ?_
      try simp -implicitDefEqProofs (maxSteps := 1000000) only [go_sem, true_implies, false_implies, e, g2]
      repeat (first | refine ⟨rfl, ?_⟩ | refine ⟨by decide, ?_⟩ | refine ⟨⟨by decide, by decide⟩, ?_⟩ | refine ⟨decide_eq_true (by omega), ?_⟩ | refine ⟨⟨decide_eq_true (by omega), decide_eq_true (by omega)⟩, ?_⟩)
      try (first | done | decide | exact decide_eq_true (by omega) | exact ⟨decide_eq_true (by omega), decide_eq_true (by omega)⟩)
      all_goals first | rfl | (simp only [ClientV.enc, g2]; done) | (simp only [ClientV.enc, g2]; rfl)
    · have e := askFor_yes (c := c) (kind := kind) (key := key) (text := text) (by simp only [askMay, g1, g2, g3, g4, g5, g6, Bool.not_true, Bool.not_false, Bool.and_true])
      try simp -implicitDefEqProofs (maxSteps := 1000000) only [go_sem, true_implies, false_implies]
      repeat (first | refine ⟨rfl, ?_⟩ | refine ⟨by decide, ?_⟩ | refine ⟨⟨by decide, by decide⟩, ?_⟩ | refine ⟨decide_eq_true (by omega), ?_⟩ | refine ⟨⟨decide_eq_true (by omega), decide_eq_true (by omega)⟩, ?_⟩)
      try (first | done | decide | exact decide_eq_true (by omega) | exact ⟨decide_eq_true (by omega), decide_eq_true (by omega)⟩)
      refine .of (c_i_copyClient ⟨c.Id, c.Seq, false, c.M, c.Dones⟩ hl) ?_
      try simp -implicitDefEqProofs (maxSteps := 1000000) only [go_sem, true_implies, false_implies, e, em, g2]
      repeat (first | refine ⟨rfl, ?_⟩ | refine ⟨by decide, ?_⟩ | refine ⟨⟨by decide, by decide⟩, ?_⟩ | refine ⟨decide_eq_true (by omega), ?_⟩ | refine ⟨⟨decide_eq_true (by omega), decide_eq_true (by omega)⟩, ?_⟩)
      try (first | done | decide | exact decide_eq_true (by omega) | exact ⟨decide_eq_true (by omega), decide_eq_true (by omega)⟩)
      all_goals first | rfl | (simp only [ClientV.enc, g2]; done) | (simp only [ClientV.enc, g2]; rfl)
def x_s_AskFor : FnX := ⟨68, [.cell 8 (some 12), .cell 9 (some 8), .tmp 10],
  .seq (.reg [⟨none, some 4, 4, .box (.t 0)⟩,
   ⟨none, some 8, 8, .alloc [.pv (.int .i64 0), .pv (.int .i64 0), .pv (.bool false), .pv (.int .i64 0), .pv (.int .i64 0), .pv (.int .i64 0), .pv (.int .i64 0), .pv (.string ⟨#[]⟩), .pv (.string ⟨#[]⟩), .pv (.int .i64 0), .pv (.int .i64 0), .nils 5]⟩,
   ⟨none, some 9, 9, .alloc [.pv (.int .i64 0), .pv (.int .i64 0), .pv (.int .i64 0), .pv (.int .i64 0), .pv (.string ⟨#[]⟩), .pv (.string ⟨#[]⟩), .pv (.int .i64 0), .pv (.int .i64 0)]⟩,
   ⟨none, some 10, 10, .mv (.k (.one (.pv (.bool false))))⟩])
 (.seq (.reg [⟨none, some 13, 13, .load (some 12) (.t 4)⟩,
   ⟨none, some 14, 14, .call 52 [0] [(.t 13)]⟩,
   ⟨none, some 11, 11, .alloc [.pv (.int .i64 0), .pv (.int .i64 0), .pv (.bool false), .pv (.int .i64 0), .pv (.int .i64 0), .pv (.int .i64 0), .pv (.int .i64 0), .pv (.string ⟨#[]⟩), .pv (.string ⟨#[]⟩), .pv (.int .i64 0), .pv (.int .i64 0), .nils 5]⟩,
   ⟨none, none, 100001, .store 12 (.t 11) (.t 14)⟩])
 (.seq (.draw [⟨none, some 15, 15, .mv (.t 1)⟩,
   ⟨none, some 16, 16, .faddr (.t 4) 0⟩,
   ⟨none, some 17, 17, .load none (.t 16)⟩,
   ⟨none, some 18, 18, .mv (.t 2)⟩,
   ⟨none, some 19, 19, .call 53 [0] [(.t 18)]⟩,
   ⟨none, some 20, 20, .faddr (.t 4) 1⟩,
   ⟨none, some 21, 21, .load none (.t 20)⟩,
   ⟨none, some 22, 22, .bin .add (.t 21) (.k (.one (.pv (.int .i64 1))))⟩,
   ⟨none, some 23, 23, .mv (.t 2)⟩,
   ⟨none, some 24, 24, .build [.pv (.int .i64 0), .pv (.int .i64 0), .pv (.int .i64 0), .pv (.int .i64 0), .pv (.string ⟨#[]⟩), .pv (.string ⟨#[]⟩), .pv (.int .i64 0), .pv (.int .i64 0)] [(0, 1, (.t 15)), (1, 1, (.t 17)), (2, 1, (.t 19)), (3, 1, (.t 22)), (4, 1, (.t 23))]⟩,
   ⟨none, some 12, 12, .alloc [.pv (.int .i64 0), .pv (.int .i64 0), .pv (.int .i64 0), .pv (.int .i64 0), .pv (.string ⟨#[]⟩), .pv (.string ⟨#[]⟩), .pv (.int .i64 0), .pv (.int .i64 0)]⟩,
   ⟨none, none, 100002, .store 8 (.t 12) (.t 24)⟩] [[], [], [1], [], [3], [], [5], [6], [], [0, 2, 4, 7, 8], [], [10, 9, 4, 0, 1, 2, 3, 4, 5, 6, 7, 8, 9, 10]])
 (.seq (.seq (.reg [⟨none, some 25, 25, .mv (.t 1)⟩,
   ⟨none, some 26, 26, .bin .eql (.t 25) (.k (.one (.pv (.int .i64 3))))⟩])
 (.cond 26 (.reg [⟨none, some 27, 27, .mv (.t 3)⟩,
   ⟨none, some 28, 28, .faddr (.t 12) 5⟩,
   ⟨none, none, 100003, .store 1 (.t 28) (.t 27)⟩]) (.skip)))
 (.seq (.seq (.reg [⟨none, some 29, 29, .load (some 12) (.t 4)⟩,
   ⟨none, some 30, 30, .call 19 [0] [(.t 29)]⟩,
   ⟨none, some 31, 31, .not (.t 30)⟩,
   ⟨none, some 32, 32, .mv (.t 31)⟩,
   ⟨(some (32, false)), some 33, 33, .faddr (.t 4) 2⟩,
   ⟨(some (32, false)), some 34, 34, .load none (.t 33)⟩,
   ⟨none, some 35, 35, .pick (.t 32) (.k (.one (.pv (.bool true)))) (.t 34)⟩,
   ⟨none, some 36, 36, .mv (.t 35)⟩,
   ⟨(some (36, false)), some 37, 37, .faddr (.t 4) 11⟩,
   ⟨(some (36, false)), some 38, 38, .load none (.t 37)⟩,
   ⟨(some (36, false)), some 39, 39, .len (.t 38)⟩,
   ⟨(some (36, false)), some 40, 40, .bin .geq (.t 39) (.k (.one (.pv (.int .i64 60))))⟩,
   ⟨none, some 41, 41, .pick (.t 36) (.k (.one (.pv (.bool true)))) (.t 40)⟩,
   ⟨none, some 42, 42, .mv (.t 41)⟩,
   ⟨(some (42, false)), some 43, 43, .faddr (.t 4) 1⟩,
   ⟨(some (42, false)), some 44, 44, .load none (.t 43)⟩,
   ⟨(some (42, false)), some 45, 45, .bin .geq (.t 44) (.k (.one (.pv (.int .i64 60000))))⟩,
   ⟨none, some 46, 46, .pick (.t 42) (.k (.one (.pv (.bool true)))) (.t 45)⟩,
   ⟨none, some 47, 47, .mv (.t 46)⟩,
   ⟨(some (47, false)), some 48, 48, .mv (.t 1)⟩,
   ⟨(some (47, false)), some 49, 49, .call 54 [0] [(.t 48)]⟩,
   ⟨(some (47, false)), some 50, 50, .not (.t 49)⟩,
   ⟨none, some 51, 51, .pick (.t 47) (.k (.one (.pv (.bool true)))) (.t 50)⟩,
   ⟨none, some 52, 52, .mv (.t 51)⟩,
   ⟨(some (52, false)), some 53, 53, .load (some 8) (.t 12)⟩,
   ⟨(some (52, false)), some 54, 54, .call 55 [0] [(.t 53)]⟩,
   ⟨(some (52, false)), some 55, 55, .not (.t 54)⟩,
   ⟨none, some 56, 56, .pick (.t 52) (.k (.one (.pv (.bool true)))) (.t 55)⟩])
 (.cond 56 (.seq (.reg [⟨none, some 57, 57, .load (some 12) (.t 11)⟩,
   ⟨none, some 58, 58, .build [.pv (.int .i64 0), .pv (.int .i64 0), .pv (.int .i64 0), .pv (.int .i64 0), .pv (.string ⟨#[]⟩), .pv (.string ⟨#[]⟩), .pv (.int .i64 0), .pv (.int .i64 0)] []⟩,
   ⟨none, none, 100004, .store 12 (.t 8) (.t 57)⟩,
   ⟨none, none, 100005, .store 8 (.t 9) (.t 58)⟩,
   ⟨none, some 10, 10, .mv (.k (.one (.pv (.bool false))))⟩])
 (.ret)) (.skip)))
 (.seq (.reg [⟨none, some 59, 59, .faddr (.t 4) 1⟩,
   ⟨none, some 60, 60, .load none (.t 59)⟩,
   ⟨none, some 61, 61, .bin .add (.t 60) (.k (.one (.pv (.int .i64 1))))⟩,
   ⟨none, some 62, 62, .faddr (.t 11) 1⟩,
   ⟨none, none, 100006, .store 1 (.t 62) (.t 61)⟩])
 (.seq (.reg [⟨none, some 63, 63, .faddr (.t 11) 2⟩,
   ⟨none, none, 100007, .store 1 (.t 63) (.k (.one (.pv (.bool true))))⟩])
 (.seq (.reg [⟨none, some 64, 64, .load (some 8) (.t 12)⟩,
   ⟨none, some 65, 65, .faddr (.t 11) 3⟩,
   ⟨none, none, 100008, .store 8 (.t 65) (.t 64)⟩])
 (.seq (.draw [⟨none, some 66, 66, .load (some 12) (.t 11)⟩,
   ⟨none, some 67, 67, .load (some 8) (.t 12)⟩,
   ⟨none, none, 100009, .store 12 (.t 8) (.t 66)⟩,
   ⟨none, none, 100010, .store 8 (.t 9) (.t 67)⟩,
   ⟨none, some 10, 10, .mv (.k (.one (.pv (.bool true))))⟩] [[], [], [0, 0], [1, 2, 0, 1, 2], [3, 0, 1, 2, 3]])
 (.ret)))))))))⟩
abbrev C_s_AskFor (Te : Nat → List AV → Res → Prop) : Prop := ∀ (c : ClientV) (kind : Int) (key text : ByteArray) (h : c.In (2 ^ 31)) (hk : key.size ≤ 2 ^ 48), Te 8 [.agg (c.enc false), .one (iT kind), .one (sT key), .one (sT text)] ⟨[.agg ((askFor c kind key text).1.enc true), .agg (askFor c kind key text).2.1.row, .one (bT (askFor c kind key text).2.2)], [c.enc false, [iT kind], [sT key], [sT text]]⟩
theorem r_s_AskFor {Te : Nat → List AV → Res → Prop} (c_s_l20Copy : C_s_l20Copy Te) (c_s_NodeOf : C_s_NodeOf Te) (c_s_ClientOk : C_s_ClientOk Te) (c_s_l20Kind : C_s_l20Kind Te) (c_s_MsgOk : C_s_MsgOk Te) : ∀ (c : ClientV) (kind : Int) (key text : ByteArray) (h : c.In (2 ^ 31)) (hk : key.size ≤ 2 ^ 48), RunFn Te x_s_AskFor [.agg (c.enc false), .one (iT kind), .one (sT key), .one (sT text)] ⟨[.agg ((askFor c kind key text).1.enc true), .agg (askFor c kind key text).2.1.row, .one (bT (askFor c kind key text).2.2)], [c.enc false, [iT kind], [sT key], [sT text]]⟩ := by
  intro c kind key text h hk
  refine ⟨by simp -implicitDefEqProofs (maxSteps := 1000000) only [x_s_AskFor, go_sem], ?_⟩
  have hl : c.Len := h.len (by decide)
  cases g0 : (kind == 3)
  · have em : askMsg c kind key text = ⟨kind, c.Id, nodeOf key, IntKind.i64.wrap (c.Seq + 1), key, ⟨#[]⟩, 0, 0⟩ := by simp only [askMsg]; rw [if_neg (by simpa using g0)]
    simp -implicitDefEqProofs (maxSteps := 1000000) only [x_s_AskFor, go_sem, true_implies, false_implies, bne, g0]
    repeat (first | refine ⟨rfl, ?_⟩ | refine ⟨by decide, ?_⟩ | refine ⟨⟨by decide, by decide⟩, ?_⟩ | refine ⟨decide_eq_true (by omega), ?_⟩ | refine ⟨⟨decide_eq_true (by omega), decide_eq_true (by omega)⟩, ?_⟩)
    try (first | done | decide | exact decide_eq_true (by omega) | exact ⟨decide_eq_true (by omega), decide_eq_true (by omega)⟩)
    refine .of (c_s_l20Copy _ hl) ?_
    try simp -implicitDefEqProofs (maxSteps := 1000000) only [go_sem, true_implies, false_implies, bne, g0]
    repeat (first | refine ⟨rfl, ?_⟩ | refine ⟨by decide, ?_⟩ | refine ⟨⟨by decide, by decide⟩, ?_⟩ | refine ⟨decide_eq_true (by omega), ?_⟩ | refine ⟨⟨decide_eq_true (by omega), decide_eq_true (by omega)⟩, ?_⟩)
    try (first | done | decide | exact decide_eq_true (by omega) | exact ⟨decide_eq_true (by omega), decide_eq_true (by omega)⟩)
    refine .of (c_s_NodeOf key hk) ?_
    try simp -implicitDefEqProofs (maxSteps := 1000000) only [go_sem, true_implies, false_implies, bne, g0]
    repeat (first | refine ⟨rfl, ?_⟩ | refine ⟨by decide, ?_⟩ | refine ⟨⟨by decide, by decide⟩, ?_⟩ | refine ⟨decide_eq_true (by omega), ?_⟩ | refine ⟨⟨decide_eq_true (by omega), decide_eq_true (by omega)⟩, ?_⟩)
    try (first | done | decide | exact decide_eq_true (by omega) | exact ⟨decide_eq_true (by omega), decide_eq_true (by omega)⟩)
    refine .of (c_s_ClientOk _ h) ?_
    cases g1 : c.ok
    · have e := askFor_no (c := c) (kind := kind) (key := key) (text := text) (by simp only [askMay, g1, Bool.not_true, Bool.not_false, Bool.false_and, Bool.and_false])
      try simp -implicitDefEqProofs (maxSteps := 1000000) only [go_sem, true_implies, false_implies, e]
      repeat (first | refine ⟨rfl, ?_⟩ | refine ⟨by decide, ?_⟩ | refine ⟨⟨by decide, by decide⟩, ?_⟩ | refine ⟨decide_eq_true (by omega), ?_⟩ | refine ⟨⟨decide_eq_true (by omega), decide_eq_true (by omega)⟩, ?_⟩)
      try (first | done | decide | exact decide_eq_true (by omega) | exact ⟨decide_eq_true (by omega), decide_eq_true (by omega)⟩)
      all_goals first | rfl | (simp only [ClientV.enc, g2]; done) | (simp only [ClientV.enc, g2]; rfl)
    have hd := ok_dones g1
    cases g2 : c.Busy
    rotate_left
    · have e := askFor_no (c := c) (kind := kind) (key := key) (text := text) (by simp only [askMay, g2, Bool.not_true, Bool.not_false, Bool.false_and, Bool.and_false])
      try simp -implicitDefEqProofs (maxSteps := 1000000) only [go_sem, true_implies, false_implies, e, g2]
      repeat (first | refine ⟨rfl, ?_⟩ | refine ⟨by decide, ?_⟩ | refine ⟨⟨by decide, by decide⟩, ?_⟩ | refine ⟨decide_eq_true (by omega), ?_⟩ | refine ⟨⟨decide_eq_true (by omega), decide_eq_true (by omega)⟩, ?_⟩)
      try (first | done | decide | exact decide_eq_true (by omega) | exact ⟨decide_eq_true (by omega), decide_eq_true (by omega)⟩)
      all_goals first | rfl | (simp only [ClientV.enc, g2]; done) | (simp only [ClientV.enc, g2]; rfl)
    cases g3 : (decide ((c.Dones.length : Int) ≥ 60))
    rotate_left
    · have e := askFor_no (c := c) (kind := kind) (key := key) (text := text) (by simp only [askMay, g3, Bool.not_true, Bool.not_false, Bool.false_and, Bool.and_false])
      try simp -implicitDefEqProofs (maxSteps := 1000000) only [go_sem, true_implies, false_implies, e, g2, g3]
      repeat (first | refine ⟨rfl, ?_⟩ | refine ⟨by decide, ?_⟩ | refine ⟨⟨by decide, by decide⟩, ?_⟩ | refine ⟨decide_eq_true (by omega), ?_⟩ | refine ⟨⟨decide_eq_true (by omega), decide_eq_true (by omega)⟩, ?_⟩)
      try (first | done | decide | exact decide_eq_true (by omega) | exact ⟨decide_eq_true (by omega), decide_eq_true (by omega)⟩)
      all_goals first | rfl | (simp only [ClientV.enc, g2]; done) | (simp only [ClientV.enc, g2]; rfl)
    cases g4 : (decide (c.Seq ≥ 60000))
    rotate_left
    · have e := askFor_no (c := c) (kind := kind) (key := key) (text := text) (by simp only [askMay, g4, Bool.not_true, Bool.not_false, Bool.false_and, Bool.and_false])
      try simp -implicitDefEqProofs (maxSteps := 1000000) only [go_sem, true_implies, false_implies, e, g2, g3, g4]
      repeat (first | refine ⟨rfl, ?_⟩ | refine ⟨by decide, ?_⟩ | refine ⟨⟨by decide, by decide⟩, ?_⟩ | refine ⟨decide_eq_true (by omega), ?_⟩ | refine ⟨⟨decide_eq_true (by omega), decide_eq_true (by omega)⟩, ?_⟩)
      try (first | done | decide | exact decide_eq_true (by omega) | exact ⟨decide_eq_true (by omega), decide_eq_true (by omega)⟩)
      all_goals first | rfl | (simp only [ClientV.enc, g2]; done) | (simp only [ClientV.enc, g2]; rfl)
    try simp -implicitDefEqProofs (maxSteps := 1000000) only [go_sem, true_implies, false_implies, g2, g3, g4]
    repeat (first | refine ⟨rfl, ?_⟩ | refine ⟨by decide, ?_⟩ | refine ⟨⟨by decide, by decide⟩, ?_⟩ | refine ⟨decide_eq_true (by omega), ?_⟩ | refine ⟨⟨decide_eq_true (by omega), decide_eq_true (by omega)⟩, ?_⟩)
    try (first | done | decide | exact decide_eq_true (by omega) | exact ⟨decide_eq_true (by omega), decide_eq_true (by omega)⟩)
    refine .of (c_s_l20Kind _) ?_
    cases g5 : asked1 kind
    · have e := askFor_no (c := c) (kind := kind) (key := key) (text := text) (by simp only [askMay, g5, Bool.not_true, Bool.not_false, Bool.false_and, Bool.and_false])
      try simp -implicitDefEqProofs (maxSteps := 1000000) only [go_sem, true_implies, false_implies, e]
      repeat (first | refine ⟨rfl, ?_⟩ | refine ⟨by decide, ?_⟩ | refine ⟨⟨by decide, by decide⟩, ?_⟩ | refine ⟨decide_eq_true (by omega), ?_⟩ | refine ⟨⟨decide_eq_true (by omega), decide_eq_true (by omega)⟩, ?_⟩)
      try (first | done | decide | exact decide_eq_true (by omega) | exact ⟨decide_eq_true (by omega), decide_eq_true (by omega)⟩)
      all_goals first | rfl | (simp only [ClientV.enc, g2]; done) | (simp only [ClientV.enc, g2]; rfl)
    try simp -implicitDefEqProofs (maxSteps := 1000000) only [go_sem, true_implies, false_implies]
    repeat (first | refine ⟨rfl, ?_⟩ | refine ⟨by decide, ?_⟩ | refine ⟨⟨by decide, by decide⟩, ?_⟩ | refine ⟨decide_eq_true (by omega), ?_⟩ | refine ⟨⟨decide_eq_true (by omega), decide_eq_true (by omega)⟩, ?_⟩)
    try (first | done | decide | exact decide_eq_true (by omega) | exact ⟨decide_eq_true (by omega), decide_eq_true (by omega)⟩)
    refine .of (c_s_MsgOk ⟨kind, c.Id, nodeOf key, IntKind.i64.wrap (c.Seq + 1), key, ⟨#[]⟩, 0, 0⟩) ?_
    rw [← em]
    cases g6 : (askMsg c kind key text).ok
    · have e := askFor_no (c := c) (kind := kind) (key := key) (text := text) (by simp only [askMay, g6, Bool.not_true, Bool.not_false, Bool.false_and, Bool.and_false])
      try simp -implicitDefEqProofs (maxSteps := 1000000) only [go_sem, true_implies, false_implies, e]
      repeat (first | refine ⟨rfl, ?_⟩ | refine ⟨by decide, ?_⟩ | refine ⟨⟨by decide, by decide⟩, ?_⟩ | refine ⟨decide_eq_true (by omega), ?_⟩ | refine ⟨⟨decide_eq_true (by omega), decide_eq_true (by omega)⟩, ?_⟩)
      try (first | done | decide | exact decide_eq_true (by omega) | exact ⟨decide_eq_true (by omega), decide_eq_true (by omega)⟩)
      all_goals first | rfl | (simp only [ClientV.enc, g2]; done) | (simp only [ClientV.enc, g2]; rfl)
    · have e := askFor_yes (c := c) (kind := kind) (key := key) (text := text) (by simp only [askMay, g1, g2, g3, g4, g5, g6, Bool.not_true, Bool.not_false, Bool.and_true])
      try simp -implicitDefEqProofs (maxSteps := 1000000) only [go_sem, true_implies, false_implies, e, em]
      repeat (first | refine ⟨rfl, ?_⟩ | refine ⟨by decide, ?_⟩ | refine ⟨⟨by decide, by decide⟩, ?_⟩ | refine ⟨decide_eq_true (by omega), ?_⟩ | refine ⟨⟨decide_eq_true (by omega), decide_eq_true (by omega)⟩, ?_⟩)
      try (first | done | decide | exact decide_eq_true (by omega) | exact ⟨decide_eq_true (by omega), decide_eq_true (by omega)⟩)
      all_goals first | rfl | (simp only [ClientV.enc, g2]; done) | (simp only [ClientV.enc, g2]; rfl)
  · have em : askMsg c kind key text = ⟨kind, c.Id, nodeOf key, IntKind.i64.wrap (c.Seq + 1), key, text, 0, 0⟩ := by simp only [askMsg]; rw [if_pos (by simpa using g0)]
    simp -implicitDefEqProofs (maxSteps := 1000000) only [x_s_AskFor, go_sem, true_implies, false_implies, bne, g0]
    repeat (first | refine ⟨rfl, ?_⟩ | refine ⟨by decide, ?_⟩ | refine ⟨⟨by decide, by decide⟩, ?_⟩ | refine ⟨decide_eq_true (by omega), ?_⟩ | refine ⟨⟨decide_eq_true (by omega), decide_eq_true (by omega)⟩, ?_⟩)
    try (first | done | decide | exact decide_eq_true (by omega) | exact ⟨decide_eq_true (by omega), decide_eq_true (by omega)⟩)
    refine .of (c_s_l20Copy _ hl) ?_
    try simp -implicitDefEqProofs (maxSteps := 1000000) only [go_sem, true_implies, false_implies, bne, g0]
    repeat (first | refine ⟨rfl, ?_⟩ | refine ⟨by decide, ?_⟩ | refine ⟨⟨by decide, by decide⟩, ?_⟩ | refine ⟨decide_eq_true (by omega), ?_⟩ | refine ⟨⟨decide_eq_true (by omega), decide_eq_true (by omega)⟩, ?_⟩)
    try (first | done | decide | exact decide_eq_true (by omega) | exact ⟨decide_eq_true (by omega), decide_eq_true (by omega)⟩)
    refine .of (c_s_NodeOf key hk) ?_
    try simp -implicitDefEqProofs (maxSteps := 1000000) only [go_sem, true_implies, false_implies, bne, g0]
    repeat (first | refine ⟨rfl, ?_⟩ | refine ⟨by decide, ?_⟩ | refine ⟨⟨by decide, by decide⟩, ?_⟩ | refine ⟨decide_eq_true (by omega), ?_⟩ | refine ⟨⟨decide_eq_true (by omega), decide_eq_true (by omega)⟩, ?_⟩)
    try (first | done | decide | exact decide_eq_true (by omega) | exact ⟨decide_eq_true (by omega), decide_eq_true (by omega)⟩)
    refine .of (c_s_ClientOk _ h) ?_
    cases g1 : c.ok
    · have e := askFor_no (c := c) (kind := kind) (key := key) (text := text) (by simp only [askMay, g1, Bool.not_true, Bool.not_false, Bool.false_and, Bool.and_false])
      try simp -implicitDefEqProofs (maxSteps := 1000000) only [go_sem, true_implies, false_implies, e]
      repeat (first | refine ⟨rfl, ?_⟩ | refine ⟨by decide, ?_⟩ | refine ⟨⟨by decide, by decide⟩, ?_⟩ | refine ⟨decide_eq_true (by omega), ?_⟩ | refine ⟨⟨decide_eq_true (by omega), decide_eq_true (by omega)⟩, ?_⟩)
      try (first | done | decide | exact decide_eq_true (by omega) | exact ⟨decide_eq_true (by omega), decide_eq_true (by omega)⟩)
      all_goals first | rfl | (simp only [ClientV.enc, g2]; done) | (simp only [ClientV.enc, g2]; rfl)
    have hd := ok_dones g1
    cases g2 : c.Busy
    rotate_left
    · have e := askFor_no (c := c) (kind := kind) (key := key) (text := text) (by simp only [askMay, g2, Bool.not_true, Bool.not_false, Bool.false_and, Bool.and_false])
      try simp -implicitDefEqProofs (maxSteps := 1000000) only [go_sem, true_implies, false_implies, e, g2]
      repeat (first | refine ⟨rfl, ?_⟩ | refine ⟨by decide, ?_⟩ | refine ⟨⟨by decide, by decide⟩, ?_⟩ | refine ⟨decide_eq_true (by omega), ?_⟩ | refine ⟨⟨decide_eq_true (by omega), decide_eq_true (by omega)⟩, ?_⟩)
      try (first | done | decide | exact decide_eq_true (by omega) | exact ⟨decide_eq_true (by omega), decide_eq_true (by omega)⟩)
      all_goals first | rfl | (simp only [ClientV.enc, g2]; done) | (simp only [ClientV.enc, g2]; rfl)
    cases g3 : (decide ((c.Dones.length : Int) ≥ 60))
    rotate_left
    · have e := askFor_no (c := c) (kind := kind) (key := key) (text := text) (by simp only [askMay, g3, Bool.not_true, Bool.not_false, Bool.false_and, Bool.and_false])
      try simp -implicitDefEqProofs (maxSteps := 1000000) only [go_sem, true_implies, false_implies, e, g2, g3]
      repeat (first | refine ⟨rfl, ?_⟩ | refine ⟨by decide, ?_⟩ | refine ⟨⟨by decide, by decide⟩, ?_⟩ | refine ⟨decide_eq_true (by omega), ?_⟩ | refine ⟨⟨decide_eq_true (by omega), decide_eq_true (by omega)⟩, ?_⟩)
      try (first | done | decide | exact decide_eq_true (by omega) | exact ⟨decide_eq_true (by omega), decide_eq_true (by omega)⟩)
      all_goals first | rfl | (simp only [ClientV.enc, g2]; done) | (simp only [ClientV.enc, g2]; rfl)
    cases g4 : (decide (c.Seq ≥ 60000))
    rotate_left
    · have e := askFor_no (c := c) (kind := kind) (key := key) (text := text) (by simp only [askMay, g4, Bool.not_true, Bool.not_false, Bool.false_and, Bool.and_false])
      try simp -implicitDefEqProofs (maxSteps := 1000000) only [go_sem, true_implies, false_implies, e, g2, g3, g4]
      repeat (first | refine ⟨rfl, ?_⟩ | refine ⟨by decide, ?_⟩ | refine ⟨⟨by decide, by decide⟩, ?_⟩ | refine ⟨decide_eq_true (by omega), ?_⟩ | refine ⟨⟨decide_eq_true (by omega), decide_eq_true (by omega)⟩, ?_⟩)
      try (first | done | decide | exact decide_eq_true (by omega) | exact ⟨decide_eq_true (by omega), decide_eq_true (by omega)⟩)
      all_goals first | rfl | (simp only [ClientV.enc, g2]; done) | (simp only [ClientV.enc, g2]; rfl)
    try simp -implicitDefEqProofs (maxSteps := 1000000) only [go_sem, true_implies, false_implies, g2, g3, g4]
    repeat (first | refine ⟨rfl, ?_⟩ | refine ⟨by decide, ?_⟩ | refine ⟨⟨by decide, by decide⟩, ?_⟩ | refine ⟨decide_eq_true (by omega), ?_⟩ | refine ⟨⟨decide_eq_true (by omega), decide_eq_true (by omega)⟩, ?_⟩)
    try (first | done | decide | exact decide_eq_true (by omega) | exact ⟨decide_eq_true (by omega), decide_eq_true (by omega)⟩)
    refine .of (c_s_l20Kind _) ?_
    cases g5 : asked1 kind
    · have e := askFor_no (c := c) (kind := kind) (key := key) (text := text) (by simp only [askMay, g5, Bool.not_true, Bool.not_false, Bool.false_and, Bool.and_false])
      try simp -implicitDefEqProofs (maxSteps := 1000000) only [go_sem, true_implies, false_implies, e]
      repeat (first | refine ⟨rfl, ?_⟩ | refine ⟨by decide, ?_⟩ | refine ⟨⟨by decide, by decide⟩, ?_⟩ | refine ⟨decide_eq_true (by omega), ?_⟩ | refine ⟨⟨decide_eq_true (by omega), decide_eq_true (by omega)⟩, ?_⟩)
      try (first | done | decide | exact decide_eq_true (by omega) | exact ⟨decide_eq_true (by omega), decide_eq_true (by omega)⟩)
      all_goals first | rfl | (simp only [ClientV.enc, g2]; done) | (simp only [ClientV.enc, g2]; rfl)
    try simp -implicitDefEqProofs (maxSteps := 1000000) only [go_sem, true_implies, false_implies]
    repeat (first | refine ⟨rfl, ?_⟩ | refine ⟨by decide, ?_⟩ | refine ⟨⟨by decide, by decide⟩, ?_⟩ | refine ⟨decide_eq_true (by omega), ?_⟩ | refine ⟨⟨decide_eq_true (by omega), decide_eq_true (by omega)⟩, ?_⟩)
    try (first | done | decide | exact decide_eq_true (by omega) | exact ⟨decide_eq_true (by omega), decide_eq_true (by omega)⟩)
    refine .of (c_s_MsgOk ⟨kind, c.Id, nodeOf key, IntKind.i64.wrap (c.Seq + 1), key, text, 0, 0⟩) ?_
    rw [← em]
    cases g6 : (askMsg c kind key text).ok
    · have e := askFor_no (c := c) (kind := kind) (key := key) (text := text) (by simp only [askMay, g6, Bool.not_true, Bool.not_false, Bool.false_and, Bool.and_false])
      try simp -implicitDefEqProofs (maxSteps := 1000000) only [go_sem, true_implies, false_implies, e]
      repeat (first | refine ⟨rfl, ?_⟩ | refine ⟨by decide, ?_⟩ | refine ⟨⟨by decide, by decide⟩, ?_⟩ | refine ⟨decide_eq_true (by omega), ?_⟩ | refine ⟨⟨decide_eq_true (by omega), decide_eq_true (by omega)⟩, ?_⟩)
      try (first | done | decide | exact decide_eq_true (by omega) | exact ⟨decide_eq_true (by omega), decide_eq_true (by omega)⟩)
      all_goals first | rfl | (simp only [ClientV.enc, g2]; done) | (simp only [ClientV.enc, g2]; rfl)
    · have e := askFor_yes (c := c) (kind := kind) (key := key) (text := text) (by simp only [askMay, g1, g2, g3, g4, g5, g6, Bool.not_true, Bool.not_false, Bool.and_true])
      try simp -implicitDefEqProofs (maxSteps := 1000000) only [go_sem, true_implies, false_implies, e, em]
      repeat (first | refine ⟨rfl, ?_⟩ | refine ⟨by decide, ?_⟩ | refine ⟨⟨by decide, by decide⟩, ?_⟩ | refine ⟨decide_eq_true (by omega), ?_⟩ | refine ⟨⟨decide_eq_true (by omega), decide_eq_true (by omega)⟩, ?_⟩)
      try (first | done | decide | exact decide_eq_true (by omega) | exact ⟨decide_eq_true (by omega), decide_eq_true (by omega)⟩)
      all_goals first | rfl | (simp only [ClientV.enc, g2]; done) | (simp only [ClientV.enc, g2]; rfl)
end Go.X

/- O -/
namespace Go.X
set_option maxRecDepth 100000
set_option maxHeartbeats 8000000
def toldMay (c : ClientV) (m : Msg) : Bool := c.ok && c.Busy && m.ok && (m.From == c.M.To) && (m.To == c.Id) && (m.Seq == c.Seq) && (m.Kind == if c.M.Kind = 1 then 2 else 5)
def toldDone (c : ClientV) (m : Msg) : DoneV := ⟨c.Seq, c.M.Kind, c.M.Key, if c.M.Kind = 1 then m.Text else c.M.Text, m.Code⟩
def told (c : ClientV) (m : Msg) : ClientV × Bool := if toldMay c m = true then (⟨c.Id, c.Seq, false, ⟨0, 0, 0, 0, ⟨#[]⟩, ⟨#[]⟩, 0, 0⟩, if c.Dones.length < 60 then c.Dones ++ [toldDone c m] else c.Dones⟩, true) else (c, false)
theorem told_no {c : ClientV} {m : Msg} (h : toldMay c m = false) : told c m = (c, false) := by simp only [told, h]; rfl
theorem told_more {c : ClientV} {m : Msg} (h : toldMay c m = true) (hd : decide ((c.Dones.length : Int) < 60) = true) : told c m = (⟨c.Id, c.Seq, false, ⟨0, 0, 0, 0, ⟨#[]⟩, ⟨#[]⟩, 0, 0⟩, c.Dones ++ [toldDone c m]⟩, true) := by
  simp only [decide_eq_true_eq] at hd
  simp only [told, h, if_true]
  rw [if_pos (by omega)]
theorem told_full {c : ClientV} {m : Msg} (h : toldMay c m = true) (hd : decide ((c.Dones.length : Int) < 60) = false) : told c m = (⟨c.Id, c.Seq, false, ⟨0, 0, 0, 0, ⟨#[]⟩, ⟨#[]⟩, 0, 0⟩, c.Dones⟩, true) := by
  simp only [decide_eq_false_iff_not] at hd
  simp only [told, h, if_true]
  rw [if_neg (by omega)]
theorem told_len {c : ClientV} (m : Msg) {n : Nat} (h : c.Dones.length ≤ n) (hn : n < 2 ^ 31) : (told c m).1.Len := by
  show (told c m).1.Dones.length ≤ 2 ^ 31
  unfold told
  split
  · dsimp only
    split
    · simp only [List.length_append, List.length_cons, List.length_nil]; omega
    · omega
  · dsimp only; omega
def x_i_Told : FnX := ⟨94, [.cell 4 (some 12), .tmp 5],
  .seq (.reg [⟨none, some 2, 2, .box (.t 0)⟩,
   ⟨none, some 3, 3, .box (.t 1)⟩,
   ⟨none, some 4, 4, .alloc [.pv (.int .i64 0), .pv (.int .i64 0), .pv (.bool false), .pv (.int .i64 0), .pv (.int .i64 0), .pv (.int .i64 0), .pv (.int .i64 0), .pv (.string ⟨#[]⟩), .pv (.string ⟨#[]⟩), .pv (.int .i64 0), .pv (.int .i64 0), .nils 5]⟩,
   ⟨none, some 5, 5, .mv (.k (.one (.pv (.bool false))))⟩])
 (.seq (.reg [⟨none, some 9, 9, .load (some 12) (.t 2)⟩,
   ⟨none, some 10, 10, .call 51 [0] [(.t 9)]⟩,
   ⟨none, some 6, 6, .alloc [.pv (.int .i64 0), .pv (.int .i64 0), .pv (.bool false), .pv (.int .i64 0), .pv (.int .i64 0), .pv (.int .i64 0), .pv (.int .i64 0), .pv (.string ⟨#[]⟩), .pv (.string ⟨#[]⟩), .pv (.int .i64 0), .pv (.int .i64 0), .nils 5]⟩,
   ⟨none, none, 100001, .store 12 (.t 6) (.t 10)⟩])
 (.seq (.reg [⟨none, some 7, 7, .mv (.k (.one (.pv (.int .i64 5))))⟩])
 (.seq (.seq (.reg [⟨none, some 11, 11, .faddr (.t 2) 3⟩,
   ⟨none, some 12, 12, .faddr (.t 11) 0⟩,
   ⟨none, some 13, 13, .load none (.t 12)⟩,
   ⟨none, some 14, 14, .bin .eql (.t 13) (.k (.one (.pv (.int .i64 1))))⟩])
 (.cond 14 (.reg [⟨none, some 7, 7, .mv (.k (.one (.pv (.int .i64 2))))⟩]) (.skip)))
 (.seq (.seq (.reg [⟨none, some 15, 15, .load (some 12) (.t 2)⟩,
   ⟨none, some 16, 16, .call 18 [0] [(.t 15)]⟩,
   ⟨none, some 17, 17, .not (.t 16)⟩,
   ⟨none, some 18, 18, .mv (.t 17)⟩,
   ⟨(some (18, false)), some 19, 19, .faddr (.t 2) 2⟩,
   ⟨(some (18, false)), some 20, 20, .load none (.t 19)⟩,
   ⟨(some (18, false)), some 21, 21, .not (.t 20)⟩,
   ⟨none, some 22, 22, .pick (.t 18) (.k (.one (.pv (.bool true)))) (.t 21)⟩,
   ⟨none, some 23, 23, .mv (.t 22)⟩,
   ⟨(some (23, false)), some 24, 24, .load (some 8) (.t 3)⟩,
   ⟨(some (23, false)), some 25, 25, .call 50 [0] [(.t 24)]⟩,
   ⟨(some (23, false)), some 26, 26, .not (.t 25)⟩,
   ⟨none, some 27, 27, .pick (.t 23) (.k (.one (.pv (.bool true)))) (.t 26)⟩,
   ⟨none, some 28, 28, .mv (.t 27)⟩,
   ⟨(some (28, false)), some 29, 29, .faddr (.t 3) 1⟩,
   ⟨(some (28, false)), some 30, 30, .load none (.t 29)⟩,
   ⟨(some (28, false)), some 31, 31, .faddr (.t 2) 3⟩,
   ⟨(some (28, false)), some 32, 32, .faddr (.t 31) 2⟩,
   ⟨(some (28, false)), some 33, 33, .load none (.t 32)⟩,
   ⟨(some (28, false)), some 34, 34, .bin .neq (.t 30) (.t 33)⟩,
   ⟨none, some 35, 35, .pick (.t 28) (.k (.one (.pv (.bool true)))) (.t 34)⟩,
   ⟨none, some 36, 36, .mv (.t 35)⟩,
   ⟨(some (36, false)), some 37, 37, .faddr (.t 3) 2⟩,
   ⟨(some (36, false)), some 38, 38, .load none (.t 37)⟩,
   ⟨(some (36, false)), some 39, 39, .faddr (.t 2) 0⟩,
   ⟨(some (36, false)), some 40, 40, .load none (.t 39)⟩,
   ⟨(some (36, false)), some 41, 41, .bin .neq (.t 38) (.t 40)⟩,
   ⟨none, some 42, 42, .pick (.t 36) (.k (.one (.pv (.bool true)))) (.t 41)⟩,
   ⟨none, some 43, 43, .mv (.t 42)⟩,
   ⟨(some (43, false)), some 44, 44, .faddr (.t 3) 3⟩,
   ⟨(some (43, false)), some 45, 45, .load none (.t 44)⟩,
   ⟨(some (43, false)), some 46, 46, .faddr (.t 2) 3⟩,
   ⟨(some (43, false)), some 47, 47, .faddr (.t 46) 3⟩,
   ⟨(some (43, false)), some 48, 48, .load none (.t 47)⟩,
   ⟨(some (43, false)), some 49, 49, .bin .neq (.t 45) (.t 48)⟩,
   ⟨none, some 50, 50, .pick (.t 43) (.k (.one (.pv (.bool true)))) (.t 49)⟩,
   ⟨none, some 51, 51, .mv (.t 50)⟩,
   ⟨(some (51, false)), some 52, 52, .faddr (.t 3) 0⟩,
   ⟨(some (51, false)), some 53, 53, .load none (.t 52)⟩,
   ⟨(some (51, false)), some 54, 54, .mv (.t 7)⟩,
   ⟨(some (51, false)), some 55, 55, .bin .neq (.t 53) (.t 54)⟩,
   ⟨none, some 56, 56, .pick (.t 51) (.k (.one (.pv (.bool true)))) (.t 55)⟩])
 (.cond 56 (.seq (.reg [⟨none, some 57, 57, .load (some 12) (.t 6)⟩,
   ⟨none, none, 100002, .store 12 (.t 4) (.t 57)⟩,
   ⟨none, some 5, 5, .mv (.k (.one (.pv (.bool false))))⟩])
 (.ret)) (.skip)))
 (.seq (.reg [⟨none, some 58, 58, .faddr (.t 2) 3⟩,
   ⟨none, some 59, 59, .faddr (.t 58) 3⟩,
   ⟨none, some 60, 60, .load none (.t 59)⟩,
   ⟨none, some 61, 61, .faddr (.t 2) 3⟩,
   ⟨none, some 62, 62, .faddr (.t 61) 0⟩,
   ⟨none, some 63, 63, .load none (.t 62)⟩,
   ⟨none, some 64, 64, .faddr (.t 2) 3⟩,
   ⟨none, some 65, 65, .faddr (.t 64) 4⟩,
   ⟨none, some 66, 66, .load none (.t 65)⟩,
   ⟨none, some 67, 67, .faddr (.t 2) 3⟩,
   ⟨none, some 68, 68, .faddr (.t 67) 5⟩,
   ⟨none, some 69, 69, .load none (.t 68)⟩,
   ⟨none, some 70, 70, .faddr (.t 3) 7⟩,
   ⟨none, some 71, 71, .load none (.t 70)⟩,
   ⟨none, some 72, 72, .build [.pv (.int .i64 0), .pv (.int .i64 0), .pv (.string ⟨#[]⟩), .pv (.string ⟨#[]⟩), .pv (.int .i64 0)] [(0, 1, (.t 60)), (1, 1, (.t 63)), (2, 1, (.t 66)), (3, 1, (.t 69)), (4, 1, (.t 71))]⟩,
   ⟨none, some 8, 8, .alloc [.pv (.int .i64 0), .pv (.int .i64 0), .pv (.string ⟨#[]⟩), .pv (.string ⟨#[]⟩), .pv (.int .i64 0)]⟩,
   ⟨none, none, 100003, .store 5 (.t 8) (.t 72)⟩])
 (.seq (.seq (.reg [⟨none, some 73, 73, .faddr (.t 2) 3⟩,
   ⟨none, some 74, 74, .faddr (.t 73) 0⟩,
   ⟨none, some 75, 75, .load none (.t 74)⟩,
   ⟨none, some 76, 76, .bin .eql (.t 75) (.k (.one (.pv (.int .i64 1))))⟩])
 (.cond 76 (.reg [⟨none, some 77, 77, .faddr (.t 3) 5⟩,
   ⟨none, some 78, 78, .load none (.t 77)⟩,
   ⟨none, some 79, 79, .faddr (.t 8) 3⟩,
   ⟨none, none, 100004, .store 1 (.t 79) (.t 78)⟩]) (.skip)))
 (.seq (.seq (.reg [⟨none, some 80, 80, .faddr (.t 6) 11⟩,
   ⟨none, some 81, 81, .load none (.t 80)⟩,
   ⟨none, some 82, 82, .len (.t 81)⟩,
   ⟨none, some 83, 83, .bin .lss (.t 82) (.k (.one (.pv (.int .i64 60))))⟩])
 (.cond 83 (.reg [⟨none, some 84, 84, .faddr (.t 6) 11⟩,
   ⟨none, some 85, 85, .load none (.t 84)⟩,
   ⟨none, some 86, 86, .load (some 5) (.t 8)⟩,
   ⟨none, some 87, 87, .bslice 5 [(.t 86)]⟩,
   ⟨none, some 88, 88, .app 5 56 (.t 85) (.t 87)⟩,
   ⟨none, some 89, 89, .faddr (.t 6) 11⟩,
   ⟨none, none, 100005, .store 1 (.t 89) (.t 88)⟩]) (.skip)))
 (.seq (.reg [⟨none, some 90, 90, .build [.pv (.int .i64 0), .pv (.int .i64 0), .pv (.int .i64 0), .pv (.int .i64 0), .pv (.string ⟨#[]⟩), .pv (.string ⟨#[]⟩), .pv (.int .i64 0), .pv (.int .i64 0)] []⟩,
   ⟨none, some 91, 91, .faddr (.t 6) 2⟩,
   ⟨none, none, 100006, .store 1 (.t 91) (.k (.one (.pv (.bool false))))⟩,
   ⟨none, some 92, 92, .faddr (.t 6) 3⟩,
   ⟨none, none, 100007, .store 8 (.t 92) (.t 90)⟩])
 (.seq (.reg [⟨none, some 93, 93, .load (some 12) (.t 6)⟩,
   ⟨none, none, 100008, .store 12 (.t 4) (.t 93)⟩,
   ⟨none, some 5, 5, .mv (.k (.one (.pv (.bool true))))⟩])
 (.ret))))))))))⟩
abbrev C_i_Told (Te : Nat → List AV → Res → Prop) : Prop := ∀ (c : ClientV) (m : Msg) (h : c.In (2 ^ 30)), Te 13 [.agg (c.enc false), .agg m.row] ⟨[.agg ((told c m).1.enc true), .one (bT (told c m).2)], [c.enc false, m.row]⟩
theorem r_i_Told {Te : Nat → List AV → Res → Prop} (c_i_copyClient : C_i_copyClient Te) (c_i_ClientOk : C_i_ClientOk Te) (c_i_MsgOk : C_i_MsgOk Te) : ∀ (c : ClientV) (m : Msg) (h : c.In (2 ^ 30)), RunFn Te x_i_Told [.agg (c.enc false), .agg m.row] ⟨[.agg ((told c m).1.enc true), .one (bT (told c m).2)], [c.enc false, m.row]⟩ := by
  intro c m h
  refine ⟨by simp -implicitDefEqProofs (maxSteps := 1000000) only [x_i_Told, go_sem], ?_⟩
  have hl : c.Len := h.len (by decide)
  have hl' : c.Dones.length ≤ 2 ^ 30 := h.2.1
  have h' := h.mono (show 2 ^ 30 ≤ 2 ^ 31 by decide)
  cases g0 : (c.M.Kind == 1)
  · have ek : (if c.M.Kind = 1 then (2 : Int) else 5) = 5 := by rw [if_neg (by simpa using g0)]
    have ed : toldDone c m = ⟨c.Seq, c.M.Kind, c.M.Key, c.M.Text, m.Code⟩ := by simp only [toldDone]; rw [if_neg (by simpa using g0)]
    simp -implicitDefEqProofs (maxSteps := 1000000) only [x_i_Told, go_sem, true_implies, false_implies, bne, g0]
    repeat (first | refine ⟨rfl, ?_⟩ | refine ⟨by decide, ?_⟩ | refine ⟨⟨by decide, by decide⟩, ?_⟩ | refine ⟨decide_eq_true (by omega), ?_⟩ | refine ⟨⟨decide_eq_true (by omega), decide_eq_true (by omega)⟩, ?_⟩)
    try (first | done | decide | exact decide_eq_true (by omega) | exact ⟨decide_eq_true (by omega), decide_eq_true (by omega)⟩)
    refine .of (c_i_copyClient _ hl) ?_
    try simp -implicitDefEqProofs (maxSteps := 1000000) only [go_sem, true_implies, false_implies, bne, g0]
    repeat (first | refine ⟨rfl, ?_⟩ | refine ⟨by decide, ?_⟩ | refine ⟨⟨by decide, by decide⟩, ?_⟩ | refine ⟨decide_eq_true (by omega), ?_⟩ | refine ⟨⟨decide_eq_true (by omega), decide_eq_true (by omega)⟩, ?_⟩)
    try (first | done | decide | exact decide_eq_true (by omega) | exact ⟨decide_eq_true (by omega), decide_eq_true (by omega)⟩)
    refine .of (c_i_ClientOk _ h') ?_
    cases g1 : c.ok
    · have e := told_no (c := c) (m := m) (by simp only [toldMay, g1, ek, Bool.false_and, Bool.and_false])
      try simp -implicitDefEqProofs (maxSteps := 1000000) only [go_sem, true_implies, false_implies, bne, e]
      repeat (first | refine ⟨rfl, ?_⟩ | refine ⟨by decide, ?_⟩ | refine ⟨⟨by decide, by decide⟩, ?_⟩ | refine ⟨decide_eq_true (by omega), ?_⟩ | refine ⟨⟨decide_eq_true (by omega), decide_eq_true (by omega)⟩, ?_⟩)
      try (first | done | decide | exact decide_eq_true (by omega) | exact ⟨decide_eq_true (by omega), decide_eq_true (by omega)⟩)
    cases g2 : c.Busy
    · have e := told_no (c := c) (m := m) (by simp only [toldMay, g2, ek, Bool.false_and, Bool.and_false])
      try simp -implicitDefEqProofs (maxSteps := 1000000) only [go_sem, true_implies, false_implies, bne, e, g2]
      repeat (first | refine ⟨rfl, ?_⟩ | refine ⟨by decide, ?_⟩ | refine ⟨⟨by decide, by decide⟩, ?_⟩ | refine ⟨decide_eq_true (by omega), ?_⟩ | refine ⟨⟨decide_eq_true (by omega), decide_eq_true (by omega)⟩, ?_⟩)
      try (first | done | decide | exact decide_eq_true (by omega) | exact ⟨decide_eq_true (by omega), decide_eq_true (by omega)⟩)
      all_goals first | rfl | (simp only [ClientV.enc, g2]; done) | (simp only [ClientV.enc, g2]; rfl) | (simp only [ClientV.enc, g2, es]; done) | (simp only [ClientV.enc, g2, es]; rfl)
    try simp -implicitDefEqProofs (maxSteps := 1000000) only [go_sem, true_implies, false_implies, bne, g2]
    repeat (first | refine ⟨rfl, ?_⟩ | refine ⟨by decide, ?_⟩ | refine ⟨⟨by decide, by decide⟩, ?_⟩ | refine ⟨decide_eq_true (by omega), ?_⟩ | refine ⟨⟨decide_eq_true (by omega), decide_eq_true (by omega)⟩, ?_⟩)
    try (first | done | decide | exact decide_eq_true (by omega) | exact ⟨decide_eq_true (by omega), decide_eq_true (by omega)⟩)
    refine .of (c_i_MsgOk m) ?_
    cases g3 : m.ok
    · have e := told_no (c := c) (m := m) (by simp only [toldMay, g3, ek, Bool.false_and, Bool.and_false])
      try simp -implicitDefEqProofs (maxSteps := 1000000) only [go_sem, true_implies, false_implies, bne, e, g2]
      repeat (first | refine ⟨rfl, ?_⟩ | refine ⟨by decide, ?_⟩ | refine ⟨⟨by decide, by decide⟩, ?_⟩ | refine ⟨decide_eq_true (by omega), ?_⟩ | refine ⟨⟨decide_eq_true (by omega), decide_eq_true (by omega)⟩, ?_⟩)
      try (first | done | decide | exact decide_eq_true (by omega) | exact ⟨decide_eq_true (by omega), decide_eq_true (by omega)⟩)
      all_goals first | rfl | (simp only [ClientV.enc, g2]; done) | (simp only [ClientV.enc, g2]; rfl) | (simp only [ClientV.enc, g2, es]; done) | (simp only [ClientV.enc, g2, es]; rfl)
    try simp -implicitDefEqProofs (maxSteps := 1000000) only [go_sem, true_implies, false_implies, bne, g2]
    repeat (first | refine ⟨rfl, ?_⟩ | refine ⟨by decide, ?_⟩ | refine ⟨⟨by decide, by decide⟩, ?_⟩ | refine ⟨decide_eq_true (by omega), ?_⟩ | refine ⟨⟨decide_eq_true (by omega), decide_eq_true (by omega)⟩, ?_⟩)
    try (first | done | decide | exact decide_eq_true (by omega) | exact ⟨decide_eq_true (by omega), decide_eq_true (by omega)⟩)
    have es := ok_seq g1 g2
    cases g4 : (m.From == c.M.To)
    · have e := told_no (c := c) (m := m) (by simp only [toldMay, g4, ek, Bool.false_and, Bool.and_false])
      try simp -implicitDefEqProofs (maxSteps := 1000000) only [go_sem, true_implies, false_implies, bne, e, g2, g4]
      repeat (first | refine ⟨rfl, ?_⟩ | refine ⟨by decide, ?_⟩ | refine ⟨⟨by decide, by decide⟩, ?_⟩ | refine ⟨decide_eq_true (by omega), ?_⟩ | refine ⟨⟨decide_eq_true (by omega), decide_eq_true (by omega)⟩, ?_⟩)
      try (first | done | decide | exact decide_eq_true (by omega) | exact ⟨decide_eq_true (by omega), decide_eq_true (by omega)⟩)
      all_goals first | rfl | (simp only [ClientV.enc, g2]; done) | (simp only [ClientV.enc, g2]; rfl) | (simp only [ClientV.enc, g2, es]; done) | (simp only [ClientV.enc, g2, es]; rfl)
    cases g5 : (m.To == c.Id)
    · have e := told_no (c := c) (m := m) (by simp only [toldMay, g5, ek, Bool.false_and, Bool.and_false])
      try simp -implicitDefEqProofs (maxSteps := 1000000) only [go_sem, true_implies, false_implies, bne, e, g2, g4, g5]
      repeat (first | refine ⟨rfl, ?_⟩ | refine ⟨by decide, ?_⟩ | refine ⟨⟨by decide, by decide⟩, ?_⟩ | refine ⟨decide_eq_true (by omega), ?_⟩ | refine ⟨⟨decide_eq_true (by omega), decide_eq_true (by omega)⟩, ?_⟩)
      try (first | done | decide | exact decide_eq_true (by omega) | exact ⟨decide_eq_true (by omega), decide_eq_true (by omega)⟩)
      all_goals first | rfl | (simp only [ClientV.enc, g2]; done) | (simp only [ClientV.enc, g2]; rfl) | (simp only [ClientV.enc, g2, es]; done) | (simp only [ClientV.enc, g2, es]; rfl)
    cases g6 : (m.Seq == c.Seq)
    · have e := told_no (c := c) (m := m) (by simp only [toldMay, g6, ek, Bool.false_and, Bool.and_false])
      try simp -implicitDefEqProofs (maxSteps := 1000000) only [go_sem, true_implies, false_implies, bne, e, g2, g4, g5, es, g6]
      repeat (first | refine ⟨rfl, ?_⟩ | refine ⟨by decide, ?_⟩ | refine ⟨⟨by decide, by decide⟩, ?_⟩ | refine ⟨decide_eq_true (by omega), ?_⟩ | refine ⟨⟨decide_eq_true (by omega), decide_eq_true (by omega)⟩, ?_⟩)
      try (first | done | decide | exact decide_eq_true (by omega) | exact ⟨decide_eq_true (by omega), decide_eq_true (by omega)⟩)
      all_goals first | rfl | (simp only [ClientV.enc, g2]; done) | (simp only [ClientV.enc, g2]; rfl) | (simp only [ClientV.enc, g2, es]; done) | (simp only [ClientV.enc, g2, es]; rfl)
    cases g7 : (m.Kind == 5)
    · have e := told_no (c := c) (m := m) (by simp only [toldMay, g7, ek, Bool.false_and, Bool.and_false])
      try simp -implicitDefEqProofs (maxSteps := 1000000) only [go_sem, true_implies, false_implies, bne, e, g2, g4, g5, es, g6, g7]
      repeat (first | refine ⟨rfl, ?_⟩ | refine ⟨by decide, ?_⟩ | refine ⟨⟨by decide, by decide⟩, ?_⟩ | refine ⟨decide_eq_true (by omega), ?_⟩ | refine ⟨⟨decide_eq_true (by omega), decide_eq_true (by omega)⟩, ?_⟩)
      try (first | done | decide | exact decide_eq_true (by omega) | exact ⟨decide_eq_true (by omega), decide_eq_true (by omega)⟩)
      all_goals first | rfl | (simp only [ClientV.enc, g2]; done) | (simp only [ClientV.enc, g2]; rfl) | (simp only [ClientV.enc, g2, es]; done) | (simp only [ClientV.enc, g2, es]; rfl)
    have hm : toldMay c m = true := by simp only [toldMay, g1, g2, g3, g4, g5, g6, g7, ek, Bool.and_true]
    cases g8 : decide ((c.Dones.length : Int) < 60)
    · have e := told_full hm g8
      try simp -implicitDefEqProofs (maxSteps := 1000000) only [go_sem, true_implies, false_implies, bne, e, g0, g2, g4, g5, es, g6, g7, g8]
      repeat (first | refine ⟨rfl, ?_⟩ | refine ⟨by decide, ?_⟩ | refine ⟨⟨by decide, by decide⟩, ?_⟩ | refine ⟨decide_eq_true (by omega), ?_⟩ | refine ⟨⟨decide_eq_true (by omega), decide_eq_true (by omega)⟩, ?_⟩)
      try (first | done | decide | exact decide_eq_true (by omega) | exact ⟨decide_eq_true (by omega), decide_eq_true (by omega)⟩)
      all_goals first | rfl | (simp only [ClientV.enc, g2]; done) | (simp only [ClientV.enc, g2]; rfl) | (simp only [ClientV.enc, g2, es]; done) | (simp only [ClientV.enc, g2, es]; rfl)
    · have e := told_more hm g8
      have h8 : c.Dones.length < 60 := by simp only [decide_eq_true_eq] at g8; omega
      have et : List.take (c.Dones.length + 1) (List.map DoneV.row c.Dones ++ [DoneV.row (toldDone c m)]) = List.map DoneV.row (c.Dones ++ [toldDone c m]) := by rw [List.take_of_length_le (by simp)]; simp
      rw [ed] at et
      simp only [DoneV.row] at et
      try simp -implicitDefEqProofs (maxSteps := 1000000) only [go_sem, true_implies, false_implies, bne, e, ed, g0, g2, g4, g5, es, g6, g7, g8]
      repeat (first | refine ⟨rfl, ?_⟩ | refine ⟨by decide, ?_⟩ | refine ⟨⟨by decide, by decide⟩, ?_⟩ | refine ⟨decide_eq_true (by omega), ?_⟩ | refine ⟨⟨decide_eq_true (by omega), decide_eq_true (by omega)⟩, ?_⟩)
      try (first | done | decide | exact decide_eq_true (by omega) | exact ⟨decide_eq_true (by omega), decide_eq_true (by omega)⟩)
      simp only [DoneV.row, ClientV.enc, et, g2, es]
  · have ek : (if c.M.Kind = 1 then (2 : Int) else 5) = 2 := by rw [if_pos (by simpa using g0)]
    have ed : toldDone c m = ⟨c.Seq, c.M.Kind, c.M.Key, m.Text, m.Code⟩ := by simp only [toldDone]; rw [if_pos (by simpa using g0)]
    simp -implicitDefEqProofs (maxSteps := 1000000) only [x_i_Told, go_sem, true_implies, false_implies, bne, g0]
    repeat (first | refine ⟨rfl, ?_⟩ | refine ⟨by decide, ?_⟩ | refine ⟨⟨by decide, by decide⟩, ?_⟩ | refine ⟨decide_eq_true (by omega), ?_⟩ | refine ⟨⟨decide_eq_true (by omega), decide_eq_true (by omega)⟩, ?_⟩)
    try (first | done | decide | exact decide_eq_true (by omega) | exact ⟨decide_eq_true (by omega), decide_eq_true (by omega)⟩)
    refine .of (c_i_copyClient _ hl) ?_
    try simp -implicitDefEqProofs (maxSteps := 1000000) only [go_sem, true_implies, false_implies, bne, g0]
    repeat (first | refine ⟨rfl, ?_⟩ | refine ⟨by decide, ?_⟩ | refine ⟨⟨by decide, by decide⟩, ?_⟩ | refine ⟨decide_eq_true (by omega), ?_⟩ | refine ⟨⟨decide_eq_true (by omega), decide_eq_true (by omega)⟩, ?_⟩)
    try (first | done | decide | exact decide_eq_true (by omega) | exact ⟨decide_eq_true (by omega), decide_eq_true (by omega)⟩)
    refine .of (c_i_ClientOk _ h') ?_
    cases g1 : c.ok
    · have e := told_no (c := c) (m := m) (by simp only [toldMay, g1, ek, Bool.false_and, Bool.and_false])
      try simp -implicitDefEqProofs (maxSteps := 1000000) only [go_sem, true_implies, false_implies, bne, e]
      repeat (first | refine ⟨rfl, ?_⟩ | refine ⟨by decide, ?_⟩ | refine ⟨⟨by decide, by decide⟩, ?_⟩ | refine ⟨decide_eq_true (by omega), ?_⟩ | refine ⟨⟨decide_eq_true (by omega), decide_eq_true (by omega)⟩, ?_⟩)
      try (first | done | decide | exact decide_eq_true (by omega) | exact ⟨decide_eq_true (by omega), decide_eq_true (by omega)⟩)
    cases g2 : c.Busy
    · have e := told_no (c := c) (m := m) (by simp only [toldMay, g2, ek, Bool.false_and, Bool.and_false])
      try simp -implicitDefEqProofs (maxSteps := 1000000) only [go_sem, true_implies, false_implies, bne, e, g2]
      repeat (first | refine ⟨rfl, ?_⟩ | refine ⟨by decide, ?_⟩ | refine ⟨⟨by decide, by decide⟩, ?_⟩ | refine ⟨decide_eq_true (by omega), ?_⟩ | refine ⟨⟨decide_eq_true (by omega), decide_eq_true (by omega)⟩, ?_⟩)
      try (first | done | decide | exact decide_eq_true (by omega) | exact ⟨decide_eq_true (by omega), decide_eq_true (by omega)⟩)
      all_goals first | rfl | (simp only [ClientV.enc, g2]; done) | (simp only [ClientV.enc, g2]; rfl) | (simp only [ClientV.enc, g2, es]; done) | (simp only [ClientV.enc, g2, es]; rfl)
    try simp -implicitDefEqProofs (maxSteps := 1000000) only [go_sem, true_implies, false_implies, bne, g2]
    repeat (first | refine ⟨rfl, ?_⟩ | refine ⟨by decide, ?_⟩ | refine ⟨⟨by decide, by decide⟩, ?_⟩ | refine ⟨decide_eq_true (by omega), ?_⟩ | refine ⟨⟨decide_eq_true (by omega), decide_eq_true (by omega)⟩, ?_⟩)
    try (first | done | decide | exact decide_eq_true (by omega) | exact ⟨decide_eq_true (by omega), decide_eq_true (by omega)⟩)
    refine .of (c_i_MsgOk m) ?_
    cases g3 : m.ok
    · have e := told_no (c := c) (m := m) (by simp only [toldMay, g3, ek, Bool.false_and, Bool.and_false])
      try simp -implicitDefEqProofs (maxSteps := 1000000) only [go_sem, true_implies, false_implies, bne, e, g2]
      repeat (first | refine ⟨rfl, ?_⟩ | refine ⟨by decide, ?_⟩ | refine ⟨⟨by decide, by decide⟩, ?_⟩ | refine ⟨decide_eq_true (by omega), ?_⟩ | refine ⟨⟨decide_eq_true (by omega), decide_eq_true (by omega)⟩, ?_⟩)
      try (first | done | decide | exact decide_eq_true (by omega) | exact ⟨decide_eq_true (by omega), decide_eq_true (by omega)⟩)
      all_goals first | rfl | (simp only [ClientV.enc, g2]; done) | (simp only [ClientV.enc, g2]; rfl) | (simp only [ClientV.enc, g2, es]; done) | (simp only [ClientV.enc, g2, es]; rfl)
    try simp -implicitDefEqProofs (maxSteps := 1000000) only [go_sem, true_implies, false_implies, bne, g2]
    repeat (first | refine ⟨rfl, ?_⟩ | refine ⟨by decide, ?_⟩ | refine ⟨⟨by decide, by decide⟩, ?_⟩ | refine ⟨decide_eq_true (by omega), ?_⟩ | refine ⟨⟨decide_eq_true (by omega), decide_eq_true (by omega)⟩, ?_⟩)
    try (first | done | decide | exact decide_eq_true (by omega) | exact ⟨decide_eq_true (by omega), decide_eq_true (by omega)⟩)
    have es := ok_seq g1 g2
    cases g4 : (m.From == c.M.To)
    · have e := told_no (c := c) (m := m) (by simp only [toldMay, g4, ek, Bool.false_and, Bool.and_false])
      try simp -implicitDefEqProofs (maxSteps := 1000000) only [go_sem, true_implies, false_implies, bne, e, g2, g4]
      repeat (first | refine ⟨rfl, ?_⟩ | refine ⟨by decide, ?_⟩ | refine ⟨⟨by decide, by decide⟩, ?_⟩ | refine ⟨decide_eq_true (by omega), ?_⟩ | refine ⟨⟨decide_eq_true (by omega), decide_eq_true (by omega)⟩, ?_⟩)
      try (first | done | decide | exact decide_eq_true (by omega) | exact ⟨decide_eq_true (by omega), decide_eq_true (by omega)⟩)
      all_goals first | rfl | (simp only [ClientV.enc, g2]; done) | (simp only [ClientV.enc, g2]; rfl) | (simp only [ClientV.enc, g2, es]; done) | (simp only [ClientV.enc, g2, es]; rfl)
    cases g5 : (m.To == c.Id)
    · have e := told_no (c := c) (m := m) (by simp only [toldMay, g5, ek, Bool.false_and, Bool.and_false])
      try simp -implicitDefEqProofs (maxSteps := 1000000) only [go_sem, true_implies, false_implies, bne, e, g2, g4, g5]
      repeat (first | refine ⟨rfl, ?_⟩ | refine ⟨by decide, ?_⟩ | refine ⟨⟨by decide, by decide⟩, ?_⟩ | refine ⟨decide_eq_true (by omega), ?_⟩ | refine ⟨⟨decide_eq_true (by omega), decide_eq_true (by omega)⟩, ?_⟩)
      try (first | done | decide | exact decide_eq_true (by omega) | exact ⟨decide_eq_true (by omega), decide_eq_true (by omega)⟩)
      all_goals first | rfl | (simp only [ClientV.enc, g2]; done) | (simp only [ClientV.enc, g2]; rfl) | (simp only [ClientV.enc, g2, es]; done) | (simp only [ClientV.enc, g2, es]; rfl)
    cases g6 : (m.Seq == c.Seq)
    · have e := told_no (c := c) (m := m) (by simp only [toldMay, g6, ek, Bool.false_and, Bool.and_false])
      try simp -implicitDefEqProofs (maxSteps := 1000000) only [go_sem, true_implies, false_implies, bne, e, g2, g4, g5, es, g6]
      repeat (first | refine ⟨rfl, ?_⟩ | refine ⟨by decide, ?_⟩ | refine ⟨⟨by decide, by decide⟩, ?_⟩ | refine ⟨decide_eq_true (by omega), ?_⟩ | refine ⟨⟨decide_eq_true (by omega), decide_eq_true (by omega)⟩, ?_⟩)
      try (first | done | decide | exact decide_eq_true (by omega) | exact ⟨decide_eq_true (by omega), decide_eq_true (by omega)⟩)
      all_goals first | rfl | (simp only [ClientV.enc, g2]; done) | (simp only [ClientV.enc, g2]; rfl) | (simp only [ClientV.enc, g2, es]; done) | (simp only [ClientV.enc, g2, es]; rfl)
    cases g7 : (m.Kind == 2)
    · have e := told_no (c := c) (m := m) (by simp only [toldMay, g7, ek, Bool.false_and, Bool.and_false])
      try simp -implicitDefEqProofs (maxSteps := 1000000) only [go_sem, true_implies, false_implies, bne, e, g2, g4, g5, es, g6, g7]
      repeat (first | refine ⟨rfl, ?_⟩ | refine ⟨by decide, ?_⟩ | refine ⟨⟨by decide, by decide⟩, ?_⟩ | refine ⟨decide_eq_true (by omega), ?_⟩ | refine ⟨⟨decide_eq_true (by omega), decide_eq_true (by omega)⟩, ?_⟩)
      try (first | done | decide | exact decide_eq_true (by omega) | exact ⟨decide_eq_true (by omega), decide_eq_true (by omega)⟩)
      all_goals first | rfl | (simp only [ClientV.enc, g2]; done) | (simp only [ClientV.enc, g2]; rfl) | (simp only [ClientV.enc, g2, es]; done) | (simp only [ClientV.enc, g2, es]; rfl)
    have hm : toldMay c m = true := by simp only [toldMay, g1, g2, g3, g4, g5, g6, g7, ek, Bool.and_true]
    cases g8 : decide ((c.Dones.length : Int) < 60)
    · have e := told_full hm g8
      try simp -implicitDefEqProofs (maxSteps := 1000000) only [go_sem, true_implies, false_implies, bne, e, g0, g2, g4, g5, es, g6, g7, g8]
      repeat (first | refine ⟨rfl, ?_⟩ | refine ⟨by decide, ?_⟩ | refine ⟨⟨by decide, by decide⟩, ?_⟩ | refine ⟨decide_eq_true (by omega), ?_⟩ | refine ⟨⟨decide_eq_true (by omega), decide_eq_true (by omega)⟩, ?_⟩)
      try (first | done | decide | exact decide_eq_true (by omega) | exact ⟨decide_eq_true (by omega), decide_eq_true (by omega)⟩)
      all_goals first | rfl | (simp only [ClientV.enc, g2]; done) | (simp only [ClientV.enc, g2]; rfl) | (simp only [ClientV.enc, g2, es]; done) | (simp only [ClientV.enc, g2, es]; rfl)
    · have e := told_more hm g8
      have h8 : c.Dones.length < 60 := by simp only [decide_eq_true_eq] at g8; omega
      have et : List.take (c.Dones.length + 1) (List.map DoneV.row c.Dones ++ [DoneV.row (toldDone c m)]) = List.map DoneV.row (c.Dones ++ [toldDone c m]) := by rw [List.take_of_length_le (by simp)]; simp
      rw [ed] at et
      simp only [DoneV.row] at et
      try simp -implicitDefEqProofs (maxSteps := 1000000) only [go_sem, true_implies, false_implies, bne, e, ed, g0, g2, g4, g5, es, g6, g7, g8]
      repeat (first | refine ⟨rfl, ?_⟩ | refine ⟨by decide, ?_⟩ | refine ⟨⟨by decide, by decide⟩, ?_⟩ | refine ⟨decide_eq_true (by omega), ?_⟩ | refine ⟨⟨decide_eq_true (by omega), decide_eq_true (by omega)⟩, ?_⟩)
      try (first | done | decide | exact decide_eq_true (by omega) | exact ⟨decide_eq_true (by omega), decide_eq_true (by omega)⟩)
      simp only [DoneV.row, ClientV.enc, et, g2, es]
def x_s_Told : FnX := ⟨92, [.cell 4 (some 12), .tmp 5],
  .seq (.reg [⟨none, some 2, 2, .box (.t 0)⟩,
   ⟨none, some 3, 3, .box (.t 1)⟩,
   ⟨none, some 4, 4, .alloc [.pv (.int .i64 0), .pv (.int .i64 0), .pv (.bool false), .pv (.int .i64 0), .pv (.int .i64 0), .pv (.int .i64 0), .pv (.int .i64 0), .pv (.string ⟨#[]⟩), .pv (.string ⟨#[]⟩), .pv (.int .i64 0), .pv (.int .i64 0), .nils 5]⟩,
   ⟨none, some 5, 5, .mv (.k (.one (.pv (.bool false))))⟩])
 (.seq (.reg [⟨none, some 9, 9, .load (some 12) (.t 2)⟩,
   ⟨none, some 10, 10, .call 52 [0] [(.t 9)]⟩,
   ⟨none, some 6, 6, .alloc [.pv (.int .i64 0), .pv (.int .i64 0), .pv (.bool false), .pv (.int .i64 0), .pv (.int .i64 0), .pv (.int .i64 0), .pv (.int .i64 0), .pv (.string ⟨#[]⟩), .pv (.string ⟨#[]⟩), .pv (.int .i64 0), .pv (.int .i64 0), .nils 5]⟩,
   ⟨none, none, 100001, .store 12 (.t 6) (.t 10)⟩])
 (.seq (.reg [⟨none, some 7, 7, .mv (.k (.one (.pv (.int .i64 5))))⟩])
 (.seq (.seq (.reg [⟨none, some 11, 11, .faddr (.t 2) 3⟩,
   ⟨none, some 12, 12, .faddr (.t 11) 0⟩,
   ⟨none, some 13, 13, .load none (.t 12)⟩,
   ⟨none, some 14, 14, .bin .eql (.t 13) (.k (.one (.pv (.int .i64 1))))⟩])
 (.cond 14 (.reg [⟨none, some 7, 7, .mv (.k (.one (.pv (.int .i64 2))))⟩]) (.skip)))
 (.seq (.seq (.reg [⟨none, some 15, 15, .load (some 12) (.t 2)⟩,
   ⟨none, some 16, 16, .call 19 [0] [(.t 15)]⟩,
   ⟨none, some 17, 17, .not (.t 16)⟩,
   ⟨none, some 18, 18, .mv (.t 17)⟩,
   ⟨(some (18, false)), some 19, 19, .load (some 8) (.t 3)⟩,
   ⟨(some (18, false)), some 20, 20, .call 55 [0] [(.t 19)]⟩,
   ⟨(some (18, false)), some 21, 21, .not (.t 20)⟩,
   ⟨none, some 22, 22, .pick (.t 18) (.k (.one (.pv (.bool true)))) (.t 21)⟩,
   ⟨none, some 23, 23, .mv (.t 22)⟩,
   ⟨(some (23, false)), some 24, 24, .faddr (.t 2) 2⟩,
   ⟨(some (23, false)), some 25, 25, .load none (.t 24)⟩,
   ⟨(some (23, false)), some 26, 26, .not (.t 25)⟩,
   ⟨none, some 27, 27, .pick (.t 23) (.k (.one (.pv (.bool true)))) (.t 26)⟩,
   ⟨none, some 28, 28, .mv (.t 27)⟩,
   ⟨(some (28, false)), some 29, 29, .faddr (.t 3) 1⟩,
   ⟨(some (28, false)), some 30, 30, .load none (.t 29)⟩,
   ⟨(some (28, false)), some 31, 31, .faddr (.t 2) 3⟩,
   ⟨(some (28, false)), some 32, 32, .faddr (.t 31) 2⟩,
   ⟨(some (28, false)), some 33, 33, .load none (.t 32)⟩,
   ⟨(some (28, false)), some 34, 34, .bin .neq (.t 30) (.t 33)⟩,
   ⟨none, some 35, 35, .pick (.t 28) (.k (.one (.pv (.bool true)))) (.t 34)⟩,
   ⟨none, some 36, 36, .mv (.t 35)⟩,
   ⟨(some (36, false)), some 37, 37, .faddr (.t 3) 2⟩,
   ⟨(some (36, false)), some 38, 38, .load none (.t 37)⟩,
   ⟨(some (36, false)), some 39, 39, .faddr (.t 2) 0⟩,
   ⟨(some (36, false)), some 40, 40, .load none (.t 39)⟩,
   ⟨(some (36, false)), some 41, 41, .bin .neq (.t 38) (.t 40)⟩,
   ⟨none, some 42, 42, .pick (.t 36) (.k (.one (.pv (.bool true)))) (.t 41)⟩,
   ⟨none, some 43, 43, .mv (.t 42)⟩,
   ⟨(some (43, false)), some 44, 44, .faddr (.t 3) 3⟩,
   ⟨(some (43, false)), some 45, 45, .load none (.t 44)⟩,
   ⟨(some (43, false)), some 46, 46, .faddr (.t 2) 1⟩,
   ⟨(some (43, false)), some 47, 47, .load none (.t 46)⟩,
   ⟨(some (43, false)), some 48, 48, .bin .neq (.t 45) (.t 47)⟩,
   ⟨none, some 49, 49, .pick (.t 43) (.k (.one (.pv (.bool true)))) (.t 48)⟩,
   ⟨none, some 50, 50, .mv (.t 49)⟩,
   ⟨(some (50, false)), some 51, 51, .faddr (.t 3) 0⟩,
   ⟨(some (50, false)), some 52, 52, .load none (.t 51)⟩,
   ⟨(some (50, false)), some 53, 53, .mv (.t 7)⟩,
   ⟨(some (50, false)), some 54, 54, .bin .neq (.t 52) (.t 53)⟩,
   ⟨none, some 55, 55, .pick (.t 50) (.k (.one (.pv (.bool true)))) (.t 54)⟩])
 (.cond 55 (.seq (.reg [⟨none, some 56, 56, .load (some 12) (.t 6)⟩,
   ⟨none, none, 100002, .store 12 (.t 4) (.t 56)⟩,
   ⟨none, some 5, 5, .mv (.k (.one (.pv (.bool false))))⟩])
 (.ret)) (.skip)))
 (.seq (.reg [⟨none, some 57, 57, .faddr (.t 2) 1⟩,
   ⟨none, some 58, 58, .load none (.t 57)⟩,
   ⟨none, some 59, 59, .faddr (.t 2) 3⟩,
   ⟨none, some 60, 60, .faddr (.t 59) 0⟩,
   ⟨none, some 61, 61, .load none (.t 60)⟩,
   ⟨none, some 62, 62, .faddr (.t 2) 3⟩,
   ⟨none, some 63, 63, .faddr (.t 62) 4⟩,
   ⟨none, some 64, 64, .load none (.t 63)⟩,
   ⟨none, some 65, 65, .faddr (.t 2) 3⟩,
   ⟨none, some 66, 66, .faddr (.t 65) 5⟩,
   ⟨none, some 67, 67, .load none (.t 66)⟩,
   ⟨none, some 68, 68, .faddr (.t 3) 7⟩,
   ⟨none, some 69, 69, .load none (.t 68)⟩,
   ⟨none, some 70, 70, .build [.pv (.int .i64 0), .pv (.int .i64 0), .pv (.string ⟨#[]⟩), .pv (.string ⟨#[]⟩), .pv (.int .i64 0)] [(0, 1, (.t 58)), (1, 1, (.t 61)), (2, 1, (.t 64)), (3, 1, (.t 67)), (4, 1, (.t 69))]⟩,
   ⟨none, some 8, 8, .alloc [.pv (.int .i64 0), .pv (.int .i64 0), .pv (.string ⟨#[]⟩), .pv (.string ⟨#[]⟩), .pv (.int .i64 0)]⟩,
   ⟨none, none, 100003, .store 5 (.t 8) (.t 70)⟩])
 (.seq (.seq (.reg [⟨none, some 71, 71, .faddr (.t 2) 3⟩,
   ⟨none, some 72, 72, .faddr (.t 71) 0⟩,
   ⟨none, some 73, 73, .load none (.t 72)⟩,
   ⟨none, some 74, 74, .bin .eql (.t 73) (.k (.one (.pv (.int .i64 1))))⟩])
 (.cond 74 (.reg [⟨none, some 75, 75, .faddr (.t 3) 5⟩,
   ⟨none, some 76, 76, .load none (.t 75)⟩,
   ⟨none, some 77, 77, .faddr (.t 8) 3⟩,
   ⟨none, none, 100004, .store 1 (.t 77) (.t 76)⟩]) (.skip)))
 (.seq (.seq (.reg [⟨none, some 78, 78, .faddr (.t 6) 11⟩,
   ⟨none, some 79, 79, .load none (.t 78)⟩,
   ⟨none, some 80, 80, .len (.t 79)⟩,
   ⟨none, some 81, 81, .bin .lss (.t 80) (.k (.one (.pv (.int .i64 60))))⟩])
 (.cond 81 (.reg [⟨none, some 82, 82, .faddr (.t 6) 11⟩,
   ⟨none, some 83, 83, .load none (.t 82)⟩,
   ⟨none, some 84, 84, .load (some 5) (.t 8)⟩,
   ⟨none, some 85, 85, .bslice 5 [(.t 84)]⟩,
   ⟨none, some 86, 86, .app 5 56 (.t 83) (.t 85)⟩,
   ⟨none, some 87, 87, .faddr (.t 6) 11⟩,
   ⟨none, none, 100005, .store 1 (.t 87) (.t 86)⟩]) (.skip)))
 (.seq (.reg [⟨none, some 88, 88, .faddr (.t 6) 2⟩,
   ⟨none, none, 100006, .store 1 (.t 88) (.k (.one (.pv (.bool false))))⟩])
 (.seq (.reg [⟨none, some 89, 89, .build [.pv (.int .i64 0), .pv (.int .i64 0), .pv (.int .i64 0), .pv (.int .i64 0), .pv (.string ⟨#[]⟩), .pv (.string ⟨#[]⟩), .pv (.int .i64 0), .pv (.int .i64 0)] []⟩,
   ⟨none, some 90, 90, .faddr (.t 6) 3⟩,
   ⟨none, none, 100007, .store 8 (.t 90) (.t 89)⟩])
 (.seq (.reg [⟨none, some 91, 91, .load (some 12) (.t 6)⟩,
   ⟨none, none, 100008, .store 12 (.t 4) (.t 91)⟩,
   ⟨none, some 5, 5, .mv (.k (.one (.pv (.bool true))))⟩])
 (.ret)))))))))))⟩
abbrev C_s_Told (Te : Nat → List AV → Res → Prop) : Prop := ∀ (c : ClientV) (m : Msg) (h : c.In (2 ^ 30)), Te 14 [.agg (c.enc false), .agg m.row] ⟨[.agg ((told c m).1.enc true), .one (bT (told c m).2)], [c.enc false, m.row]⟩
theorem r_s_Told {Te : Nat → List AV → Res → Prop} (c_s_l20Copy : C_s_l20Copy Te) (c_s_ClientOk : C_s_ClientOk Te) (c_s_MsgOk : C_s_MsgOk Te) : ∀ (c : ClientV) (m : Msg) (h : c.In (2 ^ 30)), RunFn Te x_s_Told [.agg (c.enc false), .agg m.row] ⟨[.agg ((told c m).1.enc true), .one (bT (told c m).2)], [c.enc false, m.row]⟩ := by
  intro c m h
  refine ⟨by simp -implicitDefEqProofs (maxSteps := 1000000) only [x_s_Told, go_sem], ?_⟩
  have hl : c.Len := h.len (by decide)
  have hl' : c.Dones.length ≤ 2 ^ 30 := h.2.1
  have h' := h.mono (show 2 ^ 30 ≤ 2 ^ 31 by decide)
  cases g0 : (c.M.Kind == 1)
  · have ek : (if c.M.Kind = 1 then (2 : Int) else 5) = 5 := by rw [if_neg (by simpa using g0)]
    have ed : toldDone c m = ⟨c.Seq, c.M.Kind, c.M.Key, c.M.Text, m.Code⟩ := by simp only [toldDone]; rw [if_neg (by simpa using g0)]
    simp -implicitDefEqProofs (maxSteps := 1000000) only [x_s_Told, go_sem, true_implies, false_implies, bne, g0]
    repeat (first | refine ⟨rfl, ?_⟩ | refine ⟨by decide, ?_⟩ | refine ⟨⟨by decide, by decide⟩, ?_⟩ | refine ⟨decide_eq_true (by omega), ?_⟩ | refine ⟨⟨decide_eq_true (by omega), decide_eq_true (by omega)⟩, ?_⟩)
    try (first | done | decide | exact decide_eq_true (by omega) | exact ⟨decide_eq_true (by omega), decide_eq_true (by omega)⟩)
    refine .of (c_s_l20Copy _ hl) ?_
    try simp -implicitDefEqProofs (maxSteps := 1000000) only [go_sem, true_implies, false_implies, bne, g0]
    repeat (first | refine ⟨rfl, ?_⟩ | refine ⟨by decide, ?_⟩ | refine ⟨⟨by decide, by decide⟩, ?_⟩ | refine ⟨decide_eq_true (by omega), ?_⟩ | refine ⟨⟨decide_eq_true (by omega), decide_eq_true (by omega)⟩, ?_⟩)
    try (first | done | decide | exact decide_eq_true (by omega) | exact ⟨decide_eq_true (by omega), decide_eq_true (by omega)⟩)
    refine .of (c_s_ClientOk _ h') ?_
    cases g1 : c.ok
    · have e := told_no (c := c) (m := m) (by simp only [toldMay, g1, ek, Bool.false_and, Bool.and_false])
      try simp -implicitDefEqProofs (maxSteps := 1000000) only [go_sem, true_implies, false_implies, bne, e]
      repeat (first | refine ⟨rfl, ?_⟩ | refine ⟨by decide, ?_⟩ | refine ⟨⟨by decide, by decide⟩, ?_⟩ | refine ⟨decide_eq_true (by omega), ?_⟩ | refine ⟨⟨decide_eq_true (by omega), decide_eq_true (by omega)⟩, ?_⟩)
      try (first | done | decide | exact decide_eq_true (by omega) | exact ⟨decide_eq_true (by omega), decide_eq_true (by omega)⟩)
    try simp -implicitDefEqProofs (maxSteps := 1000000) only [go_sem, true_implies, false_implies, bne]
    repeat (first | refine ⟨rfl, ?_⟩ | refine ⟨by decide, ?_⟩ | refine ⟨⟨by decide, by decide⟩, ?_⟩ | refine ⟨decide_eq_true (by omega), ?_⟩ | refine ⟨⟨decide_eq_true (by omega), decide_eq_true (by omega)⟩, ?_⟩)
    try (first | done | decide | exact decide_eq_true (by omega) | exact ⟨decide_eq_true (by omega), decide_eq_true (by omega)⟩)
    refine .of (c_s_MsgOk m) ?_
    cases g3 : m.ok
    · have e := told_no (c := c) (m := m) (by simp only [toldMay, g3, ek, Bool.false_and, Bool.and_false])
      try simp -implicitDefEqProofs (maxSteps := 1000000) only [go_sem, true_implies, false_implies, bne, e]
      repeat (first | refine ⟨rfl, ?_⟩ | refine ⟨by decide, ?_⟩ | refine ⟨⟨by decide, by decide⟩, ?_⟩ | refine ⟨decide_eq_true (by omega), ?_⟩ | refine ⟨⟨decide_eq_true (by omega), decide_eq_true (by omega)⟩, ?_⟩)
      try (first | done | decide | exact decide_eq_true (by omega) | exact ⟨decide_eq_true (by omega), decide_eq_true (by omega)⟩)
    try simp -implicitDefEqProofs (maxSteps := 1000000) only [go_sem, true_implies, false_implies, bne]
    repeat (first | refine ⟨rfl, ?_⟩ | refine ⟨by decide, ?_⟩ | refine ⟨⟨by decide, by decide⟩, ?_⟩ | refine ⟨decide_eq_true (by omega), ?_⟩ | refine ⟨⟨decide_eq_true (by omega), decide_eq_true (by omega)⟩, ?_⟩)
    try (first | done | decide | exact decide_eq_true (by omega) | exact ⟨decide_eq_true (by omega), decide_eq_true (by omega)⟩)
    cases g2 : c.Busy
    · have e := told_no (c := c) (m := m) (by simp only [toldMay, g2, ek, Bool.false_and, Bool.and_false])
      try simp -implicitDefEqProofs (maxSteps := 1000000) only [go_sem, true_implies, false_implies, bne, e, g2]
      repeat (first | refine ⟨rfl, ?_⟩ | refine ⟨by decide, ?_⟩ | refine ⟨⟨by decide, by decide⟩, ?_⟩ | refine ⟨decide_eq_true (by omega), ?_⟩ | refine ⟨⟨decide_eq_true (by omega), decide_eq_true (by omega)⟩, ?_⟩)
      try (first | done | decide | exact decide_eq_true (by omega) | exact ⟨decide_eq_true (by omega), decide_eq_true (by omega)⟩)
      all_goals first | rfl | (simp only [ClientV.enc, g2]; done) | (simp only [ClientV.enc, g2]; rfl) | (simp only [ClientV.enc, g2, es]; done) | (simp only [ClientV.enc, g2, es]; rfl)
    have es := ok_seq g1 g2
    cases g4 : (m.From == c.M.To)
    · have e := told_no (c := c) (m := m) (by simp only [toldMay, g4, ek, Bool.false_and, Bool.and_false])
      try simp -implicitDefEqProofs (maxSteps := 1000000) only [go_sem, true_implies, false_implies, bne, e, g2, g4]
      repeat (first | refine ⟨rfl, ?_⟩ | refine ⟨by decide, ?_⟩ | refine ⟨⟨by decide, by decide⟩, ?_⟩ | refine ⟨decide_eq_true (by omega), ?_⟩ | refine ⟨⟨decide_eq_true (by omega), decide_eq_true (by omega)⟩, ?_⟩)
      try (first | done | decide | exact decide_eq_true (by omega) | exact ⟨decide_eq_true (by omega), decide_eq_true (by omega)⟩)
      all_goals first | rfl | (simp only [ClientV.enc, g2]; done) | (simp only [ClientV.enc, g2]; rfl) | (simp only [ClientV.enc, g2, es]; done) | (simp only [ClientV.enc, g2, es]; rfl)
    cases g5 : (m.To == c.Id)
    · have e := told_no (c := c) (m := m) (by simp only [toldMay, g5, ek, Bool.false_and, Bool.and_false])
      try simp -implicitDefEqProofs (maxSteps := 1000000) only [go_sem, true_implies, false_implies, bne, e, g2, g4, g5]
      repeat (first | refine ⟨rfl, ?_⟩ | refine ⟨by decide, ?_⟩ | refine ⟨⟨by decide, by decide⟩, ?_⟩ | refine ⟨decide_eq_true (by omega), ?_⟩ | refine ⟨⟨decide_eq_true (by omega), decide_eq_true (by omega)⟩, ?_⟩)
      try (first | done | decide | exact decide_eq_true (by omega) | exact ⟨decide_eq_true (by omega), decide_eq_true (by omega)⟩)
      all_goals first | rfl | (simp only [ClientV.enc, g2]; done) | (simp only [ClientV.enc, g2]; rfl) | (simp only [ClientV.enc, g2, es]; done) | (simp only [ClientV.enc, g2, es]; rfl)
    cases g6 : (m.Seq == c.Seq)
    · have e := told_no (c := c) (m := m) (by simp only [toldMay, g6, ek, Bool.false_and, Bool.and_false])
      try simp -implicitDefEqProofs (maxSteps := 1000000) only [go_sem, true_implies, false_implies, bne, e, g2, g4, g5, es, g6]
      repeat (first | refine ⟨rfl, ?_⟩ | refine ⟨by decide, ?_⟩ | refine ⟨⟨by decide, by decide⟩, ?_⟩ | refine ⟨decide_eq_true (by omega), ?_⟩ | refine ⟨⟨decide_eq_true (by omega), decide_eq_true (by omega)⟩, ?_⟩)
      try (first | done | decide | exact decide_eq_true (by omega) | exact ⟨decide_eq_true (by omega), decide_eq_true (by omega)⟩)
      all_goals first | rfl | (simp only [ClientV.enc, g2]; done) | (simp only [ClientV.enc, g2]; rfl) | (simp only [ClientV.enc, g2, es]; done) | (simp only [ClientV.enc, g2, es]; rfl)
    cases g7 : (m.Kind == 5)
    · have e := told_no (c := c) (m := m) (by simp only [toldMay, g7, ek, Bool.false_and, Bool.and_false])
      try simp -implicitDefEqProofs (maxSteps := 1000000) only [go_sem, true_implies, false_implies, bne, e, g2, g4, g5, es, g6, g7]
      repeat (first | refine ⟨rfl, ?_⟩ | refine ⟨by decide, ?_⟩ | refine ⟨⟨by decide, by decide⟩, ?_⟩ | refine ⟨decide_eq_true (by omega), ?_⟩ | refine ⟨⟨decide_eq_true (by omega), decide_eq_true (by omega)⟩, ?_⟩)
      try (first | done | decide | exact decide_eq_true (by omega) | exact ⟨decide_eq_true (by omega), decide_eq_true (by omega)⟩)
      all_goals first | rfl | (simp only [ClientV.enc, g2]; done) | (simp only [ClientV.enc, g2]; rfl) | (simp only [ClientV.enc, g2, es]; done) | (simp only [ClientV.enc, g2, es]; rfl)
    have hm : toldMay c m = true := by simp only [toldMay, g1, g2, g3, g4, g5, g6, g7, ek, Bool.and_true]
    cases g8 : decide ((c.Dones.length : Int) < 60)
    · have e := told_full hm g8
      try simp -implicitDefEqProofs (maxSteps := 1000000) only [go_sem, true_implies, false_implies, bne, e, g0, g2, g4, g5, es, g6, g7, g8]
      repeat (first | refine ⟨rfl, ?_⟩ | refine ⟨by decide, ?_⟩ | refine ⟨⟨by decide, by decide⟩, ?_⟩ | refine ⟨decide_eq_true (by omega), ?_⟩ | refine ⟨⟨decide_eq_true (by omega), decide_eq_true (by omega)⟩, ?_⟩)
      try (first | done | decide | exact decide_eq_true (by omega) | exact ⟨decide_eq_true (by omega), decide_eq_true (by omega)⟩)
      all_goals first | rfl | (simp only [ClientV.enc, g2]; done) | (simp only [ClientV.enc, g2]; rfl) | (simp only [ClientV.enc, g2, es]; done) | (simp only [ClientV.enc, g2, es]; rfl)
    · have e := told_more hm g8
      have h8 : c.Dones.length < 60 := by simp only [decide_eq_true_eq] at g8; omega
      have et : List.take (c.Dones.length + 1) (List.map DoneV.row c.Dones ++ [DoneV.row (toldDone c m)]) = List.map DoneV.row (c.Dones ++ [toldDone c m]) := by rw [List.take_of_length_le (by simp)]; simp
      rw [ed] at et
      simp only [DoneV.row] at et
      try simp -implicitDefEqProofs (maxSteps := 1000000) only [go_sem, true_implies, false_implies, bne, e, ed, g0, g2, g4, g5, es, g6, g7, g8]
      repeat (first | refine ⟨rfl, ?_⟩ | refine ⟨by decide, ?_⟩ | refine ⟨⟨by decide, by decide⟩, ?_⟩ | refine ⟨decide_eq_true (by omega), ?_⟩ | refine ⟨⟨decide_eq_true (by omega), decide_eq_true (by omega)⟩, ?_⟩)
      try (first | done | decide | exact decide_eq_true (by omega) | exact ⟨decide_eq_true (by omega), decide_eq_true (by omega)⟩)
      simp only [DoneV.row, ClientV.enc, et, g2, es]
  · have ek : (if c.M.Kind = 1 then (2 : Int) else 5) = 2 := by rw [if_pos (by simpa using g0)]
    have ed : toldDone c m = ⟨c.Seq, c.M.Kind, c.M.Key, m.Text, m.Code⟩ := by simp only [toldDone]; rw [if_pos (by simpa using g0)]
    simp -implicitDefEqProofs (maxSteps := 1000000) only [x_s_Told, go_sem, true_implies, false_implies, bne, g0]
    repeat (first | refine ⟨rfl, ?_⟩ | refine ⟨by decide, ?_⟩ | refine ⟨⟨by decide, by decide⟩, ?_⟩ | refine ⟨decide_eq_true (by omega), ?_⟩ | refine ⟨⟨decide_eq_true (by omega), decide_eq_true (by omega)⟩, ?_⟩)
    try (first | done | decide | exact decide_eq_true (by omega) | exact ⟨decide_eq_true (by omega), decide_eq_true (by omega)⟩)
    refine .of (c_s_l20Copy _ hl) ?_
    try simp -implicitDefEqProofs (maxSteps := 1000000) only [go_sem, true_implies, false_implies, bne, g0]
    repeat (first | refine ⟨rfl, ?_⟩ | refine ⟨by decide, ?_⟩ | refine ⟨⟨by decide, by decide⟩, ?_⟩ | refine ⟨decide_eq_true (by omega), ?_⟩ | refine ⟨⟨decide_eq_true (by omega), decide_eq_true (by omega)⟩, ?_⟩)
    try (first | done | decide | exact decide_eq_true (by omega) | exact ⟨decide_eq_true (by omega), decide_eq_true (by omega)⟩)
    refine .of (c_s_ClientOk _ h') ?_
    cases g1 : c.ok
    · have e := told_no (c := c) (m := m) (by simp only [toldMay, g1, ek, Bool.false_and, Bool.and_false])
      try simp -implicitDefEqProofs (maxSteps := 1000000) only [go_sem, true_implies, false_implies, bne, e]
      repeat (first | refine ⟨rfl, ?_⟩ | refine ⟨by decide, ?_⟩ | refine ⟨⟨by decide, by decide⟩, ?_⟩ | refine ⟨decide_eq_true (by omega), ?_⟩ | refine ⟨⟨decide_eq_true (by omega), decide_eq_true (by omega)⟩, ?_⟩)
      try (first | done | decide | exact decide_eq_true (by omega) | exact ⟨decide_eq_true (by omega), decide_eq_true (by omega)⟩)
    try simp -implicitDefEqProofs (maxSteps := 1000000) only [go_sem, true_implies, false_implies, bne]
    repeat (first | refine ⟨rfl, ?_⟩ | refine ⟨by decide, ?_⟩ | refine ⟨⟨by decide, by decide⟩, ?_⟩ | refine ⟨decide_eq_true (by omega), ?_⟩ | refine ⟨⟨decide_eq_true (by omega), decide_eq_true (by omega)⟩, ?_⟩)
    try (first | done | decide | exact decide_eq_true (by omega) | exact ⟨decide_eq_true (by omega), decide_eq_true (by omega)⟩)
    refine .of (c_s_MsgOk m) ?_
    cases g3 : m.ok
    · have e := told_no (c := c) (m := m) (by simp only [toldMay, g3, ek, Bool.false_and, Bool.and_false])
      try simp -implicitDefEqProofs (maxSteps := 1000000) only [go_sem, true_implies, false_implies, bne, e]
      repeat (first | refine ⟨rfl, ?_⟩ | refine ⟨by decide, ?_⟩ | refine ⟨⟨by decide, by decide⟩, ?_⟩ | refine ⟨decide_eq_true (by omega), ?_⟩ | refine ⟨⟨decide_eq_true (by omega), decide_eq_true (by omega)⟩, ?_⟩)
      try (first | done | decide | exact decide_eq_true (by omega) | exact ⟨decide_eq_true (by omega), decide_eq_true (by omega)⟩)
    try simp -implicitDefEqProofs (maxSteps := 1000000) only [go_sem, true_implies, false_implies, bne]
    repeat (first | refine ⟨rfl, ?_⟩ | refine ⟨by decide, ?_⟩ | refine ⟨⟨by decide, by decide⟩, ?_⟩ | refine ⟨decide_eq_true (by omega), ?_⟩ | refine ⟨⟨decide_eq_true (by omega), decide_eq_true (by omega)⟩, ?_⟩)
    try (first | done | decide | exact decide_eq_true (by omega) | exact ⟨decide_eq_true (by omega), decide_eq_true (by omega)⟩)
    cases g2 : c.Busy
    · have e := told_no (c := c) (m := m) (by simp only [toldMay, g2, ek, Bool.false_and, Bool.and_false])
      try simp -implicitDefEqProofs (maxSteps := 1000000) only [go_sem, true_implies, false_implies, bne, e, g2]
      repeat (first | refine ⟨rfl, ?_⟩ | refine ⟨by decide, ?_⟩ | refine ⟨⟨by decide, by decide⟩, ?_⟩ | refine ⟨decide_eq_true (by omega), ?_⟩ | refine ⟨⟨decide_eq_true (by omega), decide_eq_true (by omega)⟩, ?_⟩)
      try (first | done | decide | exact decide_eq_true (by omega) | exact ⟨decide_eq_true (by omega), decide_eq_true (by omega)⟩)
      all_goals first | rfl | (simp only [ClientV.enc, g2]; done) | (simp only [ClientV.enc, g2]; rfl) | (simp only [ClientV.enc, g2, es]; done) | (simp only [ClientV.enc, g2, es]; rfl)
    have es := ok_seq g1 g2
    cases g4 : (m.From == c.M.To)
    · have e := told_no (c := c) (m := m) (by simp only [toldMay, g4, ek, Bool.false_and, Bool.and_false])
      try simp -implicitDefEqProofs (maxSteps := 1000000) only [go_sem, true_implies, false_implies, bne, e, g2, g4]
      repeat (first | refine ⟨rfl, ?_⟩ | refine ⟨by decide, ?_⟩ | refine ⟨⟨by decide, by decide⟩, ?_⟩ | refine ⟨decide_eq_true (by omega), ?_⟩ | refine ⟨⟨decide_eq_true (by omega), decide_eq_true (by omega)⟩, ?_⟩)
      try (first | done | decide | exact decide_eq_true (by omega) | exact ⟨decide_eq_true (by omega), decide_eq_true (by omega)⟩)
      all_goals first | rfl | (simp only [ClientV.enc, g2]; done) | (simp only [ClientV.enc, g2]; rfl) | (simp only [ClientV.enc, g2, es]; done) | (simp only [ClientV.enc, g2, es]; rfl)
    cases g5 : (m.To == c.Id)
    · have e := told_no (c := c) (m := m) (by simp only [toldMay, g5, ek, Bool.false_and, Bool.and_false])
      try simp -implicitDefEqProofs (maxSteps := 1000000) only [go_sem, true_implies, false_implies, bne, e, g2, g4, g5]
      repeat (first | refine ⟨rfl, ?_⟩ | refine ⟨by decide, ?_⟩ | refine ⟨⟨by decide, by decide⟩, ?_⟩ | refine ⟨decide_eq_true (by omega), ?_⟩ | refine ⟨⟨decide_eq_true (by omega), decide_eq_true (by omega)⟩, ?_⟩)
      try (first | done | decide | exact decide_eq_true (by omega) | exact ⟨decide_eq_true (by omega), decide_eq_true (by omega)⟩)
      all_goals first | rfl | (simp only [ClientV.enc, g2]; done) | (simp only [ClientV.enc, g2]; rfl) | (simp only [ClientV.enc, g2, es]; done) | (simp only [ClientV.enc, g2, es]; rfl)
    cases g6 : (m.Seq == c.Seq)
    · have e := told_no (c := c) (m := m) (by simp only [toldMay, g6, ek, Bool.false_and, Bool.and_false])
      try simp -implicitDefEqProofs (maxSteps := 1000000) only [go_sem, true_implies, false_implies, bne, e, g2, g4, g5, es, g6]
      repeat (first | refine ⟨rfl, ?_⟩ | refine ⟨by decide, ?_⟩ | refine ⟨⟨by decide, by decide⟩, ?_⟩ | refine ⟨decide_eq_true (by omega), ?_⟩ | refine ⟨⟨decide_eq_true (by omega), decide_eq_true (by omega)⟩, ?_⟩)
      try (first | done | decide | exact decide_eq_true (by omega) | exact ⟨decide_eq_true (by omega), decide_eq_true (by omega)⟩)
      all_goals first | rfl | (simp only [ClientV.enc, g2]; done) | (simp only [ClientV.enc, g2]; rfl) | (simp only [ClientV.enc, g2, es]; done) | (simp only [ClientV.enc, g2, es]; rfl)
    cases g7 : (m.Kind == 2)
    · have e := told_no (c := c) (m := m) (by simp only [toldMay, g7, ek, Bool.false_and, Bool.and_false])
      try simp -implicitDefEqProofs (maxSteps := 1000000) only [go_sem, true_implies, false_implies, bne, e, g2, g4, g5, es, g6, g7]
      repeat (first | refine ⟨rfl, ?_⟩ | refine ⟨by decide, ?_⟩ | refine ⟨⟨by decide, by decide⟩, ?_⟩ | refine ⟨decide_eq_true (by omega), ?_⟩ | refine ⟨⟨decide_eq_true (by omega), decide_eq_true (by omega)⟩, ?_⟩)
      try (first | done | decide | exact decide_eq_true (by omega) | exact ⟨decide_eq_true (by omega), decide_eq_true (by omega)⟩)
      all_goals first | rfl | (simp only [ClientV.enc, g2]; done) | (simp only [ClientV.enc, g2]; rfl) | (simp only [ClientV.enc, g2, es]; done) | (simp only [ClientV.enc, g2, es]; rfl)
    have hm : toldMay c m = true := by simp only [toldMay, g1, g2, g3, g4, g5, g6, g7, ek, Bool.and_true]
    cases g8 : decide ((c.Dones.length : Int) < 60)
    · have e := told_full hm g8
      try simp -implicitDefEqProofs (maxSteps := 1000000) only [go_sem, true_implies, false_implies, bne, e, g0, g2, g4, g5, es, g6, g7, g8]
      repeat (first | refine ⟨rfl, ?_⟩ | refine ⟨by decide, ?_⟩ | refine ⟨⟨by decide, by decide⟩, ?_⟩ | refine ⟨decide_eq_true (by omega), ?_⟩ | refine ⟨⟨decide_eq_true (by omega), decide_eq_true (by omega)⟩, ?_⟩)
      try (first | done | decide | exact decide_eq_true (by omega) | exact ⟨decide_eq_true (by omega), decide_eq_true (by omega)⟩)
      all_goals first | rfl | (simp only [ClientV.enc, g2]; done) | (simp only [ClientV.enc, g2]; rfl) | (simp only [ClientV.enc, g2, es]; done) | (simp only [ClientV.enc, g2, es]; rfl)
    · have e := told_more hm g8
      have h8 : c.Dones.length < 60 := by simp only [decide_eq_true_eq] at g8; omega
      have et : List.take (c.Dones.length + 1) (List.map DoneV.row c.Dones ++ [DoneV.row (toldDone c m)]) = List.map DoneV.row (c.Dones ++ [toldDone c m]) := by rw [List.take_of_length_le (by simp)]; simp
      rw [ed] at et
      simp only [DoneV.row] at et
      try simp -implicitDefEqProofs (maxSteps := 1000000) only [go_sem, true_implies, false_implies, bne, e, ed, g0, g2, g4, g5, es, g6, g7, g8]
      repeat (first | refine ⟨rfl, ?_⟩ | refine ⟨by decide, ?_⟩ | refine ⟨⟨by decide, by decide⟩, ?_⟩ | refine ⟨decide_eq_true (by omega), ?_⟩ | refine ⟨⟨decide_eq_true (by omega), decide_eq_true (by omega)⟩, ?_⟩)
      try (first | done | decide | exact decide_eq_true (by omega) | exact ⟨decide_eq_true (by omega), decide_eq_true (by omega)⟩)
      simp only [DoneV.row, ClientV.enc, et, g2, es]
end Go.X

