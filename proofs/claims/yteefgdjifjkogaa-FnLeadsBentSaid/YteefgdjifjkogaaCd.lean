/- Texts: XOpen CA CC CD CE CEa CEb CF CG CH CI CK CP CQa CQb. -/
import Derived.Test.YteefgdjifjkogaaCc
import Derived.SizedLaws
import Derived.Deep.Slices
import Derived.ChangeArms
import Derived.WideShapes
import Derived.Below
set_option linter.unusedVariables false
set_option linter.unusedSimpArgs false
/- How what comes in reads; how a law is asked. -/
namespace Go.X
open Go.WideShapes Go.RowKit
def Old (w : World) : Nat → Prop := fun b => b < w.heap.size
def RdL (S : Nat → Prop) (w : World) (ts : List T) (vs : List Value) : Prop := ts.length = vs.length ∧ ∀ (k : Nat) (t : T) (v : Value), ts[k]? = some t → vs[k]? = some v → Rd S w t v
theorem RdL.app {S : Nat → Prop} {w : World} {a b : List T} {vs us : List Value} (h : RdL S w a vs) (h' : RdL S w b us) : RdL S w (a ++ b) (vs ++ us) :=
  ⟨by simp [h.1, h'.1], fun k t v ht hv => by
    by_cases hk : k < a.length
    · rw [List.getElem?_append_left hk] at ht
      rw [List.getElem?_append_left (by have := h.1; omega)] at hv
      exact h.2 k t v ht hv
    · rw [List.getElem?_append_right (by omega)] at ht
      rw [List.getElem?_append_right (by have := h.1; omega), ← h.1] at hv
      exact h'.2 _ t v ht hv⟩
theorem RdL.one {S : Nat → Prop} {w : World} {t : T} {v : Value} (h : Rd S w t v) : RdL S w [t] [v] := ⟨rfl, fun k t' v' ht hv => by
  cases k with
  | zero => simp at ht hv; subst ht; subst hv; exact h
  | succ k => simp at ht⟩
/-- Every reading of type t is a value that is told so and meets p. -/
def OpT {α : Type} (P : Program) (t : TypeId) (e : α → List T) (p : α → Prop) : Prop :=
  ∀ (H : Type) (enc : TypeId × Value → H) (w : World) (fuel : Nat) (cs : List Value) (x : DataW H × List MemPlace), DataW.trod enc P w 0 (fun _ => true) true fuel t cs = some x →
    (∀ n ∈ x.1.weights P t, n ≤ 140737488351232) → ∃ a, p a ∧ RdL (Old w) w (e a) cs
def FT {α : Type} (P : Program) (fs : List Field) (off z : Nat) (e : α → List T) (p : α → Prop) : Prop :=
  ∀ (H : Type) (enc : TypeId × Value → H) (w : World) (n : Nat) (cs : List Value) (xs : List (DataW H × List MemPlace)),
    (∀ (i : Nat) (f : Field), fs[i]? = some f → DataW.trod enc P w 0 (fun _ => true) true n f.type ((cs.drop f.offset).take (P.cellsOf f.type)) = xs[i]?) → xs.length = fs.length →
    (∀ m ∈ DataW.weightsEach P (fs.map (·.type)) (xs.map (·.1)), m ≤ 140737488351232) → cs.length = off + z → ∃ a, p a ∧ RdL (Old w) w (e a) (cs.drop off)
def InI (k : IntKind) (a : Int) : Prop := (Lit.int k a).wf = true
section
variable {P : Program} {t : TypeId}
theorem OpT.int {k : IntKind} (ht : P.underlying t = some (.int k)) : OpT P t (fun a => [.pv (.int k a)]) (InI k) := fun H enc w fuel cs x h _ => by
  obtain ⟨n, rfl, _, hw⟩ := DataW.trod_int ht h
  exact ⟨n, hw, .one (.pv rfl)⟩
theorem OpT.byte (ht : P.underlying t = some (.int .u8)) : OpT P t (fun a : UInt8 => [.pv (.int .u8 a.toNat)]) (fun _ => True) := fun H enc w fuel cs x h _ => by
  obtain ⟨n, rfl, _, hw⟩ := DataW.trod_int ht h
  have hn : 0 ≤ n ∧ n ≤ 255 := by
    have hw' := hw
    simp only [Lit.wf, Bool.and_eq_true, decide_eq_true_eq] at hw'
    exact hw'
  refine ⟨UInt8.ofNat n.toNat, trivial, ?_⟩
  have e : ((UInt8.ofNat n.toNat).toNat : Int) = n := by rw [UInt8.toNat_ofNat']; omega
  show RdL (Old w) w [.pv (.int .u8 ((UInt8.ofNat n.toNat).toNat : Int))] _
  rw [e]
  exact .one (.pv rfl)
theorem OpT.bool (ht : P.underlying t = some .bool) : OpT P t (fun a => [.pv (.bool a)]) (fun _ => True) := fun H enc w fuel cs x h _ => by
  obtain ⟨n, rfl, _⟩ := DataW.trod_bool ht h
  exact ⟨n, trivial, .one (.pv rfl)⟩
theorem OpT.string (ht : P.underlying t = some .string) : OpT P t (fun a => [.pv (.string a)]) (fun a => a.size ≤ 140737488351232) := fun H enc w fuel cs x h hw => by
  obtain ⟨s, rfl, rfl, hs⟩ := DataW.trod_string ht h
  refine ⟨s, ?_, .one (.pv rfl)⟩
  have := hw s.data.toList.length (by simp [DataW.weights])
  simpa using this
theorem old_of_cell {w : World} {ad : Addr} {v : Value} (h : w.cell? ad = some v) : ad.block < w.heap.size := by
  unfold World.cell? at h
  cases hb : w.heap[ad.block]? with
  | none => simp [hb] at h
  | some _ => exact (Array.getElem?_eq_some_iff.1 hb).1
theorem mem_allW {H : Type} {e : TypeId} {d : DataW H} {n : Nat} (hn : n ∈ d.weights P e) : ∀ {l : List (DataW H)}, d ∈ l → n ∈ DataW.weightsAll P e l
  | [], h => by cases h
  | y :: l, h => by
    simp only [DataW.weightsAll, List.mem_append]
    rcases List.mem_cons.1 h with rfl | h
    · exact .inl hn
    · exact .inr (mem_allW hn h)
theorem OpT.slice {α : Type} {e : TypeId} {en : α → List T} {p : α → Prop} (z B : Nat) (ht : P.underlying t = some (.slice e)) (hc : P.cellsOf e = z) (hB : P.bytesOf e = B) (h : OpT P e en p) :
    OpT P t (fun l : List α => [.sl false z () (l.map en)]) (fun l => l.length * B ≤ 140737488351232 ∧ ∀ a ∈ l, p a) := fun H enc w fuel cs x hx hw => by
  rcases Deep.open_slice ht hx with ⟨rfl, rfl⟩ | ⟨ad, len, cap, m, n, D, Pl, rfl, _, hl, hm, hmm, rfl, hel⟩
  · refine ⟨[], ⟨by simp, fun _ h => by cases h⟩, .one ?_⟩
    exact Rd.sl (rows := []) (fun _ _ => undef) (Nat.le_refl _) (by simp [maxLen]) (fun r hr => by cases hr) (fun i r j t hr => by simp at hr) (fun i r j t hr => by simp at hr)
  · simp only [if_true] at hmm
    replace hmm := hmm.symm
    subst hmm
    have hel' : ∀ i, i < len → ∃ a, p a ∧ ∃ c : List Value, c.length = z ∧ RdL (Old w) w (en a) c ∧ ∀ j u, c[j]? = some u → w.cell? (ad.add (i * z + j)) = some u := fun i hi => by
      obtain ⟨c, h1, h2⟩ := hel i (by omega)
      have hww : ∀ k ∈ (D i).weights P e, k ≤ 140737488351232 := fun k hk => hw k (by
        simp only [DataW.weights, ht, List.mem_cons, List.mem_append]
        exact .inr (.inl (mem_allW hk (List.mem_map.2 ⟨i, by simpa using hi, rfl⟩))))
      obtain ⟨a, hpa, ha⟩ := h H enc w n c _ h2 hww
      obtain ⟨_, hlen, hcell⟩ := World.cells?_some h1
      refine ⟨a, hpa, c, hlen.trans hc, ha, fun j u hu => ?_⟩
      have hj : j < c.length := (List.getElem?_eq_some_iff.1 hu).1
      have := hcell j (by omega)
      rw [hu, Deep.add_add, hc] at this
      exact this
    have : ∃ l : List α, l.length = len ∧ ∀ i a, l[i]? = some a → p a ∧ ∃ c : List Value, c.length = z ∧ RdL (Old w) w (en a) c ∧ ∀ j u, c[j]? = some u → w.cell? (ad.add (i * z + j)) = some u := by
      clear hx hw hel hl
      induction len with
      | zero => exact ⟨[], rfl, fun i a h => by simp at h⟩
      | succ len ih =>
        obtain ⟨l, hl, hh⟩ := ih (fun i hi => hel' i (by omega))
        obtain ⟨a, ha⟩ := hel' len (by omega)
        refine ⟨l ++ [a], by simp [hl], fun i b hb => ?_⟩
        by_cases hi : i < l.length
        · exact hh i b (by rwa [List.getElem?_append_left hi] at hb)
        · have hi' : i = len := by
            have := (List.getElem?_eq_some_iff.1 hb).1
            simp at this
            omega
          subst hi'
          rw [List.getElem?_append_right (by omega), hl] at hb
          simp at hb
          subst hb
          exact ha
    obtain ⟨l, hll, hh⟩ := this
    have hsz : len * B ≤ 140737488351232 := by
      have z := hw ((((List.range len).map D).length + ((List.range (cap - len)).map fun j => D (len + j)).length) * P.bytesOf e) (by simp [DataW.weights, ht])
      rw [hB] at z
      simp only [List.length_map, List.length_range] at z
      exact Nat.le_trans (Nat.mul_le_mul_right _ (by omega)) z
    refine ⟨l, ⟨by rw [hll]; exact hsz, fun a ha => ?_⟩, .one ?_⟩
    · obtain ⟨i, hi, rfl⟩ := List.mem_iff_getElem.1 ha
      exact (hh i _ (List.getElem?_eq_getElem hi)).1
    · have key : ∀ i r j t, (l.map en)[i]? = some r → r[j]? = some t → w.cell? (ad.add (i * z + j)) = some ((w.cell? (ad.add (i * z + j))).getD undef) ∧ Rd (Old w) w t ((w.cell? (ad.add (i * z + j))).getD undef) := fun i r j t hr hj => by
        rw [List.getElem?_map] at hr
        cases hi : l[i]? with
        | none => simp [hi] at hr
        | some a =>
          simp [hi] at hr
          subst hr
          obtain ⟨_, c, h1, h2, h3⟩ := hh i a hi
          have hjl : j < c.length := by rw [← h2.1]; exact (List.getElem?_eq_some_iff.1 hj).1
          have h4 := h3 j c[j] (List.getElem?_eq_getElem hjl)
          rw [h4]
          exact ⟨rfl, h2.2 j t _ hj (List.getElem?_eq_getElem hjl)⟩
      have := Rd.sl (S := Old w) (w := w) (z := z) (cap := cap) (a := some ad) (rows := l.map en) (fun i j => (w.cell? (ad.add (i * z + j))).getD undef) (by simp; omega) hm (fun r hr => by
        obtain ⟨a, ha, rfl⟩ := List.mem_map.1 hr
        obtain ⟨i, hi, rfl⟩ := List.mem_iff_getElem.1 ha
        obtain ⟨_, c, h1, h2, h3⟩ := hh i _ (List.getElem?_eq_getElem hi)
        rw [h2.1, h1]) (fun i r j t hr hj => by
        obtain ⟨h1, h2⟩ := key i r j t hr hj
        refine ⟨ad, rfl, ?_, h1⟩
        have := old_of_cell h1
        rwa [add_block] at this) (fun i r j t hr hj => (key i r j t hr hj).2)
      rw [List.length_map, hll] at this
      exact this
theorem FT.one {α : Type} {e : α → List T} {p : α → Prop} {f : Field} {off z : Nat} (ho : f.offset = off) (hc : P.cellsOf f.type = z) (h : OpT P f.type e p) : FT P [f] off z e p := fun H enc w n cs xs hx hl hw hlen => by
  match xs, hl with
  | [x], _ =>
    have h0 := hx 0 f rfl
    rw [ho, hc, List.take_of_length_le (by rw [List.length_drop]; omega)] at h0
    exact h H enc w n _ x (by simpa using h0) (fun m hm => hw m (by simp only [List.map_cons, List.map_nil, DataW.weightsEach, List.append_nil]; exact hm))
theorem FT.cons {α β : Type} {e : α → List T} {e' : β → List T} {p : α → Prop} {p' : β → Prop} {f : Field} {fs : List Field} {off z z' : Nat} (ho : f.offset = off) (hc : P.cellsOf f.type = z) (h : OpT P f.type e p) (h' : FT P fs (off + z) z' e' p') :
    FT P (f :: fs) off (z + z') (fun a : α × β => e a.1 ++ e' a.2) (fun a => p a.1 ∧ p' a.2) := fun H enc w n cs xs hx hl hw hlen => by
  match xs, hl with
  | x :: xs, hl =>
    have h0 := hx 0 f rfl
    rw [ho, hc] at h0
    obtain ⟨a, hpa, ha⟩ := h H enc w n _ x (by simpa using h0) (fun m hm => hw m (by simp only [List.map_cons, DataW.weightsEach, List.mem_append]; exact .inl hm))
    obtain ⟨b, hpb, hb⟩ := h' H enc w n cs xs (fun i g hg => by simpa using hx (i + 1) g (by simpa using hg)) (by simpa using hl)
      (fun m hm => hw m (by simp only [List.map_cons, DataW.weightsEach, List.mem_append]; exact .inr hm)) (by omega)
    refine ⟨(a, b), ⟨hpa, hpb⟩, ?_⟩
    have := ha.app hb
    rwa [← List.drop_drop, List.take_append_drop] at this
theorem OpT.struct {α β : Type} {e : α → List T} {e' : β → List T} {p : α → Prop} {q : β → Prop} {fs : Array Field} {z : Nat} (ht : P.underlying t = some (.struct fs)) (hc : P.cellsOf t = z) (h : FT P fs.toList 0 z e p) (g : α → β) (hg : ∀ a, e' (g a) = e a) (hq : ∀ a, p a → q (g a)) :
    OpT P t e' q := fun H enc w fuel cs x hx hw => by
  obtain ⟨xs, n, _, rfl, hl, hlen, hf⟩ := DataW.trod_struct ht hx
  obtain ⟨a, hpa, ha⟩ := h H enc w n cs xs (fun i f hi => hf i f (by simpa using hi)) (by simpa using hlen) (fun m hm => hw m (by simpa only [DataW.weights, ht] using hm)) (by omega)
  exact ⟨g a, hq a hpa, by rw [hg]; simpa using ha⟩
theorem OpT.weaken {α : Type} {e : α → List T} {p q : α → Prop} (h : OpT P t e p) (hq : ∀ a, p a → q a) : OpT P t e q := fun H enc w fuel cs x hx hw => by
  obtain ⟨a, hp, ha⟩ := h H enc w fuel cs x hx hw
  exact ⟨a, hq a hp, ha⟩
/-- A parameter's value. -/
theorem OpT.param {α : Type} {e : α → List T} {p : α → Prop} (h : OpT P t e p) {H : Type} {enc : TypeId × Value → H} {W : World} {v : Value} {x : DataW H} {ps : List MemPlace} {ts : List TypeId} {ds : List (DataW H)} (hT : DataW.Trod enc P W 0 (fun _ => true) true t v x ps)
    (hsz : (DataW.weightsEach P ts ds).all (· ≤ reachBytes) = true) (j : Nat) (hj : ts[j]? = some t) (hd : ds[j]? = some x) : ∃ a, p a ∧ RdL (Old W) W (e a) v.cells.toList := by
  obtain ⟨fuel, hf⟩ := hT
  exact h H enc W fuel _ _ hf (fun n hn => by
    have := List.all_eq_true.1 hsz _ (DataW.weights_mem_each hj hd n hn)
    exact of_decide_eq_true this)
theorem lt_of_trod {H : Type} {enc : TypeId × Value → H} {W : World} {v : Value} {x : DataW H} {ps : List MemPlace} (h : DataW.Trod enc P W 0 (fun _ => true) true t v x ps) : ∀ y ∈ ps, y.block < W.heap.size := by
  obtain ⟨m, hm⟩ := h
  exact DataW.trod_lt m _ _ _ hm
/-- An argument, and how it reads. -/
def RdA (w : World) : AV → Value → Prop
  | .one t, v => Rd (Old w) w t v
  | .agg ts, v => ∃ vs : List Value, v = .agg vs.toArray ∧ RdL (Old w) w ts vs
  | .ptr _, _ => False
def RdAs (w : World) : List AV → List Value → Prop
  | [], [] => True
  | a :: as, v :: vs => RdA w a v ∧ RdAs w as vs
  | _, _ => False
theorem rdL_ghost {w : World} : ∀ {ts : List T} {vs : List Value}, RdL (Old w) w ts vs → ∃ gs : List G, gs.map er = ts ∧ gs.map hdr = vs ∧ ∀ t ∈ gs, Rp (Old w) w t ∧ ∀ b, cnt b t = 0
  | [], [], _ => ⟨[], rfl, rfl, fun t h => by cases h⟩
  | t :: ts, v :: vs, h => by
    obtain ⟨gs, e1, e2, e3⟩ := rdL_ghost (ts := ts) (vs := vs) ⟨by simpa using h.1, fun k t v ht hv => h.2 (k + 1) t v (by simpa using ht) (by simpa using hv)⟩
    obtain ⟨f1, f2, f3⟩ := gro_ok (h.2 0 t v rfl rfl)
    exact ⟨gro t v :: gs, by simp [gro_er, e1], by simp [f1, e2], fun t' ht' => by
      rcases List.mem_cons.1 ht' with rfl | ht'
      · exact ⟨f2, f3⟩
      · exact e3 t' ht'⟩
  | [], _ :: _, h => by simp [RdL] at h
  | _ :: _, [], h => by simp [RdL] at h
theorem rdAs_ghost {w : World} : ∀ {as : List AV} {vs : List Value}, RdAs w as vs → ∃ gs : List GA, gs.map GA.er = as ∧ gs.map GA.val = vs ∧ (∀ x ∈ gs, x.ok (Old w) w ∧ noPtr x) ∧ ∀ b, treeCnt b gs + ptrCnt b gs = 0
  | [], [], _ => ⟨[], rfl, rfl, fun x h => (by cases h), fun b => rfl⟩
  | a :: as, v :: vs, h => by
    obtain ⟨gs, e1, e2, e3, e4⟩ := rdAs_ghost h.2
    have h1 := h.1
    cases a with
    | one t =>
      obtain ⟨f1, f2, f3⟩ := gro_ok (show Rd (Old w) w t v from h1)
      refine ⟨.one (gro t v) :: gs, by simp [GA.er, gro_er, e1], by simp [GA.val, f1, e2], fun x hx => ?_, fun b => ?_⟩
      · rcases List.mem_cons.1 hx with rfl | hx
        · exact ⟨⟨fun t ht => by simp only [GA.ts, List.mem_singleton] at ht; subst ht; exact f2, fun A ts e => by cases e⟩, trivial⟩
        · exact e3 x hx
      · have := e4 b
        have := f3 b
        simp only [treeCnt, ptrCnt, List.flatMap_cons, cntL_append, GA.ts, GA.pb, cntL] at *
        omega
    | agg ts =>
      obtain ⟨us, rfl, hR⟩ := h1
      obtain ⟨ys, f1, f2, f3⟩ := rdL_ghost hR
      refine ⟨.agg ys :: gs, by simp [GA.er, f1, e1], by simp [GA.val, f2, e2], fun x hx => ?_, fun b => ?_⟩
      · rcases List.mem_cons.1 hx with rfl | hx
        · exact ⟨⟨fun t ht => (f3 t ht).1, fun A ts e => by cases e⟩, trivial⟩
        · exact e3 x hx
      · have h4 := e4 b
        have z : cntL b ys = 0 := by
          have : ∀ l : List G, (∀ t ∈ l, cnt b t = 0) → cntL b l = 0 := fun l => by
            induction l with
            | nil => intro _; rfl
            | cons t l ih => intro h; simp [cntL, h t (List.mem_cons_self ..), ih (fun t ht => h t (List.mem_cons_of_mem _ ht))]
          exact this _ (fun t ht => (f3 t ht).2 b)
        simp only [treeCnt, ptrCnt, List.flatMap_cons, cntL_append, GA.ts, GA.pb] at *
        omega
    | ptr => exact h1.elim
  | [], _ :: _, h => h.elim
  | _ :: _, [], h => h.elim
/-- A law is asked. -/
theorem asked {KP : Kept} {f : Nat} {as : List AV} {args : Array Value} {w : World} {u : Value} {os : List (List T)} (hT : Tells P KP f as ⟨[.one (.pv u)], os⟩) (ha : RdAs w as args.toList) (hK : KP.ok (Old w) w) : Calls P f args w fun e w' => e = .returned u ∧ Below w.heap.size w w' := by
  obtain ⟨gs, e1, e2, e3, e4⟩ := rdAs_ghost ha
  have := hT (Old w) gs w e1 (fun b h => h) (fun x hx => (e3 x hx).1) (fun b => by have := e4 b; omega) (fun b hb => by have := e4 b; omega) hK
  rw [e2] at this
  refine this.mono ?_
  rintro e w1 ⟨rs, os', rfl, er1, er2, hrs, hos, hOut, hc1, hc2, hF, _⟩
  have hrs' : rs = [.one (.pv u)] := by
    cases rs with
    | nil => simp at er1
    | cons y ys =>
      cases ys with
      | cons => simp at er1
      | nil =>
        simp at er1
        cases y with
        | one t =>
          simp only [GA.er, AV.one.injEq] at er1
          cases t <;> simp_all [er]
        | _ => simp [GA.er] at er1
  subst hrs'
  exact ⟨rfl, ⟨hF.os, hF.tape, hF.output, hF.size, fun b hb => hF.block b hb (e4 b)⟩⟩
end
end Go.X

/- A -/
namespace Go.X
set_option maxRecDepth 100000
set_option maxHeartbeats 8000000
abbrev iT (a : Int) : T := .pv (.int .i64 a)
abbrev bT (a : Bool) : T := .pv (.bool a)
abbrev sT (s : ByteArray) : T := .pv (.string s)
abbrev uT (a : UInt8) : T := .pv (.int .u8 a.toNat)
abbrev slT {α : Type} (o : Bool) (z : Nat) (f : α → List T) (l : List α) : T := .sl o z () (l.map f)
abbrev bR (a : Bool) : List T := [bT a]
abbrev sR (a : ByteArray) : List T := [sT a]
abbrev iR (a : Int) : List T := [iT a]
abbrev uR (a : UInt8) : List T := [uT a]
/-- What is left of a measure. -/
def left (a : Int) : Int := if a < 0 then -1 else a
def Sane (f : Int → Int) : Prop := ∀ k, 0 ≤ k → f k ≤ k
def SaneL (fs : List (Int → Int)) : Prop := ∀ f ∈ fs, Sane f
theorem SaneL.nil : SaneL [] := fun _ h => by cases h
theorem SaneL.cons {f : Int → Int} {fs : List (Int → Int)} (h : Sane f) (t : SaneL fs) : SaneL (f :: fs) := fun g hg => by
  rcases List.mem_cons.1 hg with rfl | hg
  · exact h
  · exact t _ hg
/-- One measure behind the other, as long as something is left. -/
def szAll : List (Int → Int) → Int → Int
  | [], k => k
  | f :: fs, k => if f k < 0 then -1 else szAll fs (f k)
def ExL (n : Int) : List (Int → Int) → Prop
  | [] => True
  | f :: fs => (∃ j, 0 ≤ j ∧ j ≤ n ∧ 0 ≤ f j) ∧ ExL n fs
theorem Sane.all {fs : List (Int → Int)} (h : SaneL fs) : Sane (szAll fs) := by
  induction fs with
  | nil => intro k hk; exact Int.le_refl _
  | cons f fs ih =>
    intro k hk
    have h1 := h f (List.mem_cons_self ..) k hk
    simp only [szAll]
    split
    · omega
    · have := ih (fun g hg => h g (List.mem_cons_of_mem _ hg)) (f k) (by omega)
      omega
theorem szAll_ex {fs : List (Int → Int)} (h : SaneL fs) {k n : Int} (hk : 0 ≤ k) (hn : k ≤ n) (h0 : 0 ≤ szAll fs k) : ExL n fs := by
  induction fs generalizing k with
  | nil => trivial
  | cons f fs ih =>
    have h1 := h f (List.mem_cons_self ..) k hk
    simp only [szAll] at h0
    split at h0
    · omega
    · exact ⟨⟨k, hk, hn, by omega⟩, ih (fun g hg => h g (List.mem_cons_of_mem _ hg)) (k := f k) (by omega) (by omega) h0⟩
theorem Sane.sub (n : Nat) : Sane (fun k => k - n) := fun k hk => by show k - (n : Int) ≤ k; omega
theorem Sane.left (n : Nat) : Sane (fun k => left (k - n)) := fun k hk => by
  show Go.X.left (k - (n : Int)) ≤ k
  unfold Go.X.left
  split <;> omega
theorem left_nn {a : Int} (h : ¬ left a < 0) : left a = a := by
  unfold left at h ⊢
  split at h
  · omega
  · rw [if_neg (by assumption)]
theorem left_in {k : Int} {n : Nat} (h : 0 ≤ left (k - n)) : (n : Int) ≤ k := by
  unfold left at h
  split at h <;> omega
/-- What is left of a measure behind a row of things. -/
def szSl {α : Type} (f : α → Int → Int) (l : List α) (k : Int) : Int := szAll ((fun k => k - l.length) :: l.map f) k
theorem Sane.sl {α : Type} {f : α → Int → Int} (hf : ∀ a, Sane (f a)) (l : List α) : Sane (szSl f l) := by
  refine Sane.all (.cons (.sub _) fun g hg => ?_)
  obtain ⟨a, _, rfl⟩ := List.mem_map.1 hg
  exact hf a
theorem ExL_map {α : Type} {f : α → Int → Int} {n : Int} : ∀ {l : List α}, ExL n (l.map f) → ∀ a ∈ l, ∃ j, 0 ≤ j ∧ j ≤ n ∧ 0 ≤ f a j
  | [], _, a, h => by cases h
  | b :: l, ⟨h1, h2⟩, a, h => by
    rcases List.mem_cons.1 h with rfl | h
    · exact h1
    · exact ExL_map h2 a h
theorem szSl_in {α : Type} {f : α → Int → Int} {P : α → Prop} {n : Nat} (hf : ∀ a, Sane (f a)) (hP : ∀ a j, 0 ≤ j → j ≤ (n : Int) → 0 ≤ f a j → P a) {l : List α} {k : Int} (hk : 0 ≤ k) (hn : k ≤ n) (h : 0 ≤ szSl f l k) : l.length ≤ n ∧ ∀ a ∈ l, P a := by
  obtain ⟨⟨j, h1, h2, h3⟩, h4⟩ := szAll_ex (.cons (.sub _) fun g hg => by obtain ⟨a, _, rfl⟩ := List.mem_map.1 hg; exact hf a) hk hn h
  refine ⟨by have h5 : (0 : Int) ≤ j - (l.length : Nat) := h3; omega, fun a ha => ?_⟩
  obtain ⟨j, q1, q2, q3⟩ := ExL_map h4 a ha
  exact hP a j q1 q2 q3
def szStr (s : ByteArray) (k : Int) : Int := left (k - s.size)
theorem szStr_sane (s : ByteArray) : Sane (szStr s) := Sane.left _
theorem fill_get {α : Type} (f : α → List T) (l : List α) (z : List T) {i : Nat} (hi : i < l.length) : ((l.take i).map f ++ List.replicate (l.length - i) z)[i]? = some z := by
  rw [List.getElem?_append_right (by simp; omega), List.getElem?_replicate, if_pos (by simp; omega)]
theorem fill_set {α : Type} (f : α → List T) (l : List α) (z : List T) {i : Nat} (hi : i < l.length) : ((l.take i).map f ++ List.replicate (l.length - i) z).set i (f l[i]) = (l.take (i + 1)).map f ++ List.replicate (l.length - (i + 1)) z := by
  rw [List.set_append_right _ _ (by simp; omega), List.take_succ_eq_append_getElem hi, List.map_append, List.append_assoc]
  congr 1
  have e : l.length - i = (l.length - (i + 1)) + 1 := by omega
  rw [e, List.replicate_succ]
  have : i - ((l.take i).map f).length = 0 := by simp; omega
  rw [this]
  rfl
theorem fill_len {α : Type} (f : α → List T) (l : List α) (z : List T) {i : Nat} (hi : i ≤ l.length) : ((l.take i).map f ++ List.replicate (l.length - i) z).length = l.length := by simp; omega
theorem fill_end {α : Type} (f : α → List T) (l : List α) (z : List T) : (l.take l.length).map f ++ List.replicate (l.length - l.length) z = l.map f := by simp
/-- As far as i they are the same. -/
theorem same_step {α : Type} {l m : List α} {i : Nat} (hl : i < l.length) (hm : i < m.length) (h : l.take i = m.take i) (he : l[i] = m[i]) : l.take (i + 1) = m.take (i + 1) := by
  rw [List.take_succ_eq_append_getElem hl, List.take_succ_eq_append_getElem hm, h, he]
theorem same_end {α : Type} {l m : List α} {i : Nat} (hl : l.length ≤ i) (hm : m.length ≤ i) (h : l.take i = m.take i) : l = m := by
  rwa [List.take_of_length_le hl, List.take_of_length_le hm] at h
theorem all_step {α : Type} {l : List α} {p : α → Bool} {i : Nat} (hi : i < l.length) (h : (l.take i).all p = true) (h2 : p l[i] = true) : (l.take (i + 1)).all p = true := by
  rw [List.take_succ_eq_append_getElem hi, List.all_append, h, List.all_cons, h2]; rfl
theorem all_not {α : Type} {l : List α} {p : α → Bool} {i : Nat} (hi : i < l.length) (h2 : p l[i] = false) : l.all p = false := by
  rw [List.all_eq_false]; exact ⟨l[i], List.getElem_mem hi, by simp [h2]⟩
theorem all_end {α : Type} {l : List α} {p : α → Bool} {i : Nat} (hi : l.length ≤ i) (h : (l.take i).all p = true) : l.all p = true := by
  rwa [List.take_of_length_le hi] at h
/-- The marks of n things from k on, w to each. -/
def marks {α : Type} (w : Nat) (mk : Int → α) (n : Nat) (k : Int) : List α := (List.range n).map fun i => mk (k + (w * i : Nat))
theorem marks_length {α : Type} (w : Nat) (mk : Int → α) (n : Nat) (k : Int) : (marks w mk n k).length = n := by simp [marks]
theorem marks_succ {α : Type} (w : Nat) (mk : Int → α) (n : Nat) (k : Int) : marks w mk (n + 1) k = marks w mk n k ++ [mk (k + (w * n : Nat))] := by simp [marks, List.range_succ]
theorem marks_get {α : Type} (w : Nat) (mk : Int → α) {n i : Nat} (k : Int) (h : i < n) : (marks w mk n k)[i]? = some (mk (k + (w * i : Nat))) := by simp [marks, h]
theorem mark_get {α : Type} (f : α → List T) (w : Nat) (mk : Int → α) (l : List α) (k : Int) {i : Nat} (hi : i < l.length) : ((marks w mk i k).map f ++ (l.drop i).map f)[i]? = some (f l[i]) := by
  rw [List.getElem?_append_right (by simp [marks_length]), List.length_map, marks_length, Nat.sub_self, List.getElem?_map, List.getElem?_drop]
  simp [hi]
theorem mark_set {α : Type} (f : α → List T) (w : Nat) (mk : Int → α) (l : List α) (k : Int) {i : Nat} (hi : i < l.length) : ((marks w mk i k).map f ++ (l.drop i).map f).set i (f (mk (k + (w * i : Nat)))) = (marks w mk (i + 1) k).map f ++ (l.drop (i + 1)).map f := by
  rw [List.set_append_right _ _ (by simp [marks_length]), List.length_map, marks_length, Nat.sub_self, List.drop_eq_getElem_cons hi, List.map_cons, List.set_cons_zero, marks_succ, List.map_append, List.append_assoc]
  rfl
theorem mark_len {α : Type} (f : α → List T) (w : Nat) (mk : Int → α) (l : List α) (k : Int) {i : Nat} (hi : i ≤ l.length) : ((marks w mk i k).map f ++ (l.drop i).map f).length = l.length := by simp [marks_length]; omega
theorem mark_reget {α : Type} (f : α → List T) (w : Nat) (mk : Int → α) (l : List α) (k : Int) {i : Nat} (hi : i < l.length) (r : List T) : (((marks w mk i k).map f ++ (l.drop i).map f).set i r)[i]? = some r := by
  rw [List.getElem?_set_self (by rw [mark_len f w mk l k (by omega)]; exact hi)]
theorem mark_end {α : Type} (f : α → List T) (w : Nat) (mk : Int → α) (l : List α) (k : Int) : (marks w mk l.length k).map f ++ (l.drop l.length).map f = (marks w mk l.length k).map f := by simp
theorem marks_take {α β : Type} (f : α → β) (w : Nat) (mk : Int → α) (n : Nat) (k : Int) : ((marks w mk n k).map f).take n = (marks w mk n k).map f := by rw [List.take_of_length_le (by simp [marks_length])]
/-- Marks of things that are not of one size. -/
def markL {α : Type} (m : α → Int → α) (f : α → Int → Int) : List α → Int → List α
  | [], _ => []
  | x :: l, k => m x k :: markL m f l (f x k)
def farL {α : Type} (f : α → Int → Int) : List α → Int → Int
  | [], k => k
  | x :: l, k => farL f l (f x k)
theorem markL_length {α : Type} (m : α → Int → α) (f : α → Int → Int) : ∀ (l : List α) (k : Int), (markL m f l k).length = l.length
  | [], _ => rfl
  | x :: l, k => by simp only [markL, List.length_cons, markL_length m f l]
theorem farL_take {α : Type} (f : α → Int → Int) : ∀ (l : List α) (k : Int) {i : Nat} (h : i < l.length), farL f (l.take (i + 1)) k = f l[i] (farL f (l.take i) k)
  | x :: l, k, 0, h => by simp [farL]
  | x :: l, k, i + 1, h => by
    simp only [List.take_succ_cons, farL, List.getElem_cons_succ]
    exact farL_take f l _ (by simpa using h)
theorem markL_get {α : Type} (m : α → Int → α) (f : α → Int → Int) : ∀ (l : List α) (k : Int) {i : Nat} (h : i < l.length), (markL m f l k)[i]? = some (m l[i] (farL f (l.take i) k))
  | x :: l, k, 0, h => by simp [markL, farL]
  | x :: l, k, i + 1, h => by
    simp only [markL, List.getElem?_cons_succ, List.take_succ_cons, farL, List.getElem_cons_succ]
    exact markL_get m f l _ (by simpa using h)
theorem markL_take {α : Type} (m : α → Int → α) (f : α → Int → Int) : ∀ (l : List α) (k : Int) {i : Nat} (h : i < l.length), markL m f (l.take (i + 1)) k = markL m f (l.take i) k ++ [m l[i] (farL f (l.take i) k)]
  | x :: l, k, 0, h => by simp [markL, farL]
  | x :: l, k, i + 1, h => by
    simp only [List.take_succ_cons, markL, farL, List.cons_append, List.getElem_cons_succ]
    rw [markL_take m f l _ (by simpa using h)]
theorem farL_le {α : Type} {f : α → Int → Int} {p : α → Prop} {l : List α} {n c : Nat} {k : Int} (h : l.length ≤ n ∧ ∀ y ∈ l, p y) (hf : ∀ y, p y → ∀ k, k ≤ f y k ∧ f y k ≤ k + (c : Nat)) : k ≤ farL f l k ∧ farL f l k ≤ k + ((n * c : Nat) : Int) := by
  obtain ⟨h1, h2⟩ := h
  have key : ∀ (l : List α) (k : Int), (∀ y ∈ l, p y) → k ≤ farL f l k ∧ farL f l k ≤ k + ((l.length * c : Nat) : Int) := by
    intro l
    induction l with
    | nil => intro k _; simp [farL]
    | cons x l ih =>
      intro k hp
      have a := hf x (hp x (List.mem_cons_self ..)) k
      have b := ih (f x k) fun y hy => hp y (List.mem_cons_of_mem _ hy)
      simp only [farL, List.length_cons, Nat.add_mul, Nat.one_mul]
      omega
  have a := key l k h2
  have b := Nat.mul_le_mul_right c h1
  omega
theorem markL_len {α : Type} (R : α → List T) (m : α → Int → α) (f : α → Int → Int) (l : List α) (k : Int) {i : Nat} (hi : i ≤ l.length) : ((markL m f (l.take i) k).map R ++ (l.drop i).map R).length = l.length := by simp [markL_length]; omega
theorem markL_at {α : Type} (R : α → List T) (m : α → Int → α) (f : α → Int → Int) (l : List α) (k : Int) {i : Nat} (hi : i < l.length) : ((markL m f (l.take i) k).map R ++ (l.drop i).map R)[i]? = some (R l[i]) := by
  rw [List.getElem?_append_right (by simp [markL_length]; omega), List.length_map, markL_length, List.length_take, Nat.min_eq_left (by omega), Nat.sub_self, List.getElem?_map, List.getElem?_drop]
  simp [hi]
theorem markL_reat {α : Type} (R : α → List T) (m : α → Int → α) (f : α → Int → Int) (l : List α) (k : Int) {i : Nat} (hi : i < l.length) (r : List T) : (((markL m f (l.take i) k).map R ++ (l.drop i).map R).set i r)[i]? = some r := by
  rw [List.getElem?_set_self (by rw [markL_len R m f l k (by omega)]; exact hi)]
theorem markL_set {α : Type} (R : α → List T) (m : α → Int → α) (f : α → Int → Int) (l : List α) (k : Int) {i : Nat} (hi : i < l.length) : ((markL m f (l.take i) k).map R ++ (l.drop i).map R).set i (R (m l[i] (farL f (l.take i) k))) = (markL m f (l.take (i + 1)) k).map R ++ (l.drop (i + 1)).map R := by
  have e : ((markL m f (l.take i) k).map R).length = i := by rw [List.length_map, markL_length, List.length_take]; omega
  rw [List.set_append_right _ _ (by omega), e, Nat.sub_self, List.drop_eq_getElem_cons hi, List.map_cons, List.set_cons_zero, markL_take m f l k hi, List.map_append, List.append_assoc]
  rfl
def mkB (k : Int) : Bool := k.tmod 3 == 0
theorem byte_neq (a b : UInt8) : binV .neq (.int .u8 a.toNat) (.int .u8 b.toNat) = some (.bool (!decide (a = b))) := by
  have : ((a.toNat : Int) = b.toNat) ↔ a = b := by rw [Int.ofNat_inj]; exact UInt8.toNat_inj
  rw [bI_neq]
  by_cases h : a = b
  · subst h; simp
  · have h2 : ¬ ((a.toNat : Int) = b.toNat) := fun e => h (this.1 e)
    simp [h, bne, h2]
def digs (n : Nat) (out : ByteArray) : ByteArray := if h : n = 0 then out else digs (n / 10) (⟨#[UInt8.ofNat (48 + n % 10)]⟩ ++ out)
termination_by n
decreasing_by omega
def mkS (k : Int) : ByteArray := if k ≤ 0 then ⟨#[109, 48]⟩ else ⟨#[109]⟩ ++ digs k.toNat ⟨#[]⟩
def mkI (k : Int) : Int := k
def mkU (k : Int) : UInt8 := UInt8.ofNat (k % 256).toNat
theorem mkU_wrap (k : Int) : IntKind.u8.wrap k = ((mkU k).toNat : Int) := by
  have h1 := Int.emod_nonneg k (show (256 : Int) ≠ 0 by decide)
  have h2 := Int.emod_lt_of_pos k (show (0 : Int) < 256 by decide)
  have h3 : (mkU k).toNat = (k % 256).toNat := by
    rw [mkU, UInt8.toNat_ofNat', Nat.mod_eq_of_lt (by omega)]
  rw [h3, IntKind.wrap_u8]
  omega
end Go.X

/- C -/
namespace Go.X
set_option maxRecDepth 100000
set_option maxHeartbeats 8000000
structure Msg where
  Kind : Int
  From : Int
  To : Int
  Seq : Int
  Key : ByteArray
  Text : ByteArray
  N : Int
  Code : Int
  deriving DecidableEq
abbrev Msg.row (x : Msg) : List Go.X.T := [iT x.Kind, iT x.From, iT x.To, iT x.Seq, sT x.Key, sT x.Text, iT x.N, iT x.Code]
def Msg.In (n : Nat) (x : Msg) : Prop := x.Key.size ≤ n ∧ x.Text.size ≤ n
theorem Msg.In.mono {x : Msg} {n m : Nat} (h : x.In n) (hn : n ≤ m) : x.In m := by
  simp only [Msg.In] at h ⊢
  exact ⟨Nat.le_trans h.1 hn, Nat.le_trans h.2 hn⟩
def szMsg (x : Msg) (k : Int) : Int := szAll [(fun k => k - (x.Key.size : Nat)), (fun k => k - (x.Text.size : Nat))] k
theorem szMsg_sane (x : Msg) : Sane (szMsg x) := Sane.all (.cons (Sane.sub _) (.cons (Sane.sub _) .nil))
theorem szMsg_in {x : Msg} {k : Int} {n : Nat} (hk : 0 ≤ k) (hn : k ≤ n) (h : 0 ≤ szMsg x k) : x.In n := by
  obtain ⟨⟨j0, a0, b0, c0⟩, ⟨j1, a1, b1, c1⟩, _⟩ := szAll_ex (.cons (Sane.sub _) (.cons (Sane.sub _) .nil)) hk hn h
  exact ⟨(by have q : (0 : Int) ≤ j0 - _ := c0; omega), (by have q : (0 : Int) ≤ j1 - _ := c1; omega)⟩
def mkMsg (k : Int) : Msg := ⟨k, k + 1, k + 1 + 1, k + 1 + 1 + 1, mkS (k + 1 + 1 + 1 + 1), mkS (k + 1 + 1 + 1 + 1 + 1), k + 1 + 1 + 1 + 1 + 1 + 1, k + 1 + 1 + 1 + 1 + 1 + 1 + 1⟩
end Go.X

/- D -/
namespace Go.X
set_option maxRecDepth 100000
set_option maxHeartbeats 8000000
structure Lead where
  Phase : Int
  Acked : List Bool
  Ended : List Bool
  At : List ByteArray
  deriving DecidableEq
abbrev Lead.enc (o : Bool) (x : Lead) : List Go.X.T := [iT x.Phase, slT o 1 bR x.Acked, slT o 1 bR x.Ended, slT o 1 sR x.At]
def Lead.In (n : Nat) (x : Lead) : Prop := x.Acked.length ≤ n ∧ x.Ended.length ≤ n ∧ (x.At.length ≤ n ∧ ∀ y ∈ x.At, y.size ≤ n)
theorem Lead.In.mono {x : Lead} {n m : Nat} (h : x.In n) (hn : n ≤ m) : x.In m := by
  simp only [Lead.In] at h ⊢
  exact ⟨Nat.le_trans h.1 hn, Nat.le_trans h.2.1 hn, ⟨Nat.le_trans h.2.2.1 hn, fun y hy => Nat.le_trans (h.2.2.2 y hy) hn⟩⟩
def szLead (x : Lead) (k : Int) : Int := szAll [(fun k => left (k - (x.Acked.length : Nat))), (fun k => left (k - (x.Ended.length : Nat))), (szSl szStr x.At)] k
theorem szLead_sane (x : Lead) : Sane (szLead x) := Sane.all (.cons (Sane.left _) (.cons (Sane.left _) (.cons (Sane.sl szStr_sane _) .nil)))
theorem szLead_in {x : Lead} {k : Int} {n : Nat} (hk : 0 ≤ k) (hn : k ≤ n) (h : 0 ≤ szLead x k) : x.In n := by
  obtain ⟨⟨j0, a0, b0, c0⟩, ⟨j1, a1, b1, c1⟩, ⟨j2, a2, b2, c2⟩, _⟩ := szAll_ex (.cons (Sane.left _) (.cons (Sane.left _) (.cons (Sane.sl szStr_sane _) .nil))) hk hn h
  exact ⟨(by have := left_in c0; omega), (by have := left_in c1; omega), (szSl_in szStr_sane (fun a j h0 hn h => by have := left_in h; omega) a2 b2 c2)⟩
def Lead.Len (x : Lead) : Prop := x.Acked.length ≤ 2 ^ 31 ∧ x.Ended.length ≤ 2 ^ 31 ∧ x.At.length ≤ 2 ^ 31
theorem Lead.In.len {x : Lead} {n : Nat} (h : x.In n) (hn : n ≤ 2 ^ 31) : x.Len := by
  obtain ⟨h0, h1, h2⟩ := h
  exact ⟨Nat.le_trans h0 hn, Nat.le_trans h1 hn, Nat.le_trans h2.1 hn⟩
def Lead.mark (x : Lead) (k : Int) : Lead := ⟨x.Phase, marks 1 mkB x.Acked.length (k), marks 1 mkB x.Ended.length (k + (1 * x.Acked.length : Nat)), marks 1 mkS x.At.length (k + (1 * x.Acked.length : Nat) + (1 * x.Ended.length : Nat))⟩
def Lead.far (x : Lead) (k : Int) : Int := k + (1 * x.Acked.length : Nat) + (1 * x.Ended.length : Nat) + (1 * x.At.length : Nat)
theorem Lead.mark_Acked (x : Lead) (k : Int) : (x.mark k).Acked.length = x.Acked.length := by simp [Lead.mark, marks_length, markL_length]
theorem Lead.take_Acked {β : Type} (f : Bool → β) (x : Lead) (k : Int) : ((x.mark k).Acked.map f).take x.Acked.length = (x.mark k).Acked.map f := by rw [← x.mark_Acked k, take_map]
theorem Lead.mark_Ended (x : Lead) (k : Int) : (x.mark k).Ended.length = x.Ended.length := by simp [Lead.mark, marks_length, markL_length]
theorem Lead.take_Ended {β : Type} (f : Bool → β) (x : Lead) (k : Int) : ((x.mark k).Ended.map f).take x.Ended.length = (x.mark k).Ended.map f := by rw [← x.mark_Ended k, take_map]
theorem Lead.mark_At (x : Lead) (k : Int) : (x.mark k).At.length = x.At.length := by simp [Lead.mark, marks_length, markL_length]
theorem Lead.take_At {β : Type} (f : ByteArray → β) (x : Lead) (k : Int) : ((x.mark k).At.map f).take x.At.length = (x.mark k).At.map f := by rw [← x.mark_At k, take_map]
end Go.X

/- E -/
namespace Go.X
set_option maxRecDepth 100000
set_option maxHeartbeats 8000000
structure DoneV where
  Seq : Int
  Kind : Int
  Key : ByteArray
  Text : ByteArray
  Code : Int
  deriving DecidableEq
abbrev DoneV.row (x : DoneV) : List Go.X.T := [iT x.Seq, iT x.Kind, sT x.Key, sT x.Text, iT x.Code]
def DoneV.In (n : Nat) (x : DoneV) : Prop := x.Key.size ≤ n ∧ x.Text.size ≤ n
theorem DoneV.In.mono {x : DoneV} {n m : Nat} (h : x.In n) (hn : n ≤ m) : x.In m := by
  simp only [DoneV.In] at h ⊢
  exact ⟨Nat.le_trans h.1 hn, Nat.le_trans h.2 hn⟩
def szDone (x : DoneV) (k : Int) : Int := szAll [(fun k => k - (x.Key.size : Nat)), (fun k => k - (x.Text.size : Nat))] k
theorem szDone_sane (x : DoneV) : Sane (szDone x) := Sane.all (.cons (Sane.sub _) (.cons (Sane.sub _) .nil))
theorem szDone_in {x : DoneV} {k : Int} {n : Nat} (hk : 0 ≤ k) (hn : k ≤ n) (h : 0 ≤ szDone x k) : x.In n := by
  obtain ⟨⟨j0, a0, b0, c0⟩, ⟨j1, a1, b1, c1⟩, _⟩ := szAll_ex (.cons (Sane.sub _) (.cons (Sane.sub _) .nil)) hk hn h
  exact ⟨(by have q : (0 : Int) ≤ j0 - _ := c0; omega), (by have q : (0 : Int) ≤ j1 - _ := c1; omega)⟩
def mkDone (k : Int) : DoneV := ⟨k, k + 1, mkS (k + 1 + 1), mkS (k + 1 + 1 + 1), k + 1 + 1 + 1 + 1⟩
structure ClientV where
  Id : Int
  Seq : Int
  Busy : Bool
  M : Msg
  Dones : List DoneV
  deriving DecidableEq
abbrev ClientV.enc (o : Bool) (x : ClientV) : List Go.X.T := [iT x.Id, iT x.Seq, bT x.Busy, iT x.M.Kind, iT x.M.From, iT x.M.To, iT x.M.Seq, sT x.M.Key, sT x.M.Text, iT x.M.N, iT x.M.Code, slT o 5 DoneV.row x.Dones]
def ClientV.In (n : Nat) (x : ClientV) : Prop := x.M.In (n) ∧ (x.Dones.length ≤ n ∧ ∀ y ∈ x.Dones, y.In (n))
theorem ClientV.In.mono {x : ClientV} {n m : Nat} (h : x.In n) (hn : n ≤ m) : x.In m := by
  simp only [ClientV.In] at h ⊢
  exact ⟨h.1.mono hn, ⟨Nat.le_trans h.2.1 hn, fun y hy => (h.2.2 y hy).mono hn⟩⟩
def szClient (x : ClientV) (k : Int) : Int := szAll [(szMsg x.M), (szSl szDone x.Dones)] k
theorem szClient_sane (x : ClientV) : Sane (szClient x) := Sane.all (.cons (szMsg_sane _) (.cons (Sane.sl szDone_sane _) .nil))
theorem szClient_in {x : ClientV} {k : Int} {n : Nat} (hk : 0 ≤ k) (hn : k ≤ n) (h : 0 ≤ szClient x k) : x.In n := by
  obtain ⟨⟨j0, a0, b0, c0⟩, ⟨j1, a1, b1, c1⟩, _⟩ := szAll_ex (.cons (szMsg_sane _) (.cons (Sane.sl szDone_sane _) .nil)) hk hn h
  exact ⟨(szMsg_in a0 b0 c0), (szSl_in szDone_sane (fun a j h0 hn h => szDone_in h0 hn h) a1 b1 c1)⟩
def ClientV.Len (x : ClientV) : Prop := x.Dones.length ≤ 2 ^ 31
theorem ClientV.In.len {x : ClientV} {n : Nat} (h : x.In n) (hn : n ≤ 2 ^ 31) : x.Len := by
  obtain ⟨h0, h1⟩ := h
  exact Nat.le_trans h1.1 hn
def ClientV.mark (x : ClientV) (k : Int) : ClientV := ⟨x.Id, x.Seq, x.Busy, x.M, marks 5 mkDone x.Dones.length (k)⟩
def ClientV.far (x : ClientV) (k : Int) : Int := k + (5 * x.Dones.length : Nat)
theorem ClientV.mark_Dones (x : ClientV) (k : Int) : (x.mark k).Dones.length = x.Dones.length := by simp [ClientV.mark, marks_length, markL_length]
theorem ClientV.take_Dones {β : Type} (f : DoneV → β) (x : ClientV) (k : Int) : ((x.mark k).Dones.map f).take x.Dones.length = (x.mark k).Dones.map f := by rw [← x.mark_Dones k, take_map]
end Go.X

/- Ea -/
namespace Go.X
set_option maxRecDepth 100000
set_option maxHeartbeats 8000000
theorem own_sl {τ : Type} {o : Bool} {z : Nat} {h : τ} {rows : List (List (Tr τ))} : Tr.own (.sl o z h rows) = o := rfl
theorem cellAt_sl {τ : Type} {o : Bool} {z : Nat} {h : τ} {rows : List (List (Tr τ))} {i j : Nat} : cellAt (.sl o z h rows) i j = (rows[i]?).bind (·[j]?) := rfl
theorem setCell_sl {τ : Type} {o : Bool} {z : Nat} {h : τ} {rows : List (List (Tr τ))} {i j : Nat} {u : Tr τ} : setCell (.sl o z h rows) i j u = .sl o z h (rows.set i ((rows[i]?.getD []).set j u)) := by
  simp only [setCell, setRows, Tr.rows, List.getD_eq_getElem?_getD]
attribute [go_sem] own_sl cellAt_sl setCell_sl
theorem back_bif {α : Type} {Te : Nat → List AV → Res → Prop} {c : Bool} {f : St → Bool} {p : Prg α} {st : St} {Q : α → St → Prop} (h : f st = true) (hp : runP Te p st Q) : runP Te (bif c then p else .all f p) st Q := by
  cases c
  · exact ⟨h, hp⟩
  · exact hp
structure CellV where
  Tag : Int
  B : List UInt8
  deriving DecidableEq
abbrev CellV.enc (o : Bool) (x : CellV) : List Go.X.T := [iT x.Tag, slT o 1 uR x.B]
def CellV.In (n : Nat) (x : CellV) : Prop := x.B.length ≤ n
theorem CellV.In.mono {x : CellV} {n m : Nat} (h : x.In n) (hn : n ≤ m) : x.In m := by
  simp only [CellV.In] at h ⊢
  exact Nat.le_trans h hn
def szCell (x : CellV) (k : Int) : Int := szAll [(fun k => left (k - (x.B.length : Nat)))] k
theorem szCell_sane (x : CellV) : Sane (szCell x) := Sane.all (.cons (Sane.left _) .nil)
theorem szCell_in {x : CellV} {k : Int} {n : Nat} (hk : 0 ≤ k) (hn : k ≤ n) (h : 0 ≤ szCell x k) : x.In n := by
  obtain ⟨⟨j0, a0, b0, c0⟩, _⟩ := szAll_ex (.cons (Sane.left _) .nil) hk hn h
  show x.B.length ≤ n
  exact (by have := left_in c0; omega)
def CellV.Len (x : CellV) : Prop := x.B.length ≤ 2 ^ 21
theorem CellV.In.len {x : CellV} {n : Nat} (h : x.In n) (hn : n ≤ 2 ^ 21) : x.Len := by
  have h0 : x.B.length ≤ n := h
  exact Nat.le_trans h0 hn
def CellV.mark (x : CellV) (k : Int) : CellV := ⟨x.Tag, marks 1 mkU x.B.length (k)⟩
def CellV.far (x : CellV) (k : Int) : Int := k + (1 * x.B.length : Nat)
theorem CellV.mark_B (x : CellV) (k : Int) : (x.mark k).B.length = x.B.length := by simp [CellV.mark, marks_length, markL_length]
theorem CellV.take_B {β : Type} (f : UInt8 → β) (x : CellV) (k : Int) : ((x.mark k).B.map f).take x.B.length = (x.mark k).B.map f := by rw [← x.mark_B k, take_map]
theorem CellV.far_le {x : CellV} (hx : x.Len) (k : Int) : k ≤ x.far k ∧ x.far k ≤ k + 2097152 := by
  have h0 : x.B.length ≤ 2 ^ 21 := hx
  simp only [CellV.far]
  omega
structure RowV where
  Key : ByteArray
  Old : CellV
  New : CellV
  Has : Int
  Aside : Bool
  deriving DecidableEq
abbrev RowV.enc (o : Bool) (x : RowV) : List Go.X.T := [sT x.Key, iT x.Old.Tag, slT o 1 uR x.Old.B, iT x.New.Tag, slT o 1 uR x.New.B, iT x.Has, bT x.Aside]
def RowV.In (n : Nat) (x : RowV) : Prop := x.Key.size ≤ n ∧ x.Old.In (n) ∧ x.New.In (n)
theorem RowV.In.mono {x : RowV} {n m : Nat} (h : x.In n) (hn : n ≤ m) : x.In m := by
  simp only [RowV.In] at h ⊢
  exact ⟨Nat.le_trans h.1 hn, h.2.1.mono hn, h.2.2.mono hn⟩
def szRow (x : RowV) (k : Int) : Int := szAll [(fun k => k - (x.Key.size : Nat)), (szCell x.Old), (szCell x.New)] k
theorem szRow_sane (x : RowV) : Sane (szRow x) := Sane.all (.cons (Sane.sub _) (.cons (szCell_sane _) (.cons (szCell_sane _) .nil)))
theorem szRow_in {x : RowV} {k : Int} {n : Nat} (hk : 0 ≤ k) (hn : k ≤ n) (h : 0 ≤ szRow x k) : x.In n := by
  obtain ⟨⟨j0, a0, b0, c0⟩, ⟨j1, a1, b1, c1⟩, ⟨j2, a2, b2, c2⟩, _⟩ := szAll_ex (.cons (Sane.sub _) (.cons (szCell_sane _) (.cons (szCell_sane _) .nil))) hk hn h
  exact ⟨(by have q : (0 : Int) ≤ j0 - _ := c0; omega), (szCell_in a1 b1 c1), (szCell_in a2 b2 c2)⟩
def RowV.Len (x : RowV) : Prop := x.Old.Len ∧ x.New.Len
theorem RowV.In.len {x : RowV} {n : Nat} (h : x.In n) (hn : n ≤ 2 ^ 21) : x.Len := by
  obtain ⟨h0, h1, h2⟩ := h
  exact ⟨(h1).len hn, (h2).len hn⟩
def RowV.mark (x : RowV) (k : Int) : RowV := ⟨x.Key, x.Old.mark (k), x.New.mark (x.Old.far (k)), x.Has, x.Aside⟩
def RowV.far (x : RowV) (k : Int) : Int := x.New.far (x.Old.far (k))
theorem RowV.mark_Old_B (x : RowV) (k : Int) : (x.mark k).Old.B.length = x.Old.B.length := by simp [RowV.mark, CellV.mark, marks_length, markL_length]
theorem RowV.take_Old_B {β : Type} (f : UInt8 → β) (x : RowV) (k : Int) : ((x.mark k).Old.B.map f).take x.Old.B.length = (x.mark k).Old.B.map f := by rw [← x.mark_Old_B k, take_map]
theorem RowV.mark_New_B (x : RowV) (k : Int) : (x.mark k).New.B.length = x.New.B.length := by simp [RowV.mark, CellV.mark, marks_length, markL_length]
theorem RowV.take_New_B {β : Type} (f : UInt8 → β) (x : RowV) (k : Int) : ((x.mark k).New.B.map f).take x.New.B.length = (x.mark k).New.B.map f := by rw [← x.mark_New_B k, take_map]
theorem RowV.far_le {x : RowV} (hx : x.Len) (k : Int) : k ≤ x.far k ∧ x.far k ≤ k + 4194304 := by
  obtain ⟨h0, h1⟩ := hx
  have w0 := CellV.far_le h0 k
  have w1 := CellV.far_le h1 (x.Old.far k)
  simp only [RowV.far]
  omega
def RowV.markE (x : RowV) (k : Int) : RowV := ⟨mkS (k), ⟨k + 1, marks 1 mkU x.Old.B.length (k + 1 + 1)⟩, ⟨k + 1 + 1 + (1 * x.Old.B.length : Nat), marks 1 mkU x.New.B.length (k + 1 + 1 + (1 * x.Old.B.length : Nat) + 1)⟩, k + 1 + 1 + (1 * x.Old.B.length : Nat) + 1 + (1 * x.New.B.length : Nat), mkB (k + 1 + 1 + (1 * x.Old.B.length : Nat) + 1 + (1 * x.New.B.length : Nat) + 1)⟩
def RowV.farE (x : RowV) (k : Int) : Int := k + 1 + 1 + (1 * x.Old.B.length : Nat) + 1 + (1 * x.New.B.length : Nat) + 1 + 1
theorem RowV.farE_le {x : RowV} (hx : x.Len) (k : Int) : k ≤ x.farE k ∧ x.farE k ≤ k + 4194309 := by
  obtain ⟨h0, h1⟩ := hx
  have h0' : x.Old.B.length ≤ 2 ^ 21 := h0
  have h1' : x.New.B.length ≤ 2 ^ 21 := h1
  simp only [RowV.farE]
  omega
structure WrV where
  N : Int
  B : List UInt8
  deriving DecidableEq
abbrev WrV.enc (o : Bool) (x : WrV) : List Go.X.T := [iT x.N, slT o 1 uR x.B]
def WrV.In (n : Nat) (x : WrV) : Prop := x.B.length ≤ n
theorem WrV.In.mono {x : WrV} {n m : Nat} (h : x.In n) (hn : n ≤ m) : x.In m := by
  simp only [WrV.In] at h ⊢
  exact Nat.le_trans h hn
def szWr (x : WrV) (k : Int) : Int := szAll [(fun k => left (k - (x.B.length : Nat)))] k
theorem szWr_sane (x : WrV) : Sane (szWr x) := Sane.all (.cons (Sane.left _) .nil)
theorem szWr_in {x : WrV} {k : Int} {n : Nat} (hk : 0 ≤ k) (hn : k ≤ n) (h : 0 ≤ szWr x k) : x.In n := by
  obtain ⟨⟨j0, a0, b0, c0⟩, _⟩ := szAll_ex (.cons (Sane.left _) .nil) hk hn h
  show x.B.length ≤ n
  exact (by have := left_in c0; omega)
def WrV.Len (x : WrV) : Prop := x.B.length ≤ 2 ^ 21
theorem WrV.In.len {x : WrV} {n : Nat} (h : x.In n) (hn : n ≤ 2 ^ 21) : x.Len := by
  have h0 : x.B.length ≤ n := h
  exact Nat.le_trans h0 hn
def WrV.mark (x : WrV) (k : Int) : WrV := ⟨x.N, marks 1 mkU x.B.length (k)⟩
def WrV.far (x : WrV) (k : Int) : Int := k + (1 * x.B.length : Nat)
theorem WrV.mark_B (x : WrV) (k : Int) : (x.mark k).B.length = x.B.length := by simp [WrV.mark, marks_length, markL_length]
theorem WrV.take_B {β : Type} (f : UInt8 → β) (x : WrV) (k : Int) : ((x.mark k).B.map f).take x.B.length = (x.mark k).B.map f := by rw [← x.mark_B k, take_map]
theorem WrV.far_le {x : WrV} (hx : x.Len) (k : Int) : k ≤ x.far k ∧ x.far k ≤ k + 2097152 := by
  have h0 : x.B.length ≤ 2 ^ 21 := hx
  simp only [WrV.far]
  omega
def WrV.markE (x : WrV) (k : Int) : WrV := ⟨k, marks 1 mkU x.B.length (k + 1)⟩
def WrV.farE (x : WrV) (k : Int) : Int := k + 1 + (1 * x.B.length : Nat)
theorem WrV.farE_le {x : WrV} (hx : x.Len) (k : Int) : k ≤ x.farE k ∧ x.farE k ≤ k + 2097153 := by
  have h0 : x.B.length ≤ 2 ^ 21 := hx
  simp only [WrV.farE]
  omega
structure DevV where
  Secs : List (List UInt8)
  Cache : List WrV
  Fuse : Int
  Down : Bool
  deriving DecidableEq
abbrev DevV.enc (o : Bool) (x : DevV) : List Go.X.T := [slT o 1 (fun y => [slT o 1 uR y]) x.Secs, slT o 2 (WrV.enc o) x.Cache, iT x.Fuse, bT x.Down]
def DevV.In (n : Nat) (x : DevV) : Prop := (x.Secs.length ≤ n ∧ ∀ y ∈ x.Secs, y.length ≤ n) ∧ (x.Cache.length ≤ n ∧ ∀ y ∈ x.Cache, y.In (n))
theorem DevV.In.mono {x : DevV} {n m : Nat} (h : x.In n) (hn : n ≤ m) : x.In m := by
  simp only [DevV.In] at h ⊢
  exact ⟨⟨Nat.le_trans h.1.1 hn, fun y hy => Nat.le_trans (h.1.2 y hy) hn⟩, ⟨Nat.le_trans h.2.1 hn, fun y hy => (h.2.2 y hy).mono hn⟩⟩
def szDev (x : DevV) (k : Int) : Int := szAll [(szSl (fun y k => left (k - y.length)) x.Secs), (szSl szWr x.Cache)] k
theorem szDev_sane (x : DevV) : Sane (szDev x) := Sane.all (.cons (Sane.sl (fun _ => Sane.left _) _) (.cons (Sane.sl szWr_sane _) .nil))
theorem szDev_in {x : DevV} {k : Int} {n : Nat} (hk : 0 ≤ k) (hn : k ≤ n) (h : 0 ≤ szDev x k) : x.In n := by
  obtain ⟨⟨j0, a0, b0, c0⟩, ⟨j1, a1, b1, c1⟩, _⟩ := szAll_ex (.cons (Sane.sl (fun _ => Sane.left _) _) (.cons (Sane.sl szWr_sane _) .nil)) hk hn h
  exact ⟨(szSl_in (fun _ => Sane.left _) (fun a j h0 hn h => by have := left_in h; omega) a0 b0 c0), (szSl_in szWr_sane (fun a j h0 hn h => szWr_in h0 hn h) a1 b1 c1)⟩
def DevV.Len (x : DevV) : Prop := (x.Secs.length ≤ 2 ^ 21 ∧ ∀ y ∈ x.Secs, y.length ≤ 2 ^ 21) ∧ (x.Cache.length ≤ 2 ^ 21 ∧ ∀ y ∈ x.Cache, y.Len)
theorem DevV.In.len {x : DevV} {n : Nat} (h : x.In n) (hn : n ≤ 2 ^ 21) : x.Len := by
  obtain ⟨h0, h1⟩ := h
  exact ⟨⟨Nat.le_trans h0.1 hn, fun y hy => Nat.le_trans (h0.2 y hy) hn⟩, ⟨Nat.le_trans h1.1 hn, fun y hy => ((h1.2 y hy)).len hn⟩⟩
def DevV.mark (x : DevV) (k : Int) : DevV := ⟨markL (fun y k => marks 1 mkU y.length k) (fun y k => k + (1 * y.length : Nat)) x.Secs (k), markL WrV.markE WrV.farE x.Cache (farL (fun y k => k + (1 * y.length : Nat)) x.Secs (k)), x.Fuse, x.Down⟩
def DevV.far (x : DevV) (k : Int) : Int := farL WrV.farE x.Cache (farL (fun y k => k + (1 * y.length : Nat)) x.Secs (k))
theorem DevV.mark_Secs (x : DevV) (k : Int) : (x.mark k).Secs.length = x.Secs.length := by simp [DevV.mark, marks_length, markL_length]
theorem DevV.take_Secs {β : Type} (f : List UInt8 → β) (x : DevV) (k : Int) : ((x.mark k).Secs.map f).take x.Secs.length = (x.mark k).Secs.map f := by rw [← x.mark_Secs k, take_map]
theorem DevV.mark_Cache (x : DevV) (k : Int) : (x.mark k).Cache.length = x.Cache.length := by simp [DevV.mark, marks_length, markL_length]
theorem DevV.take_Cache {β : Type} (f : WrV → β) (x : DevV) (k : Int) : ((x.mark k).Cache.map f).take x.Cache.length = (x.mark k).Cache.map f := by rw [← x.mark_Cache k, take_map]
theorem DevV.far_le {x : DevV} (hx : x.Len) (k : Int) : k ≤ x.far k ∧ x.far k ≤ k + 8796095119360 := by
  obtain ⟨h0, h1⟩ := hx
  have w0 := farL_le (k := k) (c := 2097152) h0 (fun (y : List UInt8) (hy : y.length ≤ 2 ^ 21) (k : Int) => ⟨by show k ≤ k + ((1 * y.length : Nat) : Int); omega, by show k + ((1 * y.length : Nat) : Int) ≤ _; omega⟩)
  have w1 := farL_le (k := (farL (fun y k => k + (1 * y.length : Nat)) x.Secs (k))) (c := 2097153) h1 (fun y hy k => WrV.farE_le hy k)
  simp only [DevV.far]
  omega
end Go.X

/- Eb -/
namespace Go.X
set_option maxRecDepth 100000
set_option maxHeartbeats 8000000
structure MarkV where
  Who : Int
  Seq : Int
  Code : Int
  deriving DecidableEq
abbrev MarkV.row (x : MarkV) : List Go.X.T := [iT x.Who, iT x.Seq, iT x.Code]
def mkMark (k : Int) : MarkV := ⟨k, k + 1, k + 1 + 1⟩
structure TabV where
  Rows : List RowV
  Phase : Int
  Marks : List MarkV
  deriving DecidableEq
abbrev TabV.enc (o : Bool) (x : TabV) : List Go.X.T := [slT o 7 (RowV.enc o) x.Rows, iT x.Phase, slT o 3 MarkV.row x.Marks]
def TabV.In (n : Nat) (x : TabV) : Prop := (x.Rows.length ≤ n ∧ ∀ y ∈ x.Rows, y.In (n)) ∧ x.Marks.length ≤ n
theorem TabV.In.mono {x : TabV} {n m : Nat} (h : x.In n) (hn : n ≤ m) : x.In m := by
  simp only [TabV.In] at h ⊢
  exact ⟨⟨Nat.le_trans h.1.1 hn, fun y hy => (h.1.2 y hy).mono hn⟩, Nat.le_trans h.2 hn⟩
def szTab (x : TabV) (k : Int) : Int := szAll [(szSl szRow x.Rows), (fun k => left (k - (x.Marks.length : Nat)))] k
theorem szTab_sane (x : TabV) : Sane (szTab x) := Sane.all (.cons (Sane.sl szRow_sane _) (.cons (Sane.left _) .nil))
theorem szTab_in {x : TabV} {k : Int} {n : Nat} (hk : 0 ≤ k) (hn : k ≤ n) (h : 0 ≤ szTab x k) : x.In n := by
  obtain ⟨⟨j0, a0, b0, c0⟩, ⟨j1, a1, b1, c1⟩, _⟩ := szAll_ex (.cons (Sane.sl szRow_sane _) (.cons (Sane.left _) .nil)) hk hn h
  exact ⟨(szSl_in szRow_sane (fun a j h0 hn h => szRow_in h0 hn h) a0 b0 c0), (by have := left_in c1; omega)⟩
def TabV.Len (x : TabV) : Prop := (x.Rows.length ≤ 2 ^ 21 ∧ ∀ y ∈ x.Rows, y.Len) ∧ x.Marks.length ≤ 2 ^ 21
theorem TabV.In.len {x : TabV} {n : Nat} (h : x.In n) (hn : n ≤ 2 ^ 21) : x.Len := by
  obtain ⟨h0, h1⟩ := h
  exact ⟨⟨Nat.le_trans h0.1 hn, fun y hy => ((h0.2 y hy)).len hn⟩, Nat.le_trans h1 hn⟩
def TabV.mark (x : TabV) (k : Int) : TabV := ⟨markL RowV.markE RowV.farE x.Rows (k), x.Phase, marks 3 mkMark x.Marks.length (farL RowV.farE x.Rows (k))⟩
def TabV.far (x : TabV) (k : Int) : Int := farL RowV.farE x.Rows (k) + (3 * x.Marks.length : Nat)
theorem TabV.mark_Rows (x : TabV) (k : Int) : (x.mark k).Rows.length = x.Rows.length := by simp [TabV.mark, marks_length, markL_length]
theorem TabV.take_Rows {β : Type} (f : RowV → β) (x : TabV) (k : Int) : ((x.mark k).Rows.map f).take x.Rows.length = (x.mark k).Rows.map f := by rw [← x.mark_Rows k, take_map]
theorem TabV.mark_Marks (x : TabV) (k : Int) : (x.mark k).Marks.length = x.Marks.length := by simp [TabV.mark, marks_length, markL_length]
theorem TabV.take_Marks {β : Type} (f : MarkV → β) (x : TabV) (k : Int) : ((x.mark k).Marks.map f).take x.Marks.length = (x.mark k).Marks.map f := by rw [← x.mark_Marks k, take_map]
theorem TabV.far_le {x : TabV} (hx : x.Len) (k : Int) : k ≤ x.far k ∧ x.far k ≤ k + 8796109799424 := by
  obtain ⟨h0, h1⟩ := hx
  have w0 := farL_le (k := k) (c := 4194309) h0 (fun y hy k => RowV.farE_le hy k)
  simp only [TabV.far]
  omega
structure StoreV where
  D : DevV
  T : TabV
  Gen : Int
  Place : Int
  deriving DecidableEq
abbrev StoreV.enc (o : Bool) (x : StoreV) : List Go.X.T := [slT o 1 (fun y => [slT o 1 uR y]) x.D.Secs, slT o 2 (WrV.enc o) x.D.Cache, iT x.D.Fuse, bT x.D.Down, slT o 7 (RowV.enc o) x.T.Rows, iT x.T.Phase, slT o 3 MarkV.row x.T.Marks, iT x.Gen, iT x.Place]
def StoreV.In (n : Nat) (x : StoreV) : Prop := x.D.In (n) ∧ x.T.In (n)
theorem StoreV.In.mono {x : StoreV} {n m : Nat} (h : x.In n) (hn : n ≤ m) : x.In m := by
  simp only [StoreV.In] at h ⊢
  exact ⟨h.1.mono hn, h.2.mono hn⟩
def szStore (x : StoreV) (k : Int) : Int := szAll [(szDev x.D), (szTab x.T)] k
theorem szStore_sane (x : StoreV) : Sane (szStore x) := Sane.all (.cons (szDev_sane _) (.cons (szTab_sane _) .nil))
theorem szStore_in {x : StoreV} {k : Int} {n : Nat} (hk : 0 ≤ k) (hn : k ≤ n) (h : 0 ≤ szStore x k) : x.In n := by
  obtain ⟨⟨j0, a0, b0, c0⟩, ⟨j1, a1, b1, c1⟩, _⟩ := szAll_ex (.cons (szDev_sane _) (.cons (szTab_sane _) .nil)) hk hn h
  exact ⟨(szDev_in a0 b0 c0), (szTab_in a1 b1 c1)⟩
def StoreV.Len (x : StoreV) : Prop := x.D.Len ∧ x.T.Len
theorem StoreV.In.len {x : StoreV} {n : Nat} (h : x.In n) (hn : n ≤ 2 ^ 21) : x.Len := by
  obtain ⟨h0, h1⟩ := h
  exact ⟨(h0).len hn, (h1).len hn⟩
def StoreV.mark (x : StoreV) (k : Int) : StoreV := ⟨x.D.mark (k), x.T.mark (x.D.far (k)), x.Gen, x.Place⟩
def StoreV.far (x : StoreV) (k : Int) : Int := x.T.far (x.D.far (k))
theorem StoreV.mark_D_Secs (x : StoreV) (k : Int) : (x.mark k).D.Secs.length = x.D.Secs.length := by simp [StoreV.mark, DevV.mark, TabV.mark, marks_length, markL_length]
theorem StoreV.take_D_Secs {β : Type} (f : List UInt8 → β) (x : StoreV) (k : Int) : ((x.mark k).D.Secs.map f).take x.D.Secs.length = (x.mark k).D.Secs.map f := by rw [← x.mark_D_Secs k, take_map]
theorem StoreV.mark_D_Cache (x : StoreV) (k : Int) : (x.mark k).D.Cache.length = x.D.Cache.length := by simp [StoreV.mark, DevV.mark, TabV.mark, marks_length, markL_length]
theorem StoreV.take_D_Cache {β : Type} (f : WrV → β) (x : StoreV) (k : Int) : ((x.mark k).D.Cache.map f).take x.D.Cache.length = (x.mark k).D.Cache.map f := by rw [← x.mark_D_Cache k, take_map]
theorem StoreV.mark_T_Rows (x : StoreV) (k : Int) : (x.mark k).T.Rows.length = x.T.Rows.length := by simp [StoreV.mark, DevV.mark, TabV.mark, marks_length, markL_length]
theorem StoreV.take_T_Rows {β : Type} (f : RowV → β) (x : StoreV) (k : Int) : ((x.mark k).T.Rows.map f).take x.T.Rows.length = (x.mark k).T.Rows.map f := by rw [← x.mark_T_Rows k, take_map]
theorem StoreV.mark_T_Marks (x : StoreV) (k : Int) : (x.mark k).T.Marks.length = x.T.Marks.length := by simp [StoreV.mark, DevV.mark, TabV.mark, marks_length, markL_length]
theorem StoreV.take_T_Marks {β : Type} (f : MarkV → β) (x : StoreV) (k : Int) : ((x.mark k).T.Marks.map f).take x.T.Marks.length = (x.mark k).T.Marks.map f := by rw [← x.mark_T_Marks k, take_map]
theorem StoreV.far_le {x : StoreV} (hx : x.Len) (k : Int) : k ≤ x.far k ∧ x.far k ≤ k + 17592204918784 := by
  obtain ⟨h0, h1⟩ := hx
  have w0 := DevV.far_le h0 k
  have w1 := TabV.far_le h1 (x.D.far k)
  simp only [StoreV.far]
  omega
structure NodeV where
  S : StoreV
  Cs : Int
  deriving DecidableEq
abbrev NodeV.enc (o : Bool) (x : NodeV) : List Go.X.T := [slT o 1 (fun y => [slT o 1 uR y]) x.S.D.Secs, slT o 2 (WrV.enc o) x.S.D.Cache, iT x.S.D.Fuse, bT x.S.D.Down, slT o 7 (RowV.enc o) x.S.T.Rows, iT x.S.T.Phase, slT o 3 MarkV.row x.S.T.Marks, iT x.S.Gen, iT x.S.Place, iT x.Cs]
def NodeV.In (n : Nat) (x : NodeV) : Prop := x.S.In (n)
theorem NodeV.In.mono {x : NodeV} {n m : Nat} (h : x.In n) (hn : n ≤ m) : x.In m := by
  simp only [NodeV.In] at h ⊢
  exact h.mono hn
def szNode (x : NodeV) (k : Int) : Int := szAll [(szStore x.S)] k
theorem szNode_sane (x : NodeV) : Sane (szNode x) := Sane.all (.cons (szStore_sane _) .nil)
theorem szNode_in {x : NodeV} {k : Int} {n : Nat} (hk : 0 ≤ k) (hn : k ≤ n) (h : 0 ≤ szNode x k) : x.In n := by
  obtain ⟨⟨j0, a0, b0, c0⟩, _⟩ := szAll_ex (.cons (szStore_sane _) .nil) hk hn h
  show x.S.In (n)
  exact (szStore_in a0 b0 c0)
def NodeV.Len (x : NodeV) : Prop := x.S.Len
theorem NodeV.In.len {x : NodeV} {n : Nat} (h : x.In n) (hn : n ≤ 2 ^ 21) : x.Len := by
  have h0 : x.S.In (n) := h
  exact (h0).len hn
def NodeV.mark (x : NodeV) (k : Int) : NodeV := ⟨x.S.mark (k), x.Cs⟩
def NodeV.far (x : NodeV) (k : Int) : Int := x.S.far (k)
theorem NodeV.mark_S_D_Secs (x : NodeV) (k : Int) : (x.mark k).S.D.Secs.length = x.S.D.Secs.length := by simp [NodeV.mark, StoreV.mark, DevV.mark, TabV.mark, marks_length, markL_length]
theorem NodeV.take_S_D_Secs {β : Type} (f : List UInt8 → β) (x : NodeV) (k : Int) : ((x.mark k).S.D.Secs.map f).take x.S.D.Secs.length = (x.mark k).S.D.Secs.map f := by rw [← x.mark_S_D_Secs k, take_map]
theorem NodeV.mark_S_D_Cache (x : NodeV) (k : Int) : (x.mark k).S.D.Cache.length = x.S.D.Cache.length := by simp [NodeV.mark, StoreV.mark, DevV.mark, TabV.mark, marks_length, markL_length]
theorem NodeV.take_S_D_Cache {β : Type} (f : WrV → β) (x : NodeV) (k : Int) : ((x.mark k).S.D.Cache.map f).take x.S.D.Cache.length = (x.mark k).S.D.Cache.map f := by rw [← x.mark_S_D_Cache k, take_map]
theorem NodeV.mark_S_T_Rows (x : NodeV) (k : Int) : (x.mark k).S.T.Rows.length = x.S.T.Rows.length := by simp [NodeV.mark, StoreV.mark, DevV.mark, TabV.mark, marks_length, markL_length]
theorem NodeV.take_S_T_Rows {β : Type} (f : RowV → β) (x : NodeV) (k : Int) : ((x.mark k).S.T.Rows.map f).take x.S.T.Rows.length = (x.mark k).S.T.Rows.map f := by rw [← x.mark_S_T_Rows k, take_map]
theorem NodeV.mark_S_T_Marks (x : NodeV) (k : Int) : (x.mark k).S.T.Marks.length = x.S.T.Marks.length := by simp [NodeV.mark, StoreV.mark, DevV.mark, TabV.mark, marks_length, markL_length]
theorem NodeV.take_S_T_Marks {β : Type} (f : MarkV → β) (x : NodeV) (k : Int) : ((x.mark k).S.T.Marks.map f).take x.S.T.Marks.length = (x.mark k).S.T.Marks.map f := by rw [← x.mark_S_T_Marks k, take_map]
theorem NodeV.far_le {x : NodeV} (hx : x.Len) (k : Int) : k ≤ x.far k ∧ x.far k ≤ k + 17592204918784 := by
  have h0 : x.S.Len := hx
  have w0 := StoreV.far_le h0 k
  simp only [NodeV.far]
  omega
structure RecV where
  Kind : Int
  R : RowV
  Key : ByteArray
  N : Int
  Who : Int
  Seq : Int
  Code : Int
  deriving DecidableEq
abbrev RecV.enc (o : Bool) (x : RecV) : List Go.X.T := [iT x.Kind, sT x.R.Key, iT x.R.Old.Tag, slT o 1 uR x.R.Old.B, iT x.R.New.Tag, slT o 1 uR x.R.New.B, iT x.R.Has, bT x.R.Aside, sT x.Key, iT x.N, iT x.Who, iT x.Seq, iT x.Code]
def RecV.In (n : Nat) (x : RecV) : Prop := x.R.In (n) ∧ x.Key.size ≤ n
theorem RecV.In.mono {x : RecV} {n m : Nat} (h : x.In n) (hn : n ≤ m) : x.In m := by
  simp only [RecV.In] at h ⊢
  exact ⟨h.1.mono hn, Nat.le_trans h.2 hn⟩
def szRec (x : RecV) (k : Int) : Int := szAll [(szRow x.R), (fun k => k - (x.Key.size : Nat))] k
theorem szRec_sane (x : RecV) : Sane (szRec x) := Sane.all (.cons (szRow_sane _) (.cons (Sane.sub _) .nil))
theorem szRec_in {x : RecV} {k : Int} {n : Nat} (hk : 0 ≤ k) (hn : k ≤ n) (h : 0 ≤ szRec x k) : x.In n := by
  obtain ⟨⟨j0, a0, b0, c0⟩, ⟨j1, a1, b1, c1⟩, _⟩ := szAll_ex (.cons (szRow_sane _) (.cons (Sane.sub _) .nil)) hk hn h
  exact ⟨(szRow_in a0 b0 c0), (by have q : (0 : Int) ≤ j1 - _ := c1; omega)⟩
def RecV.Len (x : RecV) : Prop := x.R.Len
theorem RecV.In.len {x : RecV} {n : Nat} (h : x.In n) (hn : n ≤ 2 ^ 21) : x.Len := by
  obtain ⟨h0, h1⟩ := h
  exact (h0).len hn
def RecV.mark (x : RecV) (k : Int) : RecV := ⟨x.Kind, x.R.mark (k), x.Key, x.N, x.Who, x.Seq, x.Code⟩
def RecV.far (x : RecV) (k : Int) : Int := x.R.far (k)
theorem RecV.mark_R_Old_B (x : RecV) (k : Int) : (x.mark k).R.Old.B.length = x.R.Old.B.length := by simp [RecV.mark, RowV.mark, CellV.mark, marks_length, markL_length]
theorem RecV.take_R_Old_B {β : Type} (f : UInt8 → β) (x : RecV) (k : Int) : ((x.mark k).R.Old.B.map f).take x.R.Old.B.length = (x.mark k).R.Old.B.map f := by rw [← x.mark_R_Old_B k, take_map]
theorem RecV.mark_R_New_B (x : RecV) (k : Int) : (x.mark k).R.New.B.length = x.R.New.B.length := by simp [RecV.mark, RowV.mark, CellV.mark, marks_length, markL_length]
theorem RecV.take_R_New_B {β : Type} (f : UInt8 → β) (x : RecV) (k : Int) : ((x.mark k).R.New.B.map f).take x.R.New.B.length = (x.mark k).R.New.B.map f := by rw [← x.mark_R_New_B k, take_map]
theorem RecV.far_le {x : RecV} (hx : x.Len) (k : Int) : k ≤ x.far k ∧ x.far k ≤ k + 4194304 := by
  have h0 : x.R.Len := hx
  have w0 := RowV.far_le h0 k
  simp only [RecV.far]
  omega
structure ActV where
  Kind : Int
  Who : Int
  Seq : Int
  Key : ByteArray
  Text : ByteArray
  Code : Int
  deriving DecidableEq
abbrev ActV.row (x : ActV) : List Go.X.T := [iT x.Kind, iT x.Who, iT x.Seq, sT x.Key, sT x.Text, iT x.Code]
def ActV.In (n : Nat) (x : ActV) : Prop := x.Key.size ≤ n ∧ x.Text.size ≤ n
theorem ActV.In.mono {x : ActV} {n m : Nat} (h : x.In n) (hn : n ≤ m) : x.In m := by
  simp only [ActV.In] at h ⊢
  exact ⟨Nat.le_trans h.1 hn, Nat.le_trans h.2 hn⟩
def szAct (x : ActV) (k : Int) : Int := szAll [(fun k => k - (x.Key.size : Nat)), (fun k => k - (x.Text.size : Nat))] k
theorem szAct_sane (x : ActV) : Sane (szAct x) := Sane.all (.cons (Sane.sub _) (.cons (Sane.sub _) .nil))
theorem szAct_in {x : ActV} {k : Int} {n : Nat} (hk : 0 ≤ k) (hn : k ≤ n) (h : 0 ≤ szAct x k) : x.In n := by
  obtain ⟨⟨j0, a0, b0, c0⟩, ⟨j1, a1, b1, c1⟩, _⟩ := szAll_ex (.cons (Sane.sub _) (.cons (Sane.sub _) .nil)) hk hn h
  exact ⟨(by have q : (0 : Int) ≤ j0 - _ := c0; omega), (by have q : (0 : Int) ≤ j1 - _ := c1; omega)⟩
def mkAct (k : Int) : ActV := ⟨k, k + 1, k + 1 + 1, mkS (k + 1 + 1 + 1), mkS (k + 1 + 1 + 1 + 1), k + 1 + 1 + 1 + 1 + 1⟩
end Go.X

/- F -/
namespace Go.X
set_option maxRecDepth 100000
set_option maxHeartbeats 8000000
/-- n lies between. -/
def win (n a b : Int) : Bool := decide (n ≥ a) && decide (n ≤ b)
def x_i_within : FnX := ⟨15, [.tmp 6],
  .seq (.reg [⟨none, some 6, 6, .mv (.k (.one (.pv (.bool false))))⟩])
 (.seq (.reg [⟨none, some 7, 7, .mv (.t 0)⟩,
   ⟨none, some 8, 8, .mv (.t 1)⟩,
   ⟨none, some 9, 9, .bin .geq (.t 7) (.t 8)⟩,
   ⟨none, some 10, 10, .mv (.t 9)⟩,
   ⟨(some (10, true)), some 11, 11, .mv (.t 0)⟩,
   ⟨(some (10, true)), some 12, 12, .mv (.t 2)⟩,
   ⟨(some (10, true)), some 13, 13, .bin .leq (.t 11) (.t 12)⟩,
   ⟨none, some 14, 14, .pick (.t 10) (.t 13) (.k (.one (.pv (.bool false))))⟩,
   ⟨none, some 6, 6, .mv (.t 14)⟩])
 (.ret))⟩
abbrev C_i_within (Te : Nat → List AV → Res → Prop) : Prop := ∀ (n a b : Int), Te 58 [.one (iT n), .one (iT a), .one (iT b)] ⟨[.one (bT (win n a b))], [[iT n], [iT a], [iT b]]⟩
theorem r_i_within {Te : Nat → List AV → Res → Prop} : ∀ (n a b : Int), RunFn Te x_i_within [.one (iT n), .one (iT a), .one (iT b)] ⟨[.one (bT (win n a b))], [[iT n], [iT a], [iT b]]⟩ := by
  intro n a b
  refine ⟨by simp -implicitDefEqProofs (maxSteps := 1000000) only [x_i_within, go_sem], ?_⟩
  simp -implicitDefEqProofs (maxSteps := 1000000) only [x_i_within, go_sem]
  refine bif_cases (fun h => ?_) (fun h => ?_) <;> simp -implicitDefEqProofs (maxSteps := 1000000) only [h, go_sem, win]
def x_s_l1In : FnX := ⟨15, [.tmp 6],
  .seq (.reg [⟨none, some 6, 6, .mv (.k (.one (.pv (.bool false))))⟩])
 (.seq (.reg [⟨none, some 7, 7, .mv (.t 0)⟩,
   ⟨none, some 8, 8, .mv (.t 1)⟩,
   ⟨none, some 9, 9, .bin .geq (.t 7) (.t 8)⟩,
   ⟨none, some 10, 10, .mv (.t 9)⟩,
   ⟨(some (10, true)), some 11, 11, .mv (.t 0)⟩,
   ⟨(some (10, true)), some 12, 12, .mv (.t 2)⟩,
   ⟨(some (10, true)), some 13, 13, .bin .leq (.t 11) (.t 12)⟩,
   ⟨none, some 14, 14, .pick (.t 10) (.t 13) (.k (.one (.pv (.bool false))))⟩,
   ⟨none, some 6, 6, .mv (.t 14)⟩])
 (.ret))⟩
abbrev C_s_l1In (Te : Nat → List AV → Res → Prop) : Prop := ∀ (n a b : Int), Te 59 [.one (iT n), .one (iT a), .one (iT b)] ⟨[.one (bT (win n a b))], [[iT n], [iT a], [iT b]]⟩
theorem r_s_l1In {Te : Nat → List AV → Res → Prop} : ∀ (n a b : Int), RunFn Te x_s_l1In [.one (iT n), .one (iT a), .one (iT b)] ⟨[.one (bT (win n a b))], [[iT n], [iT a], [iT b]]⟩ := by
  intro n a b
  refine ⟨by simp -implicitDefEqProofs (maxSteps := 1000000) only [x_s_l1In, go_sem], ?_⟩
  simp -implicitDefEqProofs (maxSteps := 1000000) only [x_s_l1In, go_sem]
  refine bif_cases (fun h => ?_) (fun h => ?_) <;> simp -implicitDefEqProofs (maxSteps := 1000000) only [h, go_sem, win]
def x_i_isWord : FnX := ⟨5, [.tmp 2],
  .seq (.reg [⟨none, some 2, 2, .mv (.k (.one (.pv (.bool false))))⟩])
 (.seq (.reg [⟨none, some 3, 3, .mv (.t 0)⟩,
   ⟨none, some 4, 4, .call 58 [0, 0, 0] [(.t 3), (.k (.one (.pv (.int .i64 0)))), (.k (.one (.pv (.int .i64 65535))))]⟩,
   ⟨none, some 2, 2, .mv (.t 4)⟩])
 (.ret))⟩
abbrev C_i_isWord (Te : Nat → List AV → Res → Prop) : Prop := ∀ (n : Int), Te 76 [.one (iT n)] ⟨[.one (bT (win n 0 65535))], [[iT n]]⟩
theorem r_i_isWord {Te : Nat → List AV → Res → Prop} (c_i_within : C_i_within Te) : ∀ (n : Int), RunFn Te x_i_isWord [.one (iT n)] ⟨[.one (bT (win n 0 65535))], [[iT n]]⟩ := by
  intro n
  refine ⟨by simp -implicitDefEqProofs (maxSteps := 1000000) only [x_i_isWord, go_sem], ?_⟩
  simp -implicitDefEqProofs (maxSteps := 1000000) only [x_i_isWord, go_sem]
  refine .of (c_i_within _ _ _) ?_
  simp -implicitDefEqProofs (maxSteps := 1000000) only [go_sem]
def x_s_l1Word : FnX := ⟨5, [.tmp 2],
  .seq (.reg [⟨none, some 2, 2, .mv (.k (.one (.pv (.bool false))))⟩])
 (.seq (.reg [⟨none, some 3, 3, .mv (.t 0)⟩,
   ⟨none, some 4, 4, .call 59 [0, 0, 0] [(.t 3), (.k (.one (.pv (.int .i64 0)))), (.k (.one (.pv (.int .i64 65535))))]⟩,
   ⟨none, some 2, 2, .mv (.t 4)⟩])
 (.ret))⟩
abbrev C_s_l1Word (Te : Nat → List AV → Res → Prop) : Prop := ∀ (n : Int), Te 77 [.one (iT n)] ⟨[.one (bT (win n 0 65535))], [[iT n]]⟩
theorem r_s_l1Word {Te : Nat → List AV → Res → Prop} (c_s_l1In : C_s_l1In Te) : ∀ (n : Int), RunFn Te x_s_l1Word [.one (iT n)] ⟨[.one (bT (win n 0 65535))], [[iT n]]⟩ := by
  intro n
  refine ⟨by simp -implicitDefEqProofs (maxSteps := 1000000) only [x_s_l1Word, go_sem], ?_⟩
  simp -implicitDefEqProofs (maxSteps := 1000000) only [x_s_l1Word, go_sem]
  refine .of (c_s_l1In _ _ _) ?_
  simp -implicitDefEqProofs (maxSteps := 1000000) only [go_sem]
def Msg.ok (m : Msg) : Bool := win m.Kind 1 9 && win m.From 0 4 && win m.To 0 4 && (m.From != m.To) && win m.Seq 0 65535 && decide ((m.Key.size : Int) ≤ 60) && decide ((m.Text.size : Int) ≤ 60) && win m.N 0 255 && win m.Code 0 6
def x_i_MsgOk : FnX := ⟨50, [.tmp 2],
  .seq (.reg [⟨none, some 1, 1, .box (.t 0)⟩,
   ⟨none, some 2, 2, .mv (.k (.one (.pv (.bool false))))⟩])
 (.seq (.reg [⟨none, some 3, 3, .faddr (.t 1) 0⟩,
   ⟨none, some 4, 4, .load none (.t 3)⟩,
   ⟨none, some 5, 5, .call 58 [0, 0, 0] [(.t 4), (.k (.one (.pv (.int .i64 1)))), (.k (.one (.pv (.int .i64 9))))]⟩,
   ⟨none, some 6, 6, .mv (.t 5)⟩,
   ⟨(some (6, true)), some 7, 7, .faddr (.t 1) 1⟩,
   ⟨(some (6, true)), some 8, 8, .load none (.t 7)⟩,
   ⟨(some (6, true)), some 9, 9, .call 58 [0, 0, 0] [(.t 8), (.k (.one (.pv (.int .i64 0)))), (.k (.one (.pv (.int .i64 4))))]⟩,
   ⟨none, some 10, 10, .pick (.t 6) (.t 9) (.k (.one (.pv (.bool false))))⟩,
   ⟨none, some 11, 11, .mv (.t 10)⟩,
   ⟨(some (11, true)), some 12, 12, .faddr (.t 1) 2⟩,
   ⟨(some (11, true)), some 13, 13, .load none (.t 12)⟩,
   ⟨(some (11, true)), some 14, 14, .call 58 [0, 0, 0] [(.t 13), (.k (.one (.pv (.int .i64 0)))), (.k (.one (.pv (.int .i64 4))))]⟩,
   ⟨none, some 15, 15, .pick (.t 11) (.t 14) (.k (.one (.pv (.bool false))))⟩,
   ⟨none, some 16, 16, .mv (.t 15)⟩,
   ⟨(some (16, true)), some 17, 17, .faddr (.t 1) 1⟩,
   ⟨(some (16, true)), some 18, 18, .load none (.t 17)⟩,
   ⟨(some (16, true)), some 19, 19, .faddr (.t 1) 2⟩,
   ⟨(some (16, true)), some 20, 20, .load none (.t 19)⟩,
   ⟨(some (16, true)), some 21, 21, .bin .neq (.t 18) (.t 20)⟩,
   ⟨none, some 22, 22, .pick (.t 16) (.t 21) (.k (.one (.pv (.bool false))))⟩,
   ⟨none, some 23, 23, .mv (.t 22)⟩,
   ⟨(some (23, true)), some 24, 24, .faddr (.t 1) 3⟩,
   ⟨(some (23, true)), some 25, 25, .load none (.t 24)⟩,
   ⟨(some (23, true)), some 26, 26, .call 76 [0] [(.t 25)]⟩,
   ⟨none, some 27, 27, .pick (.t 23) (.t 26) (.k (.one (.pv (.bool false))))⟩,
   ⟨none, some 28, 28, .mv (.t 27)⟩,
   ⟨(some (28, true)), some 29, 29, .faddr (.t 1) 4⟩,
   ⟨(some (28, true)), some 30, 30, .load none (.t 29)⟩,
   ⟨(some (28, true)), some 31, 31, .slen (.t 30)⟩,
   ⟨(some (28, true)), some 32, 32, .bin .leq (.t 31) (.k (.one (.pv (.int .i64 60))))⟩,
   ⟨none, some 33, 33, .pick (.t 28) (.t 32) (.k (.one (.pv (.bool false))))⟩,
   ⟨none, some 34, 34, .mv (.t 33)⟩,
   ⟨(some (34, true)), some 35, 35, .faddr (.t 1) 5⟩,
   ⟨(some (34, true)), some 36, 36, .load none (.t 35)⟩,
   ⟨(some (34, true)), some 37, 37, .slen (.t 36)⟩,
   ⟨(some (34, true)), some 38, 38, .bin .leq (.t 37) (.k (.one (.pv (.int .i64 60))))⟩,
   ⟨none, some 39, 39, .pick (.t 34) (.t 38) (.k (.one (.pv (.bool false))))⟩,
   ⟨none, some 40, 40, .mv (.t 39)⟩,
   ⟨(some (40, true)), some 41, 41, .faddr (.t 1) 6⟩,
   ⟨(some (40, true)), some 42, 42, .load none (.t 41)⟩,
   ⟨(some (40, true)), some 43, 43, .call 58 [0, 0, 0] [(.t 42), (.k (.one (.pv (.int .i64 0)))), (.k (.one (.pv (.int .i64 255))))]⟩,
   ⟨none, some 44, 44, .pick (.t 40) (.t 43) (.k (.one (.pv (.bool false))))⟩,
   ⟨none, some 45, 45, .mv (.t 44)⟩,
   ⟨(some (45, true)), some 46, 46, .faddr (.t 1) 7⟩,
   ⟨(some (45, true)), some 47, 47, .load none (.t 46)⟩,
   ⟨(some (45, true)), some 48, 48, .call 58 [0, 0, 0] [(.t 47), (.k (.one (.pv (.int .i64 0)))), (.k (.one (.pv (.int .i64 6))))]⟩,
   ⟨none, some 49, 49, .pick (.t 45) (.t 48) (.k (.one (.pv (.bool false))))⟩,
   ⟨none, some 2, 2, .mv (.t 49)⟩])
 (.ret))⟩
abbrev C_i_MsgOk (Te : Nat → List AV → Res → Prop) : Prop := ∀ (m : Msg), Te 50 [.agg m.row] ⟨[.one (bT m.ok)], [m.row]⟩
theorem r_i_MsgOk {Te : Nat → List AV → Res → Prop} (c_i_within : C_i_within Te) (c_i_isWord : C_i_isWord Te) : ∀ (m : Msg), RunFn Te x_i_MsgOk [.agg m.row] ⟨[.one (bT m.ok)], [m.row]⟩ := by
  intro m
  refine ⟨by simp -implicitDefEqProofs (maxSteps := 1000000) only [x_i_MsgOk, go_sem], ?_⟩
  simp -implicitDefEqProofs (maxSteps := 1000000) only [x_i_MsgOk, go_sem, Msg.ok]
  refine .of (c_i_within _ _ _) ?_
  simp -implicitDefEqProofs (maxSteps := 1000000) only [go_sem]
  refine bif_cases (fun h1 => ?_) (fun h1 => ?_) <;> simp -implicitDefEqProofs (maxSteps := 1000000) only [h1, go_sem]
  refine .of (c_i_within _ _ _) ?_
  simp -implicitDefEqProofs (maxSteps := 1000000) only [go_sem]
  refine bif_cases (fun h2 => ?_) (fun h2 => ?_) <;> simp -implicitDefEqProofs (maxSteps := 1000000) only [h2, go_sem]
  refine .of (c_i_within _ _ _) ?_
  simp -implicitDefEqProofs (maxSteps := 1000000) only [go_sem]
  refine bif_cases (fun h3 => ?_) (fun h3 => ?_) <;> simp -implicitDefEqProofs (maxSteps := 1000000) only [h3, go_sem]
  refine bif_cases (fun h4 => ?_) (fun h4 => ?_) <;> simp -implicitDefEqProofs (maxSteps := 1000000) only [h4, go_sem]
  refine .of (c_i_isWord _) ?_
  simp -implicitDefEqProofs (maxSteps := 1000000) only [go_sem]
  refine bif_cases (fun h5 => ?_) (fun h5 => ?_) <;> simp -implicitDefEqProofs (maxSteps := 1000000) only [h5, go_sem]
  refine bif_cases (fun h6 => ?_) (fun h6 => ?_) <;> simp -implicitDefEqProofs (maxSteps := 1000000) only [h6, go_sem]
  refine bif_cases (fun h7 => ?_) (fun h7 => ?_) <;> simp -implicitDefEqProofs (maxSteps := 1000000) only [h7, go_sem]
  refine .of (c_i_within _ _ _) ?_
  simp -implicitDefEqProofs (maxSteps := 1000000) only [go_sem]
  refine bif_cases (fun h8 => ?_) (fun h8 => ?_) <;> simp -implicitDefEqProofs (maxSteps := 1000000) only [h8, go_sem]
  refine .of (c_i_within _ _ _) ?_
  simp -implicitDefEqProofs (maxSteps := 1000000) only [go_sem]
def x_s_MsgOk : FnX := ⟨50, [.tmp 2],
  .seq (.reg [⟨none, some 1, 1, .box (.t 0)⟩,
   ⟨none, some 2, 2, .mv (.k (.one (.pv (.bool false))))⟩])
 (.seq (.reg [⟨none, some 3, 3, .faddr (.t 1) 0⟩,
   ⟨none, some 4, 4, .load none (.t 3)⟩,
   ⟨none, some 5, 5, .call 59 [0, 0, 0] [(.t 4), (.k (.one (.pv (.int .i64 1)))), (.k (.one (.pv (.int .i64 9))))]⟩,
   ⟨none, some 6, 6, .mv (.t 5)⟩,
   ⟨(some (6, true)), some 7, 7, .faddr (.t 1) 1⟩,
   ⟨(some (6, true)), some 8, 8, .load none (.t 7)⟩,
   ⟨(some (6, true)), some 9, 9, .call 59 [0, 0, 0] [(.t 8), (.k (.one (.pv (.int .i64 0)))), (.k (.one (.pv (.int .i64 4))))]⟩,
   ⟨none, some 10, 10, .pick (.t 6) (.t 9) (.k (.one (.pv (.bool false))))⟩,
   ⟨none, some 11, 11, .mv (.t 10)⟩,
   ⟨(some (11, true)), some 12, 12, .faddr (.t 1) 2⟩,
   ⟨(some (11, true)), some 13, 13, .load none (.t 12)⟩,
   ⟨(some (11, true)), some 14, 14, .call 59 [0, 0, 0] [(.t 13), (.k (.one (.pv (.int .i64 0)))), (.k (.one (.pv (.int .i64 4))))]⟩,
   ⟨none, some 15, 15, .pick (.t 11) (.t 14) (.k (.one (.pv (.bool false))))⟩,
   ⟨none, some 16, 16, .mv (.t 15)⟩,
   ⟨(some (16, true)), some 17, 17, .faddr (.t 1) 1⟩,
   ⟨(some (16, true)), some 18, 18, .load none (.t 17)⟩,
   ⟨(some (16, true)), some 19, 19, .faddr (.t 1) 2⟩,
   ⟨(some (16, true)), some 20, 20, .load none (.t 19)⟩,
   ⟨(some (16, true)), some 21, 21, .bin .neq (.t 18) (.t 20)⟩,
   ⟨none, some 22, 22, .pick (.t 16) (.t 21) (.k (.one (.pv (.bool false))))⟩,
   ⟨none, some 23, 23, .mv (.t 22)⟩,
   ⟨(some (23, true)), some 24, 24, .faddr (.t 1) 3⟩,
   ⟨(some (23, true)), some 25, 25, .load none (.t 24)⟩,
   ⟨(some (23, true)), some 26, 26, .call 77 [0] [(.t 25)]⟩,
   ⟨none, some 27, 27, .pick (.t 23) (.t 26) (.k (.one (.pv (.bool false))))⟩,
   ⟨none, some 28, 28, .mv (.t 27)⟩,
   ⟨(some (28, true)), some 29, 29, .faddr (.t 1) 4⟩,
   ⟨(some (28, true)), some 30, 30, .load none (.t 29)⟩,
   ⟨(some (28, true)), some 31, 31, .slen (.t 30)⟩,
   ⟨(some (28, true)), some 32, 32, .bin .leq (.t 31) (.k (.one (.pv (.int .i64 60))))⟩,
   ⟨none, some 33, 33, .pick (.t 28) (.t 32) (.k (.one (.pv (.bool false))))⟩,
   ⟨none, some 34, 34, .mv (.t 33)⟩,
   ⟨(some (34, true)), some 35, 35, .faddr (.t 1) 5⟩,
   ⟨(some (34, true)), some 36, 36, .load none (.t 35)⟩,
   ⟨(some (34, true)), some 37, 37, .slen (.t 36)⟩,
   ⟨(some (34, true)), some 38, 38, .bin .leq (.t 37) (.k (.one (.pv (.int .i64 60))))⟩,
   ⟨none, some 39, 39, .pick (.t 34) (.t 38) (.k (.one (.pv (.bool false))))⟩,
   ⟨none, some 40, 40, .mv (.t 39)⟩,
   ⟨(some (40, true)), some 41, 41, .faddr (.t 1) 6⟩,
   ⟨(some (40, true)), some 42, 42, .load none (.t 41)⟩,
   ⟨(some (40, true)), some 43, 43, .call 59 [0, 0, 0] [(.t 42), (.k (.one (.pv (.int .i64 0)))), (.k (.one (.pv (.int .i64 255))))]⟩,
   ⟨none, some 44, 44, .pick (.t 40) (.t 43) (.k (.one (.pv (.bool false))))⟩,
   ⟨none, some 45, 45, .mv (.t 44)⟩,
   ⟨(some (45, true)), some 46, 46, .faddr (.t 1) 7⟩,
   ⟨(some (45, true)), some 47, 47, .load none (.t 46)⟩,
   ⟨(some (45, true)), some 48, 48, .call 59 [0, 0, 0] [(.t 47), (.k (.one (.pv (.int .i64 0)))), (.k (.one (.pv (.int .i64 6))))]⟩,
   ⟨none, some 49, 49, .pick (.t 45) (.t 48) (.k (.one (.pv (.bool false))))⟩,
   ⟨none, some 2, 2, .mv (.t 49)⟩])
 (.ret))⟩
abbrev C_s_MsgOk (Te : Nat → List AV → Res → Prop) : Prop := ∀ (m : Msg), Te 55 [.agg m.row] ⟨[.one (bT m.ok)], [m.row]⟩
theorem r_s_MsgOk {Te : Nat → List AV → Res → Prop} (c_s_l1In : C_s_l1In Te) (c_s_l1Word : C_s_l1Word Te) : ∀ (m : Msg), RunFn Te x_s_MsgOk [.agg m.row] ⟨[.one (bT m.ok)], [m.row]⟩ := by
  intro m
  refine ⟨by simp -implicitDefEqProofs (maxSteps := 1000000) only [x_s_MsgOk, go_sem], ?_⟩
  simp -implicitDefEqProofs (maxSteps := 1000000) only [x_s_MsgOk, go_sem, Msg.ok]
  refine .of (c_s_l1In _ _ _) ?_
  simp -implicitDefEqProofs (maxSteps := 1000000) only [go_sem]
  refine bif_cases (fun h1 => ?_) (fun h1 => ?_) <;> simp -implicitDefEqProofs (maxSteps := 1000000) only [h1, go_sem]
  refine .of (c_s_l1In _ _ _) ?_
  simp -implicitDefEqProofs (maxSteps := 1000000) only [go_sem]
  refine bif_cases (fun h2 => ?_) (fun h2 => ?_) <;> simp -implicitDefEqProofs (maxSteps := 1000000) only [h2, go_sem]
  refine .of (c_s_l1In _ _ _) ?_
  simp -implicitDefEqProofs (maxSteps := 1000000) only [go_sem]
  refine bif_cases (fun h3 => ?_) (fun h3 => ?_) <;> simp -implicitDefEqProofs (maxSteps := 1000000) only [h3, go_sem]
  refine bif_cases (fun h4 => ?_) (fun h4 => ?_) <;> simp -implicitDefEqProofs (maxSteps := 1000000) only [h4, go_sem]
  refine .of (c_s_l1Word _) ?_
  simp -implicitDefEqProofs (maxSteps := 1000000) only [go_sem]
  refine bif_cases (fun h5 => ?_) (fun h5 => ?_) <;> simp -implicitDefEqProofs (maxSteps := 1000000) only [h5, go_sem]
  refine bif_cases (fun h6 => ?_) (fun h6 => ?_) <;> simp -implicitDefEqProofs (maxSteps := 1000000) only [h6, go_sem]
  refine bif_cases (fun h7 => ?_) (fun h7 => ?_) <;> simp -implicitDefEqProofs (maxSteps := 1000000) only [h7, go_sem]
  refine .of (c_s_l1In _ _ _) ?_
  simp -implicitDefEqProofs (maxSteps := 1000000) only [go_sem]
  refine bif_cases (fun h8 => ?_) (fun h8 => ?_) <;> simp -implicitDefEqProofs (maxSteps := 1000000) only [h8, go_sem]
  refine .of (c_s_l1In _ _ _) ?_
  simp -implicitDefEqProofs (maxSteps := 1000000) only [go_sem]
end Go.X

/- G -/
namespace Go.X
set_option maxRecDepth 100000
set_option maxHeartbeats 8000000
def Lead.ok (l : Lead) : Bool := win l.Phase 0 7 && ((l.Acked.length : Int) == 2) && ((l.Ended.length : Int) == 2) && ((l.At.length : Int) == 2) && l.At.all (fun s => decide ((s.size : Int) ≤ 60))
def leadIn (p : Int) : Lead := ⟨p, [false, false], [false, false], [⟨#[]⟩, ⟨#[]⟩]⟩
theorem leadIn_In (p : Int) : (leadIn p).In 2 := by
  refine ⟨Nat.le_refl _, Nat.le_refl _, Nat.le_refl _, fun y hy => ?_⟩
  simp only [leadIn, List.mem_cons, List.not_mem_nil, or_false, or_self] at hy
  subst hy
  decide
def x_i_leadIn : FnX := ⟨8, [.cell 2 (some 4)],
  .seq (.reg [⟨none, some 2, 2, .alloc [.pv (.int .i64 0), .nils 1, .nils 1, .nils 1]⟩])
 (.seq (.draw [⟨none, some 3, 3, .mv (.t 0)⟩,
   ⟨none, some 4, 4, .mks 1 1 [.pv (.bool false)] (.k (.one (.pv (.int .i64 2))))⟩,
   ⟨none, some 5, 5, .mks 1 1 [.pv (.bool false)] (.k (.one (.pv (.int .i64 2))))⟩,
   ⟨none, some 6, 6, .mks 1 16 [.pv (.string ⟨#[]⟩)] (.k (.one (.pv (.int .i64 2))))⟩,
   ⟨none, some 7, 7, .build [.pv (.int .i64 0), .nils 1, .nils 1, .nils 1] [(0, 1, (.t 3)), (1, 1, (.t 4)), (2, 1, (.t 5)), (3, 1, (.t 6))]⟩,
   ⟨none, none, 100001, .store 4 (.t 2) (.t 7)⟩] [[], [], [], [], [0, 1, 2, 3], [4, 0, 1, 2, 3, 4]])
 (.ret))⟩
abbrev C_i_leadIn (Te : Nat → List AV → Res → Prop) : Prop := ∀ (p : Int), Te 63 [.one (iT p)] ⟨[.agg ((leadIn p).enc true)], [[iT p]]⟩
theorem r_i_leadIn {Te : Nat → List AV → Res → Prop} : ∀ (p : Int), RunFn Te x_i_leadIn [.one (iT p)] ⟨[.agg ((leadIn p).enc true)], [[iT p]]⟩ := by
  intro p
  refine ⟨by simp -implicitDefEqProofs (maxSteps := 1000000) only [x_i_leadIn, go_sem], ?_⟩
  simp -implicitDefEqProofs (maxSteps := 1000000) only [x_i_leadIn, go_sem]
  exact ⟨rfl, rfl⟩
def x_s_l19At : FnX := ⟨8, [.cell 2 (some 4)],
  .seq (.reg [⟨none, some 2, 2, .alloc [.pv (.int .i64 0), .nils 1, .nils 1, .nils 1]⟩])
 (.seq (.draw [⟨none, some 3, 3, .mv (.t 0)⟩,
   ⟨none, some 4, 4, .mks 1 1 [.pv (.bool false)] (.k (.one (.pv (.int .i64 2))))⟩,
   ⟨none, some 5, 5, .mks 1 1 [.pv (.bool false)] (.k (.one (.pv (.int .i64 2))))⟩,
   ⟨none, some 6, 6, .mks 1 16 [.pv (.string ⟨#[]⟩)] (.k (.one (.pv (.int .i64 2))))⟩,
   ⟨none, some 7, 7, .build [.pv (.int .i64 0), .nils 1, .nils 1, .nils 1] [(0, 1, (.t 3)), (1, 1, (.t 4)), (2, 1, (.t 5)), (3, 1, (.t 6))]⟩,
   ⟨none, none, 100001, .store 4 (.t 2) (.t 7)⟩] [[], [], [], [], [0, 1, 2, 3], [4, 0, 1, 2, 3, 4]])
 (.ret))⟩
abbrev C_s_l19At (Te : Nat → List AV → Res → Prop) : Prop := ∀ (p : Int), Te 65 [.one (iT p)] ⟨[.agg ((leadIn p).enc true)], [[iT p]]⟩
theorem r_s_l19At {Te : Nat → List AV → Res → Prop} : ∀ (p : Int), RunFn Te x_s_l19At [.one (iT p)] ⟨[.agg ((leadIn p).enc true)], [[iT p]]⟩ := by
  intro p
  refine ⟨by simp -implicitDefEqProofs (maxSteps := 1000000) only [x_s_l19At, go_sem], ?_⟩
  simp -implicitDefEqProofs (maxSteps := 1000000) only [x_s_l19At, go_sem]
  exact ⟨rfl, rfl⟩
def x_i_Forget : FnX := ⟨6, [.cell 2 (some 4)],
  .seq (.reg [⟨none, some 1, 1, .box (.t 0)⟩,
   ⟨none, some 2, 2, .alloc [.pv (.int .i64 0), .nils 1, .nils 1, .nils 1]⟩])
 (.seq (.reg [⟨none, some 3, 3, .faddr (.t 1) 0⟩,
   ⟨none, some 4, 4, .load none (.t 3)⟩,
   ⟨none, some 5, 5, .call 63 [0] [(.t 4)]⟩,
   ⟨none, none, 100001, .store 4 (.t 2) (.t 5)⟩])
 (.ret))⟩
abbrev C_i_Forget (Te : Nat → List AV → Res → Prop) : Prop := ∀ (l : Lead), Te 39 [.agg (l.enc false)] ⟨[.agg ((leadIn l.Phase).enc true)], [l.enc false]⟩
theorem r_i_Forget {Te : Nat → List AV → Res → Prop} (c_i_leadIn : C_i_leadIn Te) : ∀ (l : Lead), RunFn Te x_i_Forget [.agg (l.enc false)] ⟨[.agg ((leadIn l.Phase).enc true)], [l.enc false]⟩ := by
  intro l
  refine ⟨by simp -implicitDefEqProofs (maxSteps := 1000000) only [x_i_Forget, go_sem], ?_⟩
  simp -implicitDefEqProofs (maxSteps := 1000000) only [x_i_Forget, go_sem]
  refine .of (c_i_leadIn _) ?_
  simp -implicitDefEqProofs (maxSteps := 1000000) only [go_sem]
def x_s_Forget : FnX := ⟨6, [.cell 2 (some 4)],
  .seq (.reg [⟨none, some 1, 1, .box (.t 0)⟩,
   ⟨none, some 2, 2, .alloc [.pv (.int .i64 0), .nils 1, .nils 1, .nils 1]⟩])
 (.seq (.reg [⟨none, some 3, 3, .faddr (.t 1) 0⟩,
   ⟨none, some 4, 4, .load none (.t 3)⟩,
   ⟨none, some 5, 5, .call 65 [0] [(.t 4)]⟩,
   ⟨none, none, 100001, .store 4 (.t 2) (.t 5)⟩])
 (.ret))⟩
abbrev C_s_Forget (Te : Nat → List AV → Res → Prop) : Prop := ∀ (l : Lead), Te 40 [.agg (l.enc false)] ⟨[.agg ((leadIn l.Phase).enc true)], [l.enc false]⟩
theorem r_s_Forget {Te : Nat → List AV → Res → Prop} (c_s_l19At : C_s_l19At Te) : ∀ (l : Lead), RunFn Te x_s_Forget [.agg (l.enc false)] ⟨[.agg ((leadIn l.Phase).enc true)], [l.enc false]⟩ := by
  intro l
  refine ⟨by simp -implicitDefEqProofs (maxSteps := 1000000) only [x_s_Forget, go_sem], ?_⟩
  simp -implicitDefEqProofs (maxSteps := 1000000) only [x_s_Forget, go_sem]
  refine .of (c_s_l19At _) ?_
  simp -implicitDefEqProofs (maxSteps := 1000000) only [go_sem]
def x_i_copyLead : FnX := ⟨18, [.cell 2 (some 4)],
  .seq (.reg [⟨none, some 1, 1, .box (.t 0)⟩,
   ⟨none, some 2, 2, .alloc [.pv (.int .i64 0), .nils 1, .nils 1, .nils 1]⟩])
 (.seq (.draw [⟨none, some 3, 3, .faddr (.t 1) 0⟩,
   ⟨none, some 4, 4, .load none (.t 3)⟩,
   ⟨none, some 5, 5, .bslice 1 []⟩,
   ⟨none, some 6, 6, .faddr (.t 1) 1⟩,
   ⟨none, some 7, 7, .load none (.t 6)⟩,
   ⟨none, some 8, 8, .app 1 1 (.t 5) (.t 7)⟩,
   ⟨none, some 9, 9, .bslice 1 []⟩,
   ⟨none, some 10, 10, .faddr (.t 1) 2⟩,
   ⟨none, some 11, 11, .load none (.t 10)⟩,
   ⟨none, some 12, 12, .app 1 1 (.t 9) (.t 11)⟩,
   ⟨none, some 13, 13, .bslice 1 []⟩,
   ⟨none, some 14, 14, .faddr (.t 1) 3⟩,
   ⟨none, some 15, 15, .load none (.t 14)⟩,
   ⟨none, some 16, 16, .app 1 16 (.t 13) (.t 15)⟩,
   ⟨none, some 17, 17, .build [.pv (.int .i64 0), .nils 1, .nils 1, .nils 1] [(0, 1, (.t 4)), (1, 1, (.t 8)), (2, 1, (.t 12)), (3, 1, (.t 16))]⟩,
   ⟨none, none, 100001, .store 4 (.t 2) (.t 17)⟩] [[], [0], [], [], [3], [2, 4], [], [], [7], [6, 8, 5], [], [], [11], [10, 12, 9], [1, 5, 9, 13], [14, 13, 0, 1, 2, 3, 4, 5, 6, 7, 8, 9, 10, 11, 12, 13, 14]])
 (.ret))⟩
abbrev C_i_copyLead (Te : Nat → List AV → Res → Prop) : Prop := ∀ (l : Lead) (h : l.In (2 ^ 31)), Te 62 [.agg (l.enc false)] ⟨[.agg (l.enc true)], [l.enc false]⟩
theorem r_i_copyLead {Te : Nat → List AV → Res → Prop} : ∀ (l : Lead) (h : l.In (2 ^ 31)), RunFn Te x_i_copyLead [.agg (l.enc false)] ⟨[.agg (l.enc true)], [l.enc false]⟩ := by
  intro l h
  refine ⟨by simp -implicitDefEqProofs (maxSteps := 1000000) only [x_i_copyLead, go_sem], ?_⟩
  obtain ⟨h0, h1, h2, _⟩ := h
  simp -implicitDefEqProofs (maxSteps := 1000000) only [x_i_copyLead, go_sem]
  have e : ∀ n : Nat, n ≤ 2 ^ 31 → decide (n * 1 ≤ 140737488355328) = true ∧ decide (n ≤ 4294967296) = true := fun n hn => ⟨decide_eq_true (by omega), decide_eq_true (by omega)⟩
  exact ⟨e _ h0, e _ h1, ⟨decide_eq_true (by omega), decide_eq_true (by omega)⟩, by decide⟩
def x_s_l19Copy : FnX := ⟨18, [.cell 2 (some 4)],
  .seq (.reg [⟨none, some 1, 1, .box (.t 0)⟩,
   ⟨none, some 2, 2, .alloc [.pv (.int .i64 0), .nils 1, .nils 1, .nils 1]⟩])
 (.seq (.draw [⟨none, some 3, 3, .faddr (.t 1) 0⟩,
   ⟨none, some 4, 4, .load none (.t 3)⟩,
   ⟨none, some 5, 5, .bslice 1 []⟩,
   ⟨none, some 6, 6, .faddr (.t 1) 1⟩,
   ⟨none, some 7, 7, .load none (.t 6)⟩,
   ⟨none, some 8, 8, .app 1 1 (.t 5) (.t 7)⟩,
   ⟨none, some 9, 9, .bslice 1 []⟩,
   ⟨none, some 10, 10, .faddr (.t 1) 2⟩,
   ⟨none, some 11, 11, .load none (.t 10)⟩,
   ⟨none, some 12, 12, .app 1 1 (.t 9) (.t 11)⟩,
   ⟨none, some 13, 13, .bslice 1 []⟩,
   ⟨none, some 14, 14, .faddr (.t 1) 3⟩,
   ⟨none, some 15, 15, .load none (.t 14)⟩,
   ⟨none, some 16, 16, .app 1 16 (.t 13) (.t 15)⟩,
   ⟨none, some 17, 17, .build [.pv (.int .i64 0), .nils 1, .nils 1, .nils 1] [(0, 1, (.t 4)), (1, 1, (.t 8)), (2, 1, (.t 12)), (3, 1, (.t 16))]⟩,
   ⟨none, none, 100001, .store 4 (.t 2) (.t 17)⟩] [[], [0], [], [], [3], [2, 4], [], [], [7], [6, 8, 5], [], [], [11], [10, 12, 9], [1, 5, 9, 13], [14, 13, 0, 1, 2, 3, 4, 5, 6, 7, 8, 9, 10, 11, 12, 13, 14]])
 (.ret))⟩
abbrev C_s_l19Copy (Te : Nat → List AV → Res → Prop) : Prop := ∀ (l : Lead) (h : l.In (2 ^ 31)), Te 64 [.agg (l.enc false)] ⟨[.agg (l.enc true)], [l.enc false]⟩
theorem r_s_l19Copy {Te : Nat → List AV → Res → Prop} : ∀ (l : Lead) (h : l.In (2 ^ 31)), RunFn Te x_s_l19Copy [.agg (l.enc false)] ⟨[.agg (l.enc true)], [l.enc false]⟩ := by
  intro l h
  refine ⟨by simp -implicitDefEqProofs (maxSteps := 1000000) only [x_s_l19Copy, go_sem], ?_⟩
  obtain ⟨h0, h1, h2, _⟩ := h
  simp -implicitDefEqProofs (maxSteps := 1000000) only [x_s_l19Copy, go_sem]
  have e : ∀ n : Nat, n ≤ 2 ^ 31 → decide (n * 1 ≤ 140737488355328) = true ∧ decide (n ≤ 4294967296) = true := fun n hn => ⟨decide_eq_true (by omega), decide_eq_true (by omega)⟩
  exact ⟨e _ h0, e _ h1, ⟨decide_eq_true (by omega), decide_eq_true (by omega)⟩, by decide⟩
def x_i_LeadOk : FnX := ⟨37, [.tmp 2],
  .seq (.reg [⟨none, some 1, 1, .box (.t 0)⟩,
   ⟨none, some 2, 2, .mv (.k (.one (.pv (.bool false))))⟩])
 (.seq (.seq (.reg [⟨none, some 5, 5, .faddr (.t 1) 3⟩,
   ⟨none, some 6, 6, .load none (.t 5)⟩,
   ⟨none, some 7, 7, .len (.t 6)⟩,
   ⟨none, some 8, 8, .mv (.k (.one (.pv (.int .i64 0))))⟩])
 (.block 0 (.loop [1, 6, 7, 8] (.seq (.reg [⟨none, some 9, 9, .bin .lss (.t 8) (.t 7)⟩])
 (.seq (.cond 9 (.skip) (.exit 0))
 (.seq (.block 1 (.seq (.reg [⟨none, some 10, 10, .iaddr 1 (.t 6) (.t 8)⟩,
   ⟨none, some 11, 11, .load none (.t 10)⟩,
   ⟨none, some 4, 4, .mv (.t 11)⟩])
 (.seq (.reg [⟨none, some 12, 12, .mv (.t 4)⟩,
   ⟨none, some 13, 13, .slen (.t 12)⟩,
   ⟨none, some 14, 14, .bin .gtr (.t 13) (.k (.one (.pv (.int .i64 60))))⟩])
 (.cond 14 (.seq (.reg [⟨none, some 2, 2, .mv (.k (.one (.pv (.bool false))))⟩])
 (.ret)) (.skip)))))
 (.reg [⟨none, some 15, 15, .bin .add (.t 8) (.k (.one (.pv (.int .i64 1))))⟩,
   ⟨none, some 8, 8, .mv (.t 15)⟩])))))))
 (.norm [1] (.seq (.reg [⟨none, some 16, 16, .faddr (.t 1) 0⟩,
   ⟨none, some 17, 17, .load none (.t 16)⟩,
   ⟨none, some 18, 18, .call 58 [0, 0, 0] [(.t 17), (.k (.one (.pv (.int .i64 0)))), (.k (.one (.pv (.int .i64 7))))]⟩,
   ⟨none, some 19, 19, .mv (.t 18)⟩,
   ⟨(some (19, true)), some 20, 20, .faddr (.t 1) 1⟩,
   ⟨(some (19, true)), some 21, 21, .load none (.t 20)⟩,
   ⟨(some (19, true)), some 22, 22, .len (.t 21)⟩,
   ⟨(some (19, true)), some 23, 23, .bin .eql (.t 22) (.k (.one (.pv (.int .i64 2))))⟩,
   ⟨none, some 24, 24, .pick (.t 19) (.t 23) (.k (.one (.pv (.bool false))))⟩,
   ⟨none, some 25, 25, .mv (.t 24)⟩,
   ⟨(some (25, true)), some 26, 26, .faddr (.t 1) 2⟩,
   ⟨(some (25, true)), some 27, 27, .load none (.t 26)⟩,
   ⟨(some (25, true)), some 28, 28, .len (.t 27)⟩,
   ⟨(some (25, true)), some 29, 29, .bin .eql (.t 28) (.k (.one (.pv (.int .i64 2))))⟩,
   ⟨none, some 30, 30, .pick (.t 25) (.t 29) (.k (.one (.pv (.bool false))))⟩,
   ⟨none, some 31, 31, .mv (.t 30)⟩,
   ⟨(some (31, true)), some 32, 32, .faddr (.t 1) 3⟩,
   ⟨(some (31, true)), some 33, 33, .load none (.t 32)⟩,
   ⟨(some (31, true)), some 34, 34, .len (.t 33)⟩,
   ⟨(some (31, true)), some 35, 35, .bin .eql (.t 34) (.k (.one (.pv (.int .i64 2))))⟩,
   ⟨none, some 36, 36, .pick (.t 31) (.t 35) (.k (.one (.pv (.bool false))))⟩,
   ⟨none, some 2, 2, .mv (.t 36)⟩])
 (.ret))))⟩
abbrev C_i_LeadOk (Te : Nat → List AV → Res → Prop) : Prop := ∀ (l : Lead) (h : l.In (2 ^ 48)), Te 31 [.agg (l.enc false)] ⟨[.one (bT l.ok)], [l.enc false]⟩
theorem r_i_LeadOk {Te : Nat → List AV → Res → Prop} (c_i_within : C_i_within Te) : ∀ (l : Lead) (h : l.In (2 ^ 48)), RunFn Te x_i_LeadOk [.agg (l.enc false)] ⟨[.one (bT l.ok)], [l.enc false]⟩ := by
  intro l h
  refine ⟨by simp -implicitDefEqProofs (maxSteps := 1000000) only [x_i_LeadOk, go_sem], ?_⟩
  obtain ⟨h0, h1, h2, h3⟩ := h
  simp -implicitDefEqProofs (maxSteps := 1000000) only [x_i_LeadOk, go_sem, Lead.ok]
  refine loop_of (σ := Nat) (fun i => ⟨[(1, .bp 1 0), (6, .one (.ro 1 (l.At.map sR))), (7, .one (.pv (.int .i64 l.At.length))), (8, .one (.pv (.int .i64 i)))], [(1, [.pv (.int .i64 l.Phase), .ro 1 (l.Acked.map bR), .ro 1 (l.Ended.map bR), .ro 1 (l.At.map sR)])], [(0, l.enc false)]⟩) (fun i => i ≤ l.At.length ∧ (l.At.take i).all (fun s => decide ((s.size : Int) ≤ 60)) = true) (fun i => l.At.length - i) 0 ?_ ⟨Nat.zero_le _, rfl⟩ ?_
  · simp -implicitDefEqProofs (maxSteps := 1000000) only [go_sem]; rfl
  · rintro i ⟨hi, hp⟩
    simp -implicitDefEqProofs (maxSteps := 1000000) only [go_sem]
    refine ⟨fun h => ?_, fun h => ?_⟩
    · have hi' : i < l.At.length := by simp only [decide_eq_true_eq] at h; omega
      simp -implicitDefEqProofs (maxSteps := 1000000) only [go_sem, List.getElem?_eq_getElem hi']
      refine ⟨fun q => ?_, fun q => ?_⟩
      · have e := all_not (p := fun s => decide ((s.size : Int) ≤ 60)) hi' (decide_eq_false (by simp only [decide_eq_true_eq] at q; omega))
        simp only [e, Bool.and_false]
      · refine ⟨i + 1, by rw [IntWalk.i64_in _ (by omega)]; rfl, ⟨hi', all_step hi' hp (decide_eq_true (by simp only [decide_eq_false_iff_not] at q; omega))⟩, by omega⟩
    · have e := all_end (show l.At.length ≤ i by simp only [decide_eq_false_iff_not] at h; omega) hp
      simp -implicitDefEqProofs (maxSteps := 1000000) only [go_sem, e]
      refine .of (c_i_within _ _ _) ?_
      simp -implicitDefEqProofs (maxSteps := 1000000) only [go_sem]
      refine bif_cases (fun g1 => ?_) (fun g1 => ?_) <;> simp -implicitDefEqProofs (maxSteps := 1000000) only [g1, go_sem]
      refine bif_cases (fun g2 => ?_) (fun g2 => ?_) <;> simp -implicitDefEqProofs (maxSteps := 1000000) only [g2, go_sem]
      refine bif_cases (fun g3 => ?_) (fun g3 => ?_) <;> simp -implicitDefEqProofs (maxSteps := 1000000) only [g3, go_sem]
def x_s_LeadOk : FnX := ⟨40, [.tmp 2],
  .seq (.reg [⟨none, some 1, 1, .box (.t 0)⟩,
   ⟨none, some 2, 2, .mv (.k (.one (.pv (.bool false))))⟩])
 (.seq (.reg [⟨none, some 3, 3, .faddr (.t 1) 0⟩,
   ⟨none, some 4, 4, .load none (.t 3)⟩,
   ⟨none, some 5, 5, .call 59 [0, 0, 0] [(.t 4), (.k (.one (.pv (.int .i64 0)))), (.k (.one (.pv (.int .i64 7))))]⟩,
   ⟨none, some 6, 6, .mv (.t 5)⟩,
   ⟨(some (6, true)), some 7, 7, .faddr (.t 1) 1⟩,
   ⟨(some (6, true)), some 8, 8, .load none (.t 7)⟩,
   ⟨(some (6, true)), some 9, 9, .len (.t 8)⟩,
   ⟨(some (6, true)), some 10, 10, .bin .eql (.t 9) (.k (.one (.pv (.int .i64 2))))⟩,
   ⟨none, some 11, 11, .pick (.t 6) (.t 10) (.k (.one (.pv (.bool false))))⟩,
   ⟨none, some 12, 12, .mv (.t 11)⟩,
   ⟨(some (12, true)), some 13, 13, .faddr (.t 1) 2⟩,
   ⟨(some (12, true)), some 14, 14, .load none (.t 13)⟩,
   ⟨(some (12, true)), some 15, 15, .len (.t 14)⟩,
   ⟨(some (12, true)), some 16, 16, .bin .eql (.t 15) (.k (.one (.pv (.int .i64 2))))⟩,
   ⟨none, some 17, 17, .pick (.t 12) (.t 16) (.k (.one (.pv (.bool false))))⟩,
   ⟨none, some 18, 18, .mv (.t 17)⟩,
   ⟨(some (18, true)), some 19, 19, .faddr (.t 1) 3⟩,
   ⟨(some (18, true)), some 20, 20, .load none (.t 19)⟩,
   ⟨(some (18, true)), some 21, 21, .len (.t 20)⟩,
   ⟨(some (18, true)), some 22, 22, .bin .eql (.t 21) (.k (.one (.pv (.int .i64 2))))⟩,
   ⟨none, some 23, 23, .pick (.t 18) (.t 22) (.k (.one (.pv (.bool false))))⟩,
   ⟨none, some 24, 24, .mv (.t 23)⟩,
   ⟨(some (24, true)), some 25, 25, .faddr (.t 1) 3⟩,
   ⟨(some (24, true)), some 26, 26, .load none (.t 25)⟩,
   ⟨(some (24, true)), some 27, 27, .iaddr 1 (.t 26) (.k (.one (.pv (.int .i64 0))))⟩,
   ⟨(some (24, true)), some 28, 28, .load none (.t 27)⟩,
   ⟨(some (24, true)), some 29, 29, .slen (.t 28)⟩,
   ⟨(some (24, true)), some 30, 30, .bin .leq (.t 29) (.k (.one (.pv (.int .i64 60))))⟩,
   ⟨none, some 31, 31, .pick (.t 24) (.t 30) (.k (.one (.pv (.bool false))))⟩,
   ⟨none, some 32, 32, .mv (.t 31)⟩,
   ⟨(some (32, true)), some 33, 33, .faddr (.t 1) 3⟩,
   ⟨(some (32, true)), some 34, 34, .load none (.t 33)⟩,
   ⟨(some (32, true)), some 35, 35, .iaddr 1 (.t 34) (.k (.one (.pv (.int .i64 1))))⟩,
   ⟨(some (32, true)), some 36, 36, .load none (.t 35)⟩,
   ⟨(some (32, true)), some 37, 37, .slen (.t 36)⟩,
   ⟨(some (32, true)), some 38, 38, .bin .leq (.t 37) (.k (.one (.pv (.int .i64 60))))⟩,
   ⟨none, some 39, 39, .pick (.t 32) (.t 38) (.k (.one (.pv (.bool false))))⟩,
   ⟨none, some 2, 2, .mv (.t 39)⟩])
 (.ret))⟩
abbrev C_s_LeadOk (Te : Nat → List AV → Res → Prop) : Prop := ∀ (l : Lead) (h : l.In (2 ^ 48)), Te 32 [.agg (l.enc false)] ⟨[.one (bT l.ok)], [l.enc false]⟩
theorem r_s_LeadOk {Te : Nat → List AV → Res → Prop} (c_s_l1In : C_s_l1In Te) : ∀ (l : Lead) (h : l.In (2 ^ 48)), RunFn Te x_s_LeadOk [.agg (l.enc false)] ⟨[.one (bT l.ok)], [l.enc false]⟩ := by
  intro l h
  refine ⟨by simp -implicitDefEqProofs (maxSteps := 1000000) only [x_s_LeadOk, go_sem], ?_⟩
  obtain ⟨p, a, e, t⟩ := l
  simp -implicitDefEqProofs (maxSteps := 1000000) only [x_s_LeadOk, go_sem, Lead.ok]
  refine .of (c_s_l1In _ _ _) ?_
  simp -implicitDefEqProofs (maxSteps := 1000000) only [go_sem]
  refine bif_cases (fun g1 => ?_) (fun g1 => ?_) <;> simp -implicitDefEqProofs (maxSteps := 1000000) only [g1, go_sem]
  refine bif_cases (fun g2 => ?_) (fun g2 => ?_) <;> simp -implicitDefEqProofs (maxSteps := 1000000) only [g2, go_sem]
  refine bif_cases (fun g3 => ?_) (fun g3 => ?_) <;> simp -implicitDefEqProofs (maxSteps := 1000000) only [g3, go_sem]
  refine bif_cases (fun g4 => ?_) (fun g4 => ?_) <;> simp -implicitDefEqProofs (maxSteps := 1000000) only [g4, go_sem]
  match t, g4 with
  | [t0, t1], _ =>
    simp -implicitDefEqProofs (maxSteps := 1000000) only [go_sem]
    refine bif_cases (fun g5 => ?_) (fun g5 => ?_) <;> simp -implicitDefEqProofs (maxSteps := 1000000) only [g5, go_sem]
  | [], g4 => simp at g4
  | [_], g4 => simp at g4
  | _ :: _ :: _ :: _, g4 => simp at g4; omega
def walks (p : Int) : Bool := (p == 2) || (p == 3) || (p == 4) || (p == 6)
def final (p : Int) : Bool := (p == 5) || (p == 7)
theorem if_false_iff {α : Type} {x y : α} : (if false = true then x else y) = y := if_neg (by decide)
def Lead.begin (l : Lead) : Lead × Bool := if (l.ok && (l.Phase == 0)) = true then (leadIn 1, true) else (l, false)
def Lead.abort (l : Lead) : Lead × Bool := if (l.ok && win l.Phase 1 3) = true then (leadIn 6, true) else (l, false)
def x_i_Begin : FnX := ⟨15, [.cell 2 (some 4), .tmp 3],
  .seq (.reg [⟨none, some 1, 1, .box (.t 0)⟩,
   ⟨none, some 2, 2, .alloc [.pv (.int .i64 0), .nils 1, .nils 1, .nils 1]⟩,
   ⟨none, some 3, 3, .mv (.k (.one (.pv (.bool false))))⟩])
 (.seq (.seq (.reg [⟨none, some 4, 4, .load (some 4) (.t 1)⟩,
   ⟨none, some 5, 5, .call 31 [0] [(.t 4)]⟩,
   ⟨none, some 6, 6, .not (.t 5)⟩,
   ⟨none, some 7, 7, .mv (.t 6)⟩,
   ⟨(some (7, false)), some 8, 8, .faddr (.t 1) 0⟩,
   ⟨(some (7, false)), some 9, 9, .load none (.t 8)⟩,
   ⟨(some (7, false)), some 10, 10, .bin .neq (.t 9) (.k (.one (.pv (.int .i64 0))))⟩,
   ⟨none, some 11, 11, .pick (.t 7) (.k (.one (.pv (.bool true)))) (.t 10)⟩])
 (.cond 11 (.seq (.reg [⟨none, some 12, 12, .load (some 4) (.t 1)⟩,
   ⟨none, some 13, 13, .call 62 [0] [(.t 12)]⟩,
   ⟨none, none, 100001, .store 4 (.t 2) (.t 13)⟩,
   ⟨none, some 3, 3, .mv (.k (.one (.pv (.bool false))))⟩])
 (.ret)) (.skip)))
 (.seq (.reg [⟨none, some 14, 14, .call 63 [0] [(.k (.one (.pv (.int .i64 1))))]⟩,
   ⟨none, none, 100002, .store 4 (.t 2) (.t 14)⟩,
   ⟨none, some 3, 3, .mv (.k (.one (.pv (.bool true))))⟩])
 (.ret)))⟩
abbrev C_i_Begin (Te : Nat → List AV → Res → Prop) : Prop := ∀ (l : Lead) (h : l.In (2 ^ 31)), Te 23 [.agg (l.enc false)] ⟨[.agg (l.begin.1.enc true), .one (bT l.begin.2)], [l.enc false]⟩
theorem r_i_Begin {Te : Nat → List AV → Res → Prop} (c_i_LeadOk : C_i_LeadOk Te) (c_i_copyLead : C_i_copyLead Te) (c_i_leadIn : C_i_leadIn Te) : ∀ (l : Lead) (h : l.In (2 ^ 31)), RunFn Te x_i_Begin [.agg (l.enc false)] ⟨[.agg (l.begin.1.enc true), .one (bT l.begin.2)], [l.enc false]⟩ := by
  intro l h
  refine ⟨by simp -implicitDefEqProofs (maxSteps := 1000000) only [x_i_Begin, go_sem], ?_⟩
  simp -implicitDefEqProofs (maxSteps := 1000000) only [x_i_Begin, go_sem]
  refine .of (c_i_LeadOk _ (h.mono (by decide))) ?_
  cases hok : l.ok
  · simp -implicitDefEqProofs (maxSteps := 1000000) only [go_sem]
    refine .of (c_i_copyLead _ h) ?_
    simp -implicitDefEqProofs (maxSteps := 1000000) only [go_sem, Lead.begin, hok, if_false]
  · cases hp : (l.Phase != 0) <;> simp -implicitDefEqProofs (maxSteps := 1000000) only [go_sem, hp]
    · refine .of (c_i_leadIn _) ?_
      have e : (l.Phase == 0) = true := by simpa using hp
      simp -implicitDefEqProofs (maxSteps := 1000000) only [go_sem, Lead.begin, hok, e, if_true]
    · refine .of (c_i_copyLead _ h) ?_
      have e : (l.Phase == 0) = false := by simpa using hp
      simp -implicitDefEqProofs (maxSteps := 1000000) only [go_sem, Lead.begin, hok, e, if_false]
def x_s_Begin : FnX := ⟨15, [.cell 2 (some 4), .tmp 3],
  .seq (.reg [⟨none, some 1, 1, .box (.t 0)⟩,
   ⟨none, some 2, 2, .alloc [.pv (.int .i64 0), .nils 1, .nils 1, .nils 1]⟩,
   ⟨none, some 3, 3, .mv (.k (.one (.pv (.bool false))))⟩])
 (.seq (.seq (.reg [⟨none, some 4, 4, .load (some 4) (.t 1)⟩,
   ⟨none, some 5, 5, .call 32 [0] [(.t 4)]⟩,
   ⟨none, some 6, 6, .not (.t 5)⟩,
   ⟨none, some 7, 7, .mv (.t 6)⟩,
   ⟨(some (7, false)), some 8, 8, .faddr (.t 1) 0⟩,
   ⟨(some (7, false)), some 9, 9, .load none (.t 8)⟩,
   ⟨(some (7, false)), some 10, 10, .bin .neq (.t 9) (.k (.one (.pv (.int .i64 0))))⟩,
   ⟨none, some 11, 11, .pick (.t 7) (.k (.one (.pv (.bool true)))) (.t 10)⟩])
 (.cond 11 (.seq (.reg [⟨none, some 12, 12, .load (some 4) (.t 1)⟩,
   ⟨none, some 13, 13, .call 64 [0] [(.t 12)]⟩,
   ⟨none, none, 100001, .store 4 (.t 2) (.t 13)⟩,
   ⟨none, some 3, 3, .mv (.k (.one (.pv (.bool false))))⟩])
 (.ret)) (.skip)))
 (.seq (.reg [⟨none, some 14, 14, .call 65 [0] [(.k (.one (.pv (.int .i64 1))))]⟩,
   ⟨none, none, 100002, .store 4 (.t 2) (.t 14)⟩,
   ⟨none, some 3, 3, .mv (.k (.one (.pv (.bool true))))⟩])
 (.ret)))⟩
abbrev C_s_Begin (Te : Nat → List AV → Res → Prop) : Prop := ∀ (l : Lead) (h : l.In (2 ^ 31)), Te 24 [.agg (l.enc false)] ⟨[.agg (l.begin.1.enc true), .one (bT l.begin.2)], [l.enc false]⟩
theorem r_s_Begin {Te : Nat → List AV → Res → Prop} (c_s_LeadOk : C_s_LeadOk Te) (c_s_l19Copy : C_s_l19Copy Te) (c_s_l19At : C_s_l19At Te) : ∀ (l : Lead) (h : l.In (2 ^ 31)), RunFn Te x_s_Begin [.agg (l.enc false)] ⟨[.agg (l.begin.1.enc true), .one (bT l.begin.2)], [l.enc false]⟩ := by
  intro l h
  refine ⟨by simp -implicitDefEqProofs (maxSteps := 1000000) only [x_s_Begin, go_sem], ?_⟩
  simp -implicitDefEqProofs (maxSteps := 1000000) only [x_s_Begin, go_sem]
  refine .of (c_s_LeadOk _ (h.mono (by decide))) ?_
  cases hok : l.ok
  · simp -implicitDefEqProofs (maxSteps := 1000000) only [go_sem]
    refine .of (c_s_l19Copy _ h) ?_
    simp -implicitDefEqProofs (maxSteps := 1000000) only [go_sem, Lead.begin, hok, if_false]
  · cases hp : (l.Phase != 0) <;> simp -implicitDefEqProofs (maxSteps := 1000000) only [go_sem, hp]
    · refine .of (c_s_l19At _) ?_
      have e : (l.Phase == 0) = true := by simpa using hp
      simp -implicitDefEqProofs (maxSteps := 1000000) only [go_sem, Lead.begin, hok, e, if_true]
    · refine .of (c_s_l19Copy _ h) ?_
      have e : (l.Phase == 0) = false := by simpa using hp
      simp -implicitDefEqProofs (maxSteps := 1000000) only [go_sem, Lead.begin, hok, e, if_false]
def x_i_Abort : FnX := ⟨16, [.cell 2 (some 4), .tmp 3],
  .seq (.reg [⟨none, some 1, 1, .box (.t 0)⟩,
   ⟨none, some 2, 2, .alloc [.pv (.int .i64 0), .nils 1, .nils 1, .nils 1]⟩,
   ⟨none, some 3, 3, .mv (.k (.one (.pv (.bool false))))⟩])
 (.seq (.seq (.reg [⟨none, some 4, 4, .load (some 4) (.t 1)⟩,
   ⟨none, some 5, 5, .call 31 [0] [(.t 4)]⟩,
   ⟨none, some 6, 6, .not (.t 5)⟩,
   ⟨none, some 7, 7, .mv (.t 6)⟩,
   ⟨(some (7, false)), some 8, 8, .faddr (.t 1) 0⟩,
   ⟨(some (7, false)), some 9, 9, .load none (.t 8)⟩,
   ⟨(some (7, false)), some 10, 10, .call 58 [0, 0, 0] [(.t 9), (.k (.one (.pv (.int .i64 1)))), (.k (.one (.pv (.int .i64 3))))]⟩,
   ⟨(some (7, false)), some 11, 11, .not (.t 10)⟩,
   ⟨none, some 12, 12, .pick (.t 7) (.k (.one (.pv (.bool true)))) (.t 11)⟩])
 (.cond 12 (.seq (.reg [⟨none, some 13, 13, .load (some 4) (.t 1)⟩,
   ⟨none, some 14, 14, .call 62 [0] [(.t 13)]⟩,
   ⟨none, none, 100001, .store 4 (.t 2) (.t 14)⟩,
   ⟨none, some 3, 3, .mv (.k (.one (.pv (.bool false))))⟩])
 (.ret)) (.skip)))
 (.seq (.reg [⟨none, some 15, 15, .call 63 [0] [(.k (.one (.pv (.int .i64 6))))]⟩,
   ⟨none, none, 100002, .store 4 (.t 2) (.t 15)⟩,
   ⟨none, some 3, 3, .mv (.k (.one (.pv (.bool true))))⟩])
 (.ret)))⟩
abbrev C_i_Abort (Te : Nat → List AV → Res → Prop) : Prop := ∀ (l : Lead) (h : l.In (2 ^ 31)), Te 26 [.agg (l.enc false)] ⟨[.agg (l.abort.1.enc true), .one (bT l.abort.2)], [l.enc false]⟩
theorem r_i_Abort {Te : Nat → List AV → Res → Prop} (c_i_LeadOk : C_i_LeadOk Te) (c_i_within : C_i_within Te) (c_i_copyLead : C_i_copyLead Te) (c_i_leadIn : C_i_leadIn Te) : ∀ (l : Lead) (h : l.In (2 ^ 31)), RunFn Te x_i_Abort [.agg (l.enc false)] ⟨[.agg (l.abort.1.enc true), .one (bT l.abort.2)], [l.enc false]⟩ := by
  intro l h
  refine ⟨by simp -implicitDefEqProofs (maxSteps := 1000000) only [x_i_Abort, go_sem], ?_⟩
  simp -implicitDefEqProofs (maxSteps := 1000000) only [x_i_Abort, go_sem]
  refine .of (c_i_LeadOk _ (h.mono (by decide))) ?_
  cases hok : l.ok
  · simp -implicitDefEqProofs (maxSteps := 1000000) only [go_sem]
    refine .of (c_i_copyLead _ h) ?_
    simp -implicitDefEqProofs (maxSteps := 1000000) only [go_sem, Lead.abort, hok, if_false]
  · simp -implicitDefEqProofs (maxSteps := 1000000) only [go_sem]
    refine .of (c_i_within _ _ _) ?_
    cases hp : win l.Phase 1 3 <;> simp -implicitDefEqProofs (maxSteps := 1000000) only [go_sem, hp]
    · refine .of (c_i_copyLead _ h) ?_
      simp -implicitDefEqProofs (maxSteps := 1000000) only [go_sem, Lead.abort, hok, hp, if_false]
    · refine .of (c_i_leadIn _) ?_
      simp -implicitDefEqProofs (maxSteps := 1000000) only [go_sem, Lead.abort, hok, hp, if_true]
def x_s_Abort : FnX := ⟨16, [.cell 2 (some 4), .tmp 3],
  .seq (.reg [⟨none, some 1, 1, .box (.t 0)⟩,
   ⟨none, some 2, 2, .alloc [.pv (.int .i64 0), .nils 1, .nils 1, .nils 1]⟩,
   ⟨none, some 3, 3, .mv (.k (.one (.pv (.bool false))))⟩])
 (.seq (.seq (.reg [⟨none, some 4, 4, .load (some 4) (.t 1)⟩,
   ⟨none, some 5, 5, .call 32 [0] [(.t 4)]⟩,
   ⟨none, some 6, 6, .not (.t 5)⟩,
   ⟨none, some 7, 7, .mv (.t 6)⟩,
   ⟨(some (7, false)), some 8, 8, .faddr (.t 1) 0⟩,
   ⟨(some (7, false)), some 9, 9, .load none (.t 8)⟩,
   ⟨(some (7, false)), some 10, 10, .call 59 [0, 0, 0] [(.t 9), (.k (.one (.pv (.int .i64 1)))), (.k (.one (.pv (.int .i64 3))))]⟩,
   ⟨(some (7, false)), some 11, 11, .not (.t 10)⟩,
   ⟨none, some 12, 12, .pick (.t 7) (.k (.one (.pv (.bool true)))) (.t 11)⟩])
 (.cond 12 (.seq (.reg [⟨none, some 13, 13, .load (some 4) (.t 1)⟩,
   ⟨none, some 14, 14, .call 64 [0] [(.t 13)]⟩,
   ⟨none, none, 100001, .store 4 (.t 2) (.t 14)⟩,
   ⟨none, some 3, 3, .mv (.k (.one (.pv (.bool false))))⟩])
 (.ret)) (.skip)))
 (.seq (.reg [⟨none, some 15, 15, .call 65 [0] [(.k (.one (.pv (.int .i64 6))))]⟩,
   ⟨none, none, 100002, .store 4 (.t 2) (.t 15)⟩,
   ⟨none, some 3, 3, .mv (.k (.one (.pv (.bool true))))⟩])
 (.ret)))⟩
abbrev C_s_Abort (Te : Nat → List AV → Res → Prop) : Prop := ∀ (l : Lead) (h : l.In (2 ^ 31)), Te 27 [.agg (l.enc false)] ⟨[.agg (l.abort.1.enc true), .one (bT l.abort.2)], [l.enc false]⟩
theorem r_s_Abort {Te : Nat → List AV → Res → Prop} (c_s_LeadOk : C_s_LeadOk Te) (c_s_l1In : C_s_l1In Te) (c_s_l19Copy : C_s_l19Copy Te) (c_s_l19At : C_s_l19At Te) : ∀ (l : Lead) (h : l.In (2 ^ 31)), RunFn Te x_s_Abort [.agg (l.enc false)] ⟨[.agg (l.abort.1.enc true), .one (bT l.abort.2)], [l.enc false]⟩ := by
  intro l h
  refine ⟨by simp -implicitDefEqProofs (maxSteps := 1000000) only [x_s_Abort, go_sem], ?_⟩
  simp -implicitDefEqProofs (maxSteps := 1000000) only [x_s_Abort, go_sem]
  refine .of (c_s_LeadOk _ (h.mono (by decide))) ?_
  cases hok : l.ok
  · simp -implicitDefEqProofs (maxSteps := 1000000) only [go_sem]
    refine .of (c_s_l19Copy _ h) ?_
    simp -implicitDefEqProofs (maxSteps := 1000000) only [go_sem, Lead.abort, hok, if_false]
  · simp -implicitDefEqProofs (maxSteps := 1000000) only [go_sem]
    refine .of (c_s_l1In _ _ _) ?_
    cases hp : win l.Phase 1 3 <;> simp -implicitDefEqProofs (maxSteps := 1000000) only [go_sem, hp]
    · refine .of (c_s_l19Copy _ h) ?_
      simp -implicitDefEqProofs (maxSteps := 1000000) only [go_sem, Lead.abort, hok, hp, if_false]
    · refine .of (c_s_l19At _) ?_
      simp -implicitDefEqProofs (maxSteps := 1000000) only [go_sem, Lead.abort, hok, hp, if_true]
def x_i_Walks : FnX := ⟨17, [.tmp 2],
  .seq (.reg [⟨none, some 2, 2, .mv (.k (.one (.pv (.bool false))))⟩])
 (.seq (.reg [⟨none, some 3, 3, .mv (.t 0)⟩,
   ⟨none, some 4, 4, .bin .eql (.t 3) (.k (.one (.pv (.int .i64 2))))⟩,
   ⟨none, some 5, 5, .mv (.t 4)⟩,
   ⟨(some (5, false)), some 6, 6, .mv (.t 0)⟩,
   ⟨(some (5, false)), some 7, 7, .bin .eql (.t 6) (.k (.one (.pv (.int .i64 3))))⟩,
   ⟨none, some 8, 8, .pick (.t 5) (.k (.one (.pv (.bool true)))) (.t 7)⟩,
   ⟨none, some 9, 9, .mv (.t 8)⟩,
   ⟨(some (9, false)), some 10, 10, .mv (.t 0)⟩,
   ⟨(some (9, false)), some 11, 11, .bin .eql (.t 10) (.k (.one (.pv (.int .i64 4))))⟩,
   ⟨none, some 12, 12, .pick (.t 9) (.k (.one (.pv (.bool true)))) (.t 11)⟩,
   ⟨none, some 13, 13, .mv (.t 12)⟩,
   ⟨(some (13, false)), some 14, 14, .mv (.t 0)⟩,
   ⟨(some (13, false)), some 15, 15, .bin .eql (.t 14) (.k (.one (.pv (.int .i64 6))))⟩,
   ⟨none, some 16, 16, .pick (.t 13) (.k (.one (.pv (.bool true)))) (.t 15)⟩,
   ⟨none, some 2, 2, .mv (.t 16)⟩])
 (.ret))⟩
abbrev C_i_Walks (Te : Nat → List AV → Res → Prop) : Prop := ∀ (p : Int), Te 67 [.one (iT p)] ⟨[.one (bT (walks p))], [[iT p]]⟩
theorem r_i_Walks {Te : Nat → List AV → Res → Prop} : ∀ (p : Int), RunFn Te x_i_Walks [.one (iT p)] ⟨[.one (bT (walks p))], [[iT p]]⟩ := by
  intro p
  refine ⟨by simp -implicitDefEqProofs (maxSteps := 1000000) only [x_i_Walks, go_sem], ?_⟩
  cases g1 : (p == 2)
  · cases g2 : (p == 3)
    · cases g3 : (p == 4) <;> simp -implicitDefEqProofs (maxSteps := 1000000) only [x_i_Walks, go_sem, g1, g2, g3, walks]
    · simp -implicitDefEqProofs (maxSteps := 1000000) only [x_i_Walks, go_sem, g1, g2, walks]
  · simp -implicitDefEqProofs (maxSteps := 1000000) only [x_i_Walks, go_sem, g1, walks]
def x_s_Walks : FnX := ⟨9, [.tmp 2],
  .seq (.reg [⟨none, some 2, 2, .mv (.k (.one (.pv (.bool false))))⟩])
 (.seq (.reg [⟨none, some 3, 3, .mv (.t 0)⟩,
   ⟨none, some 4, 4, .call 59 [0, 0, 0] [(.t 3), (.k (.one (.pv (.int .i64 2)))), (.k (.one (.pv (.int .i64 4))))]⟩,
   ⟨none, some 5, 5, .mv (.t 4)⟩,
   ⟨(some (5, false)), some 6, 6, .mv (.t 0)⟩,
   ⟨(some (5, false)), some 7, 7, .bin .eql (.t 6) (.k (.one (.pv (.int .i64 6))))⟩,
   ⟨none, some 8, 8, .pick (.t 5) (.k (.one (.pv (.bool true)))) (.t 7)⟩,
   ⟨none, some 2, 2, .mv (.t 8)⟩])
 (.ret))⟩
abbrev C_s_Walks (Te : Nat → List AV → Res → Prop) : Prop := ∀ (p : Int), Te 68 [.one (iT p)] ⟨[.one (bT (walks p))], [[iT p]]⟩
theorem r_s_Walks {Te : Nat → List AV → Res → Prop} (c_s_l1In : C_s_l1In Te) : ∀ (p : Int), RunFn Te x_s_Walks [.one (iT p)] ⟨[.one (bT (walks p))], [[iT p]]⟩ := by
  intro p
  refine ⟨by simp -implicitDefEqProofs (maxSteps := 1000000) only [x_s_Walks, go_sem], ?_⟩
  have key : walks p = (win p 2 4 || (p == 6)) := by
    simp only [walks, win]
    by_cases h2 : p = 2
    · subst h2; rfl
    by_cases h3 : p = 3
    · subst h3; rfl
    by_cases h4 : p = 4
    · subst h4; rfl
    have : (decide (p ≥ 2) && decide (p ≤ 4)) = false := by simp; omega
    simp [h2, h3, h4, this]
  simp -implicitDefEqProofs (maxSteps := 1000000) only [x_s_Walks, go_sem, key]
  refine .of (c_s_l1In _ _ _) ?_
  cases g1 : win p 2 4 <;> simp -implicitDefEqProofs (maxSteps := 1000000) only [go_sem]
def x_i_Final : FnX := ⟨9, [.tmp 2],
  .seq (.reg [⟨none, some 2, 2, .mv (.k (.one (.pv (.bool false))))⟩])
 (.seq (.reg [⟨none, some 3, 3, .mv (.t 0)⟩,
   ⟨none, some 4, 4, .bin .eql (.t 3) (.k (.one (.pv (.int .i64 5))))⟩,
   ⟨none, some 5, 5, .mv (.t 4)⟩,
   ⟨(some (5, false)), some 6, 6, .mv (.t 0)⟩,
   ⟨(some (5, false)), some 7, 7, .bin .eql (.t 6) (.k (.one (.pv (.int .i64 7))))⟩,
   ⟨none, some 8, 8, .pick (.t 5) (.k (.one (.pv (.bool true)))) (.t 7)⟩,
   ⟨none, some 2, 2, .mv (.t 8)⟩])
 (.ret))⟩
abbrev C_i_Final (Te : Nat → List AV → Res → Prop) : Prop := ∀ (p : Int), Te 69 [.one (iT p)] ⟨[.one (bT (final p))], [[iT p]]⟩
theorem r_i_Final {Te : Nat → List AV → Res → Prop} : ∀ (p : Int), RunFn Te x_i_Final [.one (iT p)] ⟨[.one (bT (final p))], [[iT p]]⟩ := by
  intro p
  refine ⟨by simp -implicitDefEqProofs (maxSteps := 1000000) only [x_i_Final, go_sem], ?_⟩
  cases g1 : (p == 5) <;> simp -implicitDefEqProofs (maxSteps := 1000000) only [x_i_Final, go_sem, g1, final]
def x_s_Final : FnX := ⟨9, [.tmp 2],
  .seq (.reg [⟨none, some 2, 2, .mv (.k (.one (.pv (.bool false))))⟩])
 (.seq (.reg [⟨none, some 3, 3, .mv (.t 0)⟩,
   ⟨none, some 4, 4, .bin .eql (.t 3) (.k (.one (.pv (.int .i64 5))))⟩,
   ⟨none, some 5, 5, .mv (.t 4)⟩,
   ⟨(some (5, false)), some 6, 6, .mv (.t 0)⟩,
   ⟨(some (5, false)), some 7, 7, .bin .eql (.t 6) (.k (.one (.pv (.int .i64 7))))⟩,
   ⟨none, some 8, 8, .pick (.t 5) (.k (.one (.pv (.bool true)))) (.t 7)⟩,
   ⟨none, some 2, 2, .mv (.t 8)⟩])
 (.ret))⟩
abbrev C_s_Final (Te : Nat → List AV → Res → Prop) : Prop := ∀ (p : Int), Te 70 [.one (iT p)] ⟨[.one (bT (final p))], [[iT p]]⟩
theorem r_s_Final {Te : Nat → List AV → Res → Prop} : ∀ (p : Int), RunFn Te x_s_Final [.one (iT p)] ⟨[.one (bT (final p))], [[iT p]]⟩ := by
  intro p
  refine ⟨by simp -implicitDefEqProofs (maxSteps := 1000000) only [x_s_Final, go_sem], ?_⟩
  cases g1 : (p == 5) <;> simp -implicitDefEqProofs (maxSteps := 1000000) only [x_s_Final, go_sem, g1, final]
end Go.X

/- H -/
namespace Go.X
set_option maxRecDepth 100000
set_option maxHeartbeats 8000000
def tickOne (p i : Int) (a e : Bool) (t : ByteArray) : List Msg :=
  if a = false then [⟨6, 0, 3 + i, 0, ⟨#[]⟩, ⟨#[]⟩, p, 0⟩] else if walks p = true ∧ e = false then [⟨8, 0, 3 + i, 0, t, ⟨#[]⟩, p, 0⟩] else []
def Lead.tick (l : Lead) : List Msg := if l.ok = false ∨ l.Phase = 0 then [] else
  tickOne l.Phase 0 (l.Acked.getD 0 false) (l.Ended.getD 0 false) (l.At.getD 0 ⟨#[]⟩) ++ tickOne l.Phase 1 (l.Acked.getD 1 false) (l.Ended.getD 1 false) (l.At.getD 1 ⟨#[]⟩)
theorem tickOne_len (p i : Int) (a e : Bool) (t : ByteArray) : (tickOne p i a e t).length ≤ 1 := by
  unfold tickOne
  split
  · exact Nat.le_refl _
  · split <;> simp
theorem tick_len (l : Lead) : l.tick.length ≤ 2 := by
  unfold Lead.tick
  split
  · simp
  · rw [List.length_append]
    exact Nat.add_le_add (tickOne_len ..) (tickOne_len ..)
theorem Lead.ok_two {l : Lead} (h : l.ok = true) : ∃ p a0 a1 e0 e1 t0 t1, l = ⟨p, [a0, a1], [e0, e1], [t0, t1]⟩ := by
  obtain ⟨p, a, e, t⟩ := l
  simp only [Lead.ok, Bool.and_eq_true, beq_iff_eq] at h
  obtain ⟨⟨⟨⟨_, h1⟩, h2⟩, h3⟩, _⟩ := h
  have two : ∀ {α : Type} (l : List α), (l.length : Int) = 2 → ∃ x y, l = [x, y] := fun l hl => by
    match l, hl with
    | [x, y], _ => exact ⟨x, y, rfl⟩
    | [], h => simp at h
    | [_], h => simp at h
    | _ :: _ :: _ :: _, h => simp at h; omega
  obtain ⟨a0, a1, rfl⟩ := two a h1
  obtain ⟨e0, e1, rfl⟩ := two e h2
  obtain ⟨t0, t1, rfl⟩ := two t h3
  exact ⟨p, a0, a1, e0, e1, t0, t1, rfl⟩
def x_i_Tick : FnX := ⟨60, [.tmp 2],
  .seq (.reg [⟨none, some 1, 1, .box (.t 0)⟩,
   ⟨none, some 2, 2, .mv (.k (.one (.nils 8)))⟩])
 (.seq (.reg [⟨none, some 5, 5, .bslice 8 []⟩,
   ⟨none, some 3, 3, .mv (.t 5)⟩])
 (.seq (.seq (.reg [⟨none, some 6, 6, .load (some 4) (.t 1)⟩,
   ⟨none, some 7, 7, .call 31 [0] [(.t 6)]⟩,
   ⟨none, some 8, 8, .not (.t 7)⟩,
   ⟨none, some 9, 9, .mv (.t 8)⟩,
   ⟨(some (9, false)), some 10, 10, .faddr (.t 1) 0⟩,
   ⟨(some (9, false)), some 11, 11, .load none (.t 10)⟩,
   ⟨(some (9, false)), some 12, 12, .bin .eql (.t 11) (.k (.one (.pv (.int .i64 0))))⟩,
   ⟨none, some 13, 13, .pick (.t 9) (.k (.one (.pv (.bool true)))) (.t 12)⟩])
 (.cond 13 (.seq (.reg [⟨none, some 14, 14, .mv (.t 3)⟩,
   ⟨none, some 2, 2, .mv (.t 14)⟩])
 (.ret)) (.skip)))
 (.seq (.seq (.reg [⟨none, some 15, 15, .mv (.k (.one (.pv (.int .i64 0))))⟩])
 (.block 0 (.loop [1, 3, 15] (.seq (.reg [⟨none, some 16, 16, .bin .lss (.t 15) (.k (.one (.pv (.int .i64 2))))⟩])
 (.seq (.cond 16 (.skip) (.exit 0))
 (.seq (.block 1 (.seq (.reg [⟨none, some 17, 17, .mv (.t 15)⟩,
   ⟨none, some 4, 4, .mv (.t 17)⟩])
 (.block 2 (.seq (.reg [⟨none, some 19, 19, .faddr (.t 1) 1⟩,
   ⟨none, some 20, 20, .load none (.t 19)⟩,
   ⟨none, some 21, 21, .mv (.t 4)⟩,
   ⟨none, some 22, 22, .iaddr 1 (.t 20) (.t 21)⟩,
   ⟨none, some 23, 23, .load none (.t 22)⟩,
   ⟨none, some 24, 24, .not (.t 23)⟩,
   ⟨none, some 18, 18, .mv (.t 24)⟩])
 (.cond 18 (.reg [⟨none, some 25, 25, .mv (.t 3)⟩,
   ⟨none, some 26, 26, .mv (.t 4)⟩,
   ⟨none, some 27, 27, .bin .add (.k (.one (.pv (.int .i64 3)))) (.t 26)⟩,
   ⟨none, some 28, 28, .faddr (.t 1) 0⟩,
   ⟨none, some 29, 29, .load none (.t 28)⟩,
   ⟨none, some 30, 30, .build [.pv (.int .i64 0), .pv (.int .i64 0), .pv (.int .i64 0), .pv (.int .i64 0), .pv (.string ⟨#[]⟩), .pv (.string ⟨#[]⟩), .pv (.int .i64 0), .pv (.int .i64 0)] [(0, 1, (.k (.one (.pv (.int .i64 6))))), (2, 1, (.t 27)), (6, 1, (.t 29))]⟩,
   ⟨none, some 31, 31, .bslice 8 [(.t 30)]⟩,
   ⟨none, some 32, 32, .app 8 80 (.t 25) (.t 31)⟩,
   ⟨none, some 3, 3, .mv (.t 32)⟩]) (.seq (.reg [⟨none, some 34, 34, .faddr (.t 1) 0⟩,
   ⟨none, some 35, 35, .load none (.t 34)⟩,
   ⟨none, some 36, 36, .call 67 [0] [(.t 35)]⟩,
   ⟨none, some 37, 37, .mv (.t 36)⟩,
   ⟨(some (37, true)), some 38, 38, .faddr (.t 1) 2⟩,
   ⟨(some (37, true)), some 39, 39, .load none (.t 38)⟩,
   ⟨(some (37, true)), some 40, 40, .mv (.t 4)⟩,
   ⟨(some (37, true)), some 41, 41, .iaddr 1 (.t 39) (.t 40)⟩,
   ⟨(some (37, true)), some 42, 42, .load none (.t 41)⟩,
   ⟨(some (37, true)), some 43, 43, .not (.t 42)⟩,
   ⟨none, some 44, 44, .pick (.t 37) (.t 43) (.k (.one (.pv (.bool false))))⟩,
   ⟨none, some 33, 33, .mv (.t 44)⟩])
 (.cond 33 (.draw [⟨none, some 45, 45, .mv (.t 3)⟩,
   ⟨none, some 46, 46, .mv (.t 4)⟩,
   ⟨none, some 47, 47, .bin .add (.k (.one (.pv (.int .i64 3)))) (.t 46)⟩,
   ⟨none, some 48, 48, .faddr (.t 1) 0⟩,
   ⟨none, some 49, 49, .load none (.t 48)⟩,
   ⟨none, some 50, 50, .faddr (.t 1) 3⟩,
   ⟨none, some 51, 51, .load none (.t 50)⟩,
   ⟨none, some 52, 52, .mv (.t 4)⟩,
   ⟨none, some 53, 53, .iaddr 1 (.t 51) (.t 52)⟩,
   ⟨none, some 54, 54, .load none (.t 53)⟩,
   ⟨none, some 55, 55, .build [.pv (.int .i64 0), .pv (.int .i64 0), .pv (.int .i64 0), .pv (.int .i64 0), .pv (.string ⟨#[]⟩), .pv (.string ⟨#[]⟩), .pv (.int .i64 0), .pv (.int .i64 0)] [(0, 1, (.k (.one (.pv (.int .i64 8))))), (2, 1, (.t 47)), (6, 1, (.t 49)), (4, 1, (.t 54))]⟩,
   ⟨none, some 56, 56, .bslice 8 [(.t 55)]⟩,
   ⟨none, some 57, 57, .app 8 80 (.t 45) (.t 56)⟩,
   ⟨none, some 3, 3, .mv (.t 57)⟩] [[], [], [1], [], [3], [], [5], [], [6, 7], [8], [2, 4, 9], [10], [0, 11], [12, 12, 0, 1, 2, 3, 4, 5, 6, 7, 8, 9, 10, 11, 12]]) (.skip))))))))
 (.reg [⟨none, some 58, 58, .bin .add (.t 15) (.k (.one (.pv (.int .i64 1))))⟩,
   ⟨none, some 15, 15, .mv (.t 58)⟩])))))))
 (.norm [3] (.seq (.reg [⟨none, some 59, 59, .mv (.t 3)⟩,
   ⟨none, some 2, 2, .mv (.t 59)⟩])
 (.ret))))))⟩
abbrev C_i_Tick (Te : Nat → List AV → Res → Prop) : Prop := ∀ (l : Lead) (h : l.In (2 ^ 31)), Te 35 [.agg (l.enc false)] ⟨[.one (slT true 8 Msg.row l.tick)], [l.enc false]⟩
theorem r_i_Tick {Te : Nat → List AV → Res → Prop} (c_i_LeadOk : C_i_LeadOk Te) (c_i_Walks : C_i_Walks Te) : ∀ (l : Lead) (h : l.In (2 ^ 31)), RunFn Te x_i_Tick [.agg (l.enc false)] ⟨[.one (slT true 8 Msg.row l.tick)], [l.enc false]⟩ := by
  intro l h
  refine ⟨by simp -implicitDefEqProofs (maxSteps := 1000000) only [x_i_Tick, go_sem], ?_⟩
  simp -implicitDefEqProofs (maxSteps := 1000000) only [x_i_Tick, go_sem]
  refine .of (c_i_LeadOk _ (h.mono (by decide))) ?_
  cases hok : l.ok
  · simp -implicitDefEqProofs (maxSteps := 1000000) only [go_sem, Lead.tick, hok, true_or, if_true]
    rfl
  · obtain ⟨p, a0, a1, e0, e1, t0, t1, rfl⟩ := Lead.ok_two hok
    cases hp : (p == 0) <;> simp -implicitDefEqProofs (maxSteps := 1000000) only [go_sem, hp]
    · have hp' : ¬ (p = 0) := by simpa using hp
      have hgoal : Lead.tick ⟨p, [a0, a1], [e0, e1], [t0, t1]⟩ = tickOne p 0 a0 e0 t0 ++ tickOne p 1 a1 e1 t1 := by
        simp only [Lead.tick, hok, hp', or_self, reduceCtorEq, if_false]
        rfl
      have len : ∀ p i a e t, (tickOne p i a e t).length ≤ 1 := fun p i a e t => by
        unfold tickOne
        split
        · exact Nat.le_refl _
        · split <;> simp
      have hw : ∀ w : Bool, (w = true → walks p = true) → (w = false → walks p = false) → walks p = w := fun w h1 h2 => by cases w <;> simp_all
      simp only [hgoal]
      refine loop_of (σ := Int × List Msg) (fun x => ⟨[(1, .bp 1 0), (3, .one (.rf 61 0 [] 8 0 x.2.length)), (15, .one (.pv (.int .i64 x.1)))], [(1, [.pv (.int .i64 p), .ro 1 [[bT a0], [bT a1]], .ro 1 [[bT e0], [bT e1]], .ro 1 [[sT t0], [sT t1]]])], [(0, Lead.enc false ⟨p, [a0, a1], [e0, e1], [t0, t1]⟩), (61, [.sl true 8 () (x.2.map Msg.row)])]⟩)
        (fun x => x.2.length ≤ 2 ∧ (x = (0, []) ∨ x = (1, tickOne p 0 a0 e0 t0) ∨ x = (2, tickOne p 0 a0 e0 t0 ++ tickOne p 1 a1 e1 t1))) (fun x => (2 - x.1).toNat) (0, []) ?_ ⟨by decide, .inl rfl⟩ ?_
      · simp -implicitDefEqProofs (maxSteps := 1000000) only [go_sem]
      · rintro ⟨i, L⟩ ⟨hL, hi⟩
        simp only at hL
        rcases hi with hi | hi | hi <;> obtain ⟨rfl, rfl⟩ := Prod.mk.inj hi <;> clear hi
        · cases a0
          · simp -implicitDefEqProofs (maxSteps := 1000000) only [go_sem, Int.reduceAdd, IntWalk.i64_in 1 (by decide), IntWalk.i64_in 2 (by decide), IntWalk.i64_in 3 (by decide), IntWalk.i64_in 4 (by decide)]
            repeat (first | refine ⟨rfl, ?_⟩ | refine ⟨by decide, ?_⟩ | refine ⟨decide_eq_true (by omega), ?_⟩ | refine ⟨⟨decide_eq_true (by omega), decide_eq_true (by omega)⟩, ?_⟩)
            exact ⟨(1, tickOne p 0 false e0 t0), rfl, ⟨by have := len p 0 false e0 t0; simp only; omega, .inr (.inl rfl)⟩, (by decide : (2 - (1:Int)).toNat < (2 - (0:Int)).toNat)⟩
          · simp -implicitDefEqProofs (maxSteps := 1000000) only [go_sem, Int.reduceAdd, IntWalk.i64_in 1 (by decide), IntWalk.i64_in 2 (by decide), IntWalk.i64_in 3 (by decide), IntWalk.i64_in 4 (by decide)]
            refine .of (c_i_Walks _) ?_
            cases w : walks p
            · simp -implicitDefEqProofs (maxSteps := 1000000) only [go_sem, Int.reduceAdd, IntWalk.i64_in 1 (by decide), IntWalk.i64_in 2 (by decide), IntWalk.i64_in 3 (by decide), IntWalk.i64_in 4 (by decide)]
              exact ⟨(1, []), rfl, ⟨by decide, .inr (.inl (by simp [tickOne, w]))⟩, (by decide : (2 - (1:Int)).toNat < (2 - (0:Int)).toNat)⟩
            · cases e0
              · simp -implicitDefEqProofs (maxSteps := 1000000) only [go_sem, Int.reduceAdd, IntWalk.i64_in 1 (by decide), IntWalk.i64_in 2 (by decide), IntWalk.i64_in 3 (by decide), IntWalk.i64_in 4 (by decide)]
                repeat (first | refine ⟨rfl, ?_⟩ | refine ⟨by decide, ?_⟩ | refine ⟨decide_eq_true (by omega), ?_⟩ | refine ⟨⟨decide_eq_true (by omega), decide_eq_true (by omega)⟩, ?_⟩)
                exact ⟨(1, [⟨8, 0, 3, 0, t0, ⟨#[]⟩, p, 0⟩]), rfl, ⟨(by show (1:Nat) ≤ 2; decide), .inr (.inl (by simp [tickOne, w]))⟩, (by decide : (2 - (1:Int)).toNat < (2 - (0:Int)).toNat)⟩
              · simp -implicitDefEqProofs (maxSteps := 1000000) only [go_sem, Int.reduceAdd, IntWalk.i64_in 1 (by decide), IntWalk.i64_in 2 (by decide), IntWalk.i64_in 3 (by decide), IntWalk.i64_in 4 (by decide)]
                exact ⟨(1, []), rfl, ⟨by decide, .inr (.inl (by simp [tickOne, w]))⟩, (by decide : (2 - (1:Int)).toNat < (2 - (0:Int)).toNat)⟩
        · have hl := len p 0 a0 e0 t0
          generalize hT : tickOne p 0 a0 e0 t0 = L at *
          cases a1
          · simp -implicitDefEqProofs (maxSteps := 1000000) only [go_sem, Int.reduceAdd, IntWalk.i64_in 1 (by decide), IntWalk.i64_in 2 (by decide), IntWalk.i64_in 3 (by decide), IntWalk.i64_in 4 (by decide)]
            repeat (first | refine ⟨rfl, ?_⟩ | refine ⟨by decide, ?_⟩ | refine ⟨decide_eq_true (by omega), ?_⟩ | refine ⟨⟨decide_eq_true (by omega), decide_eq_true (by omega)⟩, ?_⟩)
            exact ⟨(2, L ++ [⟨6, 0, 4, 0, ⟨#[]⟩, ⟨#[]⟩, p, 0⟩]), by simp only [List.map_append, List.length_append]; rfl, ⟨by simp only [List.length_append, List.length_cons, List.length_nil]; omega, .inr (.inr rfl)⟩, (by decide : (2 - (2:Int)).toNat < (2 - (1:Int)).toNat)⟩
          · simp -implicitDefEqProofs (maxSteps := 1000000) only [go_sem, Int.reduceAdd, IntWalk.i64_in 1 (by decide), IntWalk.i64_in 2 (by decide), IntWalk.i64_in 3 (by decide), IntWalk.i64_in 4 (by decide)]
            refine .of (c_i_Walks _) ?_
            cases w : walks p
            · simp -implicitDefEqProofs (maxSteps := 1000000) only [go_sem, Int.reduceAdd, IntWalk.i64_in 1 (by decide), IntWalk.i64_in 2 (by decide), IntWalk.i64_in 3 (by decide), IntWalk.i64_in 4 (by decide)]
              exact ⟨(2, L), rfl, ⟨by simp only; omega, .inr (.inr (by simp [tickOne, w]))⟩, (by decide : (2 - (2:Int)).toNat < (2 - (1:Int)).toNat)⟩
            · cases e1
              · simp -implicitDefEqProofs (maxSteps := 1000000) only [go_sem, Int.reduceAdd, IntWalk.i64_in 1 (by decide), IntWalk.i64_in 2 (by decide), IntWalk.i64_in 3 (by decide), IntWalk.i64_in 4 (by decide)]
                repeat (first | refine ⟨rfl, ?_⟩ | refine ⟨by decide, ?_⟩ | refine ⟨decide_eq_true (by omega), ?_⟩ | refine ⟨⟨decide_eq_true (by omega), decide_eq_true (by omega)⟩, ?_⟩)
                exact ⟨(2, L ++ [⟨8, 0, 4, 0, t1, ⟨#[]⟩, p, 0⟩]), by simp only [List.map_append, List.length_append]; rfl, ⟨by simp only [List.length_append, List.length_cons, List.length_nil]; omega, .inr (.inr (by simp [tickOne, w]))⟩, (by decide : (2 - (2:Int)).toNat < (2 - (1:Int)).toNat)⟩
              · simp -implicitDefEqProofs (maxSteps := 1000000) only [go_sem, Int.reduceAdd, IntWalk.i64_in 1 (by decide), IntWalk.i64_in 2 (by decide), IntWalk.i64_in 3 (by decide), IntWalk.i64_in 4 (by decide)]
                exact ⟨(2, L), rfl, ⟨by simp only; omega, .inr (.inr (by simp [tickOne, w]))⟩, (by decide : (2 - (2:Int)).toNat < (2 - (1:Int)).toNat)⟩
        · generalize tickOne p 0 a0 e0 t0 ++ tickOne p 1 a1 e1 t1 = L
          simp -implicitDefEqProofs (maxSteps := 1000000) only [go_sem]
    · have hp' : p = 0 := by simpa using hp
      simp -implicitDefEqProofs (maxSteps := 1000000) only [go_sem, Lead.tick, hok, hp', or_true, if_true]
      rfl
def x_s_Tick : FnX := ⟨58, [.tmp 2],
  .seq (.reg [⟨none, some 1, 1, .box (.t 0)⟩,
   ⟨none, some 2, 2, .mv (.k (.one (.nils 8)))⟩])
 (.seq (.reg [⟨none, some 5, 5, .bslice 8 []⟩,
   ⟨none, some 3, 3, .mv (.t 5)⟩])
 (.seq (.seq (.reg [⟨none, some 6, 6, .load (some 4) (.t 1)⟩,
   ⟨none, some 7, 7, .call 32 [0] [(.t 6)]⟩,
   ⟨none, some 8, 8, .not (.t 7)⟩,
   ⟨none, some 9, 9, .mv (.t 8)⟩,
   ⟨(some (9, false)), some 10, 10, .faddr (.t 1) 0⟩,
   ⟨(some (9, false)), some 11, 11, .load none (.t 10)⟩,
   ⟨(some (9, false)), some 12, 12, .bin .eql (.t 11) (.k (.one (.pv (.int .i64 0))))⟩,
   ⟨none, some 13, 13, .pick (.t 9) (.k (.one (.pv (.bool true)))) (.t 12)⟩])
 (.cond 13 (.seq (.reg [⟨none, some 14, 14, .mv (.t 3)⟩,
   ⟨none, some 2, 2, .mv (.t 14)⟩])
 (.ret)) (.skip)))
 (.seq (.seq (.reg [⟨none, some 4, 4, .mv (.k (.one (.pv (.int .i64 0))))⟩])
 (.block 0 (.loop [1, 3, 4] (.seq (.seq (.reg [⟨none, some 15, 15, .mv (.t 4)⟩,
   ⟨none, some 16, 16, .bin .lss (.t 15) (.k (.one (.pv (.int .i64 2))))⟩])
 (.cond 16 (.skip) (.exit 0)))
 (.seq (.block 1 (.seq (.reg [⟨none, some 19, 19, .faddr (.t 1) 1⟩,
   ⟨none, some 20, 20, .load none (.t 19)⟩,
   ⟨none, some 21, 21, .mv (.t 4)⟩,
   ⟨none, some 22, 22, .iaddr 1 (.t 20) (.t 21)⟩,
   ⟨none, some 23, 23, .load none (.t 22)⟩,
   ⟨none, some 24, 24, .not (.t 23)⟩])
 (.cond 24 (.reg [⟨none, some 25, 25, .mv (.t 3)⟩,
   ⟨none, some 26, 26, .mv (.t 4)⟩,
   ⟨none, some 27, 27, .bin .add (.k (.one (.pv (.int .i64 3)))) (.t 26)⟩,
   ⟨none, some 28, 28, .faddr (.t 1) 0⟩,
   ⟨none, some 29, 29, .load none (.t 28)⟩,
   ⟨none, some 30, 30, .build [.pv (.int .i64 0), .pv (.int .i64 0), .pv (.int .i64 0), .pv (.int .i64 0), .pv (.string ⟨#[]⟩), .pv (.string ⟨#[]⟩), .pv (.int .i64 0), .pv (.int .i64 0)] [(0, 1, (.k (.one (.pv (.int .i64 6))))), (2, 1, (.t 27)), (6, 1, (.t 29))]⟩,
   ⟨none, some 31, 31, .bslice 8 [(.t 30)]⟩,
   ⟨none, some 32, 32, .app 8 80 (.t 25) (.t 31)⟩,
   ⟨none, some 3, 3, .mv (.t 32)⟩]) (.seq (.reg [⟨none, some 33, 33, .faddr (.t 1) 0⟩,
   ⟨none, some 34, 34, .load none (.t 33)⟩,
   ⟨none, some 35, 35, .call 68 [0] [(.t 34)]⟩,
   ⟨none, some 36, 36, .mv (.t 35)⟩,
   ⟨(some (36, true)), some 37, 37, .faddr (.t 1) 2⟩,
   ⟨(some (36, true)), some 38, 38, .load none (.t 37)⟩,
   ⟨(some (36, true)), some 39, 39, .mv (.t 4)⟩,
   ⟨(some (36, true)), some 40, 40, .iaddr 1 (.t 38) (.t 39)⟩,
   ⟨(some (36, true)), some 41, 41, .load none (.t 40)⟩,
   ⟨(some (36, true)), some 42, 42, .not (.t 41)⟩,
   ⟨none, some 43, 43, .pick (.t 36) (.t 42) (.k (.one (.pv (.bool false))))⟩])
 (.cond 43 (.draw [⟨none, some 44, 44, .mv (.t 3)⟩,
   ⟨none, some 45, 45, .mv (.t 4)⟩,
   ⟨none, some 46, 46, .bin .add (.k (.one (.pv (.int .i64 3)))) (.t 45)⟩,
   ⟨none, some 47, 47, .faddr (.t 1) 0⟩,
   ⟨none, some 48, 48, .load none (.t 47)⟩,
   ⟨none, some 49, 49, .faddr (.t 1) 3⟩,
   ⟨none, some 50, 50, .load none (.t 49)⟩,
   ⟨none, some 51, 51, .mv (.t 4)⟩,
   ⟨none, some 52, 52, .iaddr 1 (.t 50) (.t 51)⟩,
   ⟨none, some 53, 53, .load none (.t 52)⟩,
   ⟨none, some 54, 54, .build [.pv (.int .i64 0), .pv (.int .i64 0), .pv (.int .i64 0), .pv (.int .i64 0), .pv (.string ⟨#[]⟩), .pv (.string ⟨#[]⟩), .pv (.int .i64 0), .pv (.int .i64 0)] [(0, 1, (.k (.one (.pv (.int .i64 8))))), (2, 1, (.t 46)), (6, 1, (.t 48)), (4, 1, (.t 53))]⟩,
   ⟨none, some 55, 55, .bslice 8 [(.t 54)]⟩,
   ⟨none, some 56, 56, .app 8 80 (.t 44) (.t 55)⟩,
   ⟨none, some 3, 3, .mv (.t 56)⟩] [[], [], [1], [], [3], [], [5], [], [6, 7], [8], [2, 4, 9], [10], [0, 11], [12, 12, 0, 1, 2, 3, 4, 5, 6, 7, 8, 9, 10, 11, 12]]) (.skip))))))
 (.reg [⟨none, some 17, 17, .mv (.t 4)⟩,
   ⟨none, some 18, 18, .bin .add (.t 17) (.k (.one (.pv (.int .i64 1))))⟩,
   ⟨none, some 4, 4, .mv (.t 18)⟩]))))))
 (.norm [3] (.seq (.reg [⟨none, some 57, 57, .mv (.t 3)⟩,
   ⟨none, some 2, 2, .mv (.t 57)⟩])
 (.ret))))))⟩
abbrev C_s_Tick (Te : Nat → List AV → Res → Prop) : Prop := ∀ (l : Lead) (h : l.In (2 ^ 31)), Te 36 [.agg (l.enc false)] ⟨[.one (slT true 8 Msg.row l.tick)], [l.enc false]⟩
theorem r_s_Tick {Te : Nat → List AV → Res → Prop} (c_s_LeadOk : C_s_LeadOk Te) (c_s_Walks : C_s_Walks Te) : ∀ (l : Lead) (h : l.In (2 ^ 31)), RunFn Te x_s_Tick [.agg (l.enc false)] ⟨[.one (slT true 8 Msg.row l.tick)], [l.enc false]⟩ := by
  intro l h
  refine ⟨by simp -implicitDefEqProofs (maxSteps := 1000000) only [x_s_Tick, go_sem], ?_⟩
  simp -implicitDefEqProofs (maxSteps := 1000000) only [x_s_Tick, go_sem]
  refine .of (c_s_LeadOk _ (h.mono (by decide))) ?_
  cases hok : l.ok
  · simp -implicitDefEqProofs (maxSteps := 1000000) only [go_sem, Lead.tick, hok, true_or, if_true]
    rfl
  · obtain ⟨p, a0, a1, e0, e1, t0, t1, rfl⟩ := Lead.ok_two hok
    cases hp : (p == 0) <;> simp -implicitDefEqProofs (maxSteps := 1000000) only [go_sem, hp]
    · have hp' : ¬ (p = 0) := by simpa using hp
      have hgoal : Lead.tick ⟨p, [a0, a1], [e0, e1], [t0, t1]⟩ = tickOne p 0 a0 e0 t0 ++ tickOne p 1 a1 e1 t1 := by
        simp only [Lead.tick, hok, hp', or_self, reduceCtorEq, if_false]
        rfl
      have len : ∀ p i a e t, (tickOne p i a e t).length ≤ 1 := fun p i a e t => by
        unfold tickOne
        split
        · exact Nat.le_refl _
        · split <;> simp
      have hw : ∀ w : Bool, (w = true → walks p = true) → (w = false → walks p = false) → walks p = w := fun w h1 h2 => by cases w <;> simp_all
      simp only [hgoal]
      refine loop_of (σ := Int × List Msg) (fun x => ⟨[(1, .bp 1 0), (3, .one (.rf 59 0 [] 8 0 x.2.length)), (4, .one (.pv (.int .i64 x.1)))], [(1, [.pv (.int .i64 p), .ro 1 [[bT a0], [bT a1]], .ro 1 [[bT e0], [bT e1]], .ro 1 [[sT t0], [sT t1]]])], [(0, Lead.enc false ⟨p, [a0, a1], [e0, e1], [t0, t1]⟩), (59, [.sl true 8 () (x.2.map Msg.row)])]⟩)
        (fun x => x.2.length ≤ 2 ∧ (x = (0, []) ∨ x = (1, tickOne p 0 a0 e0 t0) ∨ x = (2, tickOne p 0 a0 e0 t0 ++ tickOne p 1 a1 e1 t1))) (fun x => (2 - x.1).toNat) (0, []) ?_ ⟨by decide, .inl rfl⟩ ?_
      · simp -implicitDefEqProofs (maxSteps := 1000000) only [go_sem]
      · rintro ⟨i, L⟩ ⟨hL, hi⟩
        simp only at hL
        rcases hi with hi | hi | hi <;> obtain ⟨rfl, rfl⟩ := Prod.mk.inj hi <;> clear hi
        · cases a0
          · simp -implicitDefEqProofs (maxSteps := 1000000) only [go_sem, Int.reduceAdd, IntWalk.i64_in 1 (by decide), IntWalk.i64_in 2 (by decide), IntWalk.i64_in 3 (by decide), IntWalk.i64_in 4 (by decide)]
            repeat (first | refine ⟨rfl, ?_⟩ | refine ⟨by decide, ?_⟩ | refine ⟨decide_eq_true (by omega), ?_⟩ | refine ⟨⟨decide_eq_true (by omega), decide_eq_true (by omega)⟩, ?_⟩)
            exact ⟨(1, tickOne p 0 false e0 t0), rfl, ⟨by have := len p 0 false e0 t0; simp only; omega, .inr (.inl rfl)⟩, (by decide : (2 - (1:Int)).toNat < (2 - (0:Int)).toNat)⟩
          · simp -implicitDefEqProofs (maxSteps := 1000000) only [go_sem, Int.reduceAdd, IntWalk.i64_in 1 (by decide), IntWalk.i64_in 2 (by decide), IntWalk.i64_in 3 (by decide), IntWalk.i64_in 4 (by decide)]
            refine .of (c_s_Walks _) ?_
            cases w : walks p
            · simp -implicitDefEqProofs (maxSteps := 1000000) only [go_sem, Int.reduceAdd, IntWalk.i64_in 1 (by decide), IntWalk.i64_in 2 (by decide), IntWalk.i64_in 3 (by decide), IntWalk.i64_in 4 (by decide)]
              exact ⟨(1, []), rfl, ⟨by decide, .inr (.inl (by simp [tickOne, w]))⟩, (by decide : (2 - (1:Int)).toNat < (2 - (0:Int)).toNat)⟩
            · cases e0
              · simp -implicitDefEqProofs (maxSteps := 1000000) only [go_sem, Int.reduceAdd, IntWalk.i64_in 1 (by decide), IntWalk.i64_in 2 (by decide), IntWalk.i64_in 3 (by decide), IntWalk.i64_in 4 (by decide)]
                repeat (first | refine ⟨rfl, ?_⟩ | refine ⟨by decide, ?_⟩ | refine ⟨decide_eq_true (by omega), ?_⟩ | refine ⟨⟨decide_eq_true (by omega), decide_eq_true (by omega)⟩, ?_⟩)
                exact ⟨(1, [⟨8, 0, 3, 0, t0, ⟨#[]⟩, p, 0⟩]), rfl, ⟨(by show (1:Nat) ≤ 2; decide), .inr (.inl (by simp [tickOne, w]))⟩, (by decide : (2 - (1:Int)).toNat < (2 - (0:Int)).toNat)⟩
              · simp -implicitDefEqProofs (maxSteps := 1000000) only [go_sem, Int.reduceAdd, IntWalk.i64_in 1 (by decide), IntWalk.i64_in 2 (by decide), IntWalk.i64_in 3 (by decide), IntWalk.i64_in 4 (by decide)]
                exact ⟨(1, []), rfl, ⟨by decide, .inr (.inl (by simp [tickOne, w]))⟩, (by decide : (2 - (1:Int)).toNat < (2 - (0:Int)).toNat)⟩
        · have hl := len p 0 a0 e0 t0
          generalize hT : tickOne p 0 a0 e0 t0 = L at *
          cases a1
          · simp -implicitDefEqProofs (maxSteps := 1000000) only [go_sem, Int.reduceAdd, IntWalk.i64_in 1 (by decide), IntWalk.i64_in 2 (by decide), IntWalk.i64_in 3 (by decide), IntWalk.i64_in 4 (by decide)]
            repeat (first | refine ⟨rfl, ?_⟩ | refine ⟨by decide, ?_⟩ | refine ⟨decide_eq_true (by omega), ?_⟩ | refine ⟨⟨decide_eq_true (by omega), decide_eq_true (by omega)⟩, ?_⟩)
            exact ⟨(2, L ++ [⟨6, 0, 4, 0, ⟨#[]⟩, ⟨#[]⟩, p, 0⟩]), by simp only [List.map_append, List.length_append]; rfl, ⟨by simp only [List.length_append, List.length_cons, List.length_nil]; omega, .inr (.inr rfl)⟩, (by decide : (2 - (2:Int)).toNat < (2 - (1:Int)).toNat)⟩
          · simp -implicitDefEqProofs (maxSteps := 1000000) only [go_sem, Int.reduceAdd, IntWalk.i64_in 1 (by decide), IntWalk.i64_in 2 (by decide), IntWalk.i64_in 3 (by decide), IntWalk.i64_in 4 (by decide)]
            refine .of (c_s_Walks _) ?_
            cases w : walks p
            · simp -implicitDefEqProofs (maxSteps := 1000000) only [go_sem, Int.reduceAdd, IntWalk.i64_in 1 (by decide), IntWalk.i64_in 2 (by decide), IntWalk.i64_in 3 (by decide), IntWalk.i64_in 4 (by decide)]
              exact ⟨(2, L), rfl, ⟨by simp only; omega, .inr (.inr (by simp [tickOne, w]))⟩, (by decide : (2 - (2:Int)).toNat < (2 - (1:Int)).toNat)⟩
            · cases e1
              · simp -implicitDefEqProofs (maxSteps := 1000000) only [go_sem, Int.reduceAdd, IntWalk.i64_in 1 (by decide), IntWalk.i64_in 2 (by decide), IntWalk.i64_in 3 (by decide), IntWalk.i64_in 4 (by decide)]
                repeat (first | refine ⟨rfl, ?_⟩ | refine ⟨by decide, ?_⟩ | refine ⟨decide_eq_true (by omega), ?_⟩ | refine ⟨⟨decide_eq_true (by omega), decide_eq_true (by omega)⟩, ?_⟩)
                exact ⟨(2, L ++ [⟨8, 0, 4, 0, t1, ⟨#[]⟩, p, 0⟩]), by simp only [List.map_append, List.length_append]; rfl, ⟨by simp only [List.length_append, List.length_cons, List.length_nil]; omega, .inr (.inr (by simp [tickOne, w]))⟩, (by decide : (2 - (2:Int)).toNat < (2 - (1:Int)).toNat)⟩
              · simp -implicitDefEqProofs (maxSteps := 1000000) only [go_sem, Int.reduceAdd, IntWalk.i64_in 1 (by decide), IntWalk.i64_in 2 (by decide), IntWalk.i64_in 3 (by decide), IntWalk.i64_in 4 (by decide)]
                exact ⟨(2, L), rfl, ⟨by simp only; omega, .inr (.inr (by simp [tickOne, w]))⟩, (by decide : (2 - (2:Int)).toNat < (2 - (1:Int)).toNat)⟩
        · generalize tickOne p 0 a0 e0 t0 ++ tickOne p 1 a1 e1 t1 = L
          simp -implicitDefEqProofs (maxSteps := 1000000) only [go_sem]
    · have hp' : p = 0 := by simpa using hp
      simp -implicitDefEqProofs (maxSteps := 1000000) only [go_sem, Lead.tick, hok, hp', or_true, if_true]
      rfl
end Go.X

/- I -/
namespace Go.X
set_option maxRecDepth 100000
set_option maxHeartbeats 8000000
theorem bytes_tri : ∀ x y : List UInt8, (!(Op.bytesLess y x || y == x)) = Op.bytesLess x y
  | [], [] => rfl
  | [], _ :: _ => rfl
  | _ :: _, [] => rfl
  | a :: x, b :: y => by
    have ih := bytes_tri x y
    simp only [Op.bytesLess, List.cons_beq_cons]
    rcases (show a < b ∨ a = b ∨ b < a by rcases Nat.lt_trichotomy a.toNat b.toNat with h | h | h; exact .inl (UInt8.lt_iff_toNat_lt.2 h); exact .inr (.inl (UInt8.toNat_inj.1 h)); exact .inr (.inr (UInt8.lt_iff_toNat_lt.2 h))) with h | h | h
    · have h1 : ¬ b < a := UInt8.lt_asymm h
      have h2 : (b == a) = false := by simpa using (fun e : b = a => UInt8.ne_of_lt h e.symm)
      simp [h, h1, h2]
    · subst h
      have h1 : ¬ a < a := UInt8.lt_irrefl a
      simp only [h1, decide_false, beq_self_eq_true, Bool.false_or, Bool.true_and]
      exact ih
    · have h1 : ¬ a < b := UInt8.lt_asymm h
      have h2 : (a == b) = false := by simpa using (fun e : a = b => UInt8.ne_of_lt h e.symm)
      simp [h, h1, h2]
def maxS (a b : ByteArray) : ByteArray := bif !(Op.bytesLess a.toList b.toList) then a else b
def hearGo (p : Int) (a0 a1 e0 e1 : Bool) (t0 t1 : ByteArray) : Lead := if ((a0 && a1) && ((e0 && e1) || !walks p) && !final p) = true then leadIn (p + 1) else ⟨p, [a0, a1], [e0, e1], [t0, t1]⟩
def Lead.hearIn (l : Lead) (m : Msg) : Lead :=
  match l with
  | ⟨p, [a0, a1], [e0, e1], [t0, t1]⟩ =>
    if m.Kind = 7 then (if m.From = 3 then hearGo p true a1 e0 e1 t0 t1 else hearGo p a0 true e0 e1 t0 t1)
    else if m.Kind = 9 ∧ (if m.From = 3 then a0 else a1) = true then
      if m.Code = 1 then (if m.From = 3 then hearGo p a0 a1 true e1 t0 t1 else hearGo p a0 a1 e0 true t0 t1)
      else (if m.From = 3 then hearGo p a0 a1 e0 e1 (maxS t0 m.Key) t1 else hearGo p a0 a1 e0 e1 t0 (maxS t1 m.Key))
    else l
  | _ => l
def Lead.hear (l : Lead) (m : Msg) : Lead := if (l.ok && m.ok && decide (m.From ≥ 3) && (m.To == 0) && (m.N == l.Phase) && !(l.Phase == 0)) = true then l.hearIn m else l
theorem hearGo_len (p : Int) (a0 a1 e0 e1 : Bool) (t0 t1 : ByteArray) : (hearGo p a0 a1 e0 e1 t0 t1).Len := by
  unfold hearGo
  split
  · exact (leadIn_In _).len (by decide)
  · exact ⟨(by show 2 ≤ 2 ^ 31; decide), (by show 2 ≤ 2 ^ 31; decide), (by show 2 ≤ 2 ^ 31; decide)⟩
theorem hear_len {l : Lead} (m : Msg) (h : l.Len) : (l.hear m).Len := by
  unfold Lead.hear
  split
  · unfold Lead.hearIn
    split
    · repeat' split
      all_goals first | exact hearGo_len .. | exact h
    · exact h
  · exact h
def x_i_Hear_1 : XCode := .seq (.reg [⟨none, some 84, 84, .faddr (.t 5) 1⟩,
   ⟨none, some 85, 85, .load none (.t 84)⟩,
   ⟨none, some 86, 86, .iaddr 1 (.t 85) (.k (.one (.pv (.int .i64 0))))⟩,
   ⟨none, some 87, 87, .load none (.t 86)⟩,
   ⟨none, some 88, 88, .mv (.t 87)⟩,
   ⟨(some (88, true)), some 89, 89, .faddr (.t 5) 1⟩,
   ⟨(some (88, true)), some 90, 90, .load none (.t 89)⟩,
   ⟨(some (88, true)), some 91, 91, .iaddr 1 (.t 90) (.k (.one (.pv (.int .i64 1))))⟩,
   ⟨(some (88, true)), some 92, 92, .load none (.t 91)⟩,
   ⟨none, some 93, 93, .pick (.t 88) (.t 92) (.k (.one (.pv (.bool false))))⟩,
   ⟨none, some 7, 7, .mv (.t 93)⟩])
 (.seq (.reg [⟨none, some 94, 94, .faddr (.t 5) 2⟩,
   ⟨none, some 95, 95, .load none (.t 94)⟩,
   ⟨none, some 96, 96, .iaddr 1 (.t 95) (.k (.one (.pv (.int .i64 0))))⟩,
   ⟨none, some 97, 97, .load none (.t 96)⟩,
   ⟨none, some 98, 98, .mv (.t 97)⟩,
   ⟨(some (98, true)), some 99, 99, .faddr (.t 5) 2⟩,
   ⟨(some (98, true)), some 100, 100, .load none (.t 99)⟩,
   ⟨(some (98, true)), some 101, 101, .iaddr 1 (.t 100) (.k (.one (.pv (.int .i64 1))))⟩,
   ⟨(some (98, true)), some 102, 102, .load none (.t 101)⟩,
   ⟨none, some 103, 103, .pick (.t 98) (.t 102) (.k (.one (.pv (.bool false))))⟩,
   ⟨none, some 8, 8, .mv (.t 103)⟩])
 (.seq (.seq (.reg [⟨none, some 104, 104, .mv (.t 7)⟩,
   ⟨none, some 105, 105, .mv (.t 104)⟩,
   ⟨(some (105, true)), some 106, 106, .mv (.t 8)⟩,
   ⟨(some (105, true)), some 107, 107, .mv (.t 106)⟩,
   ⟨(some (107, false)), some 108, 108, .faddr (.t 2) 0⟩,
   ⟨(some (107, false)), some 109, 109, .load none (.t 108)⟩,
   ⟨(some (107, false)), some 110, 110, .call 67 [0] [(.t 109)]⟩,
   ⟨(some (107, false)), some 111, 111, .not (.t 110)⟩,
   ⟨(some (105, true)), some 112, 112, .pick (.t 107) (.k (.one (.pv (.bool true)))) (.t 111)⟩,
   ⟨none, some 113, 113, .pick (.t 105) (.t 112) (.k (.one (.pv (.bool false))))⟩,
   ⟨none, some 114, 114, .mv (.t 113)⟩,
   ⟨(some (114, true)), some 115, 115, .faddr (.t 2) 0⟩,
   ⟨(some (114, true)), some 116, 116, .load none (.t 115)⟩,
   ⟨(some (114, true)), some 117, 117, .call 69 [0] [(.t 116)]⟩,
   ⟨(some (114, true)), some 118, 118, .not (.t 117)⟩,
   ⟨none, some 119, 119, .pick (.t 114) (.t 118) (.k (.one (.pv (.bool false))))⟩])
 (.cond 119 (.seq (.reg [⟨none, some 120, 120, .faddr (.t 2) 0⟩,
   ⟨none, some 121, 121, .load none (.t 120)⟩,
   ⟨none, some 122, 122, .bin .add (.t 121) (.k (.one (.pv (.int .i64 1))))⟩,
   ⟨none, some 123, 123, .call 63 [0] [(.t 122)]⟩,
   ⟨none, none, 100007, .store 4 (.t 4) (.t 123)⟩])
 (.ret)) (.skip)))
 (.seq (.reg [⟨none, some 124, 124, .load (some 4) (.t 5)⟩,
   ⟨none, none, 100008, .store 4 (.t 4) (.t 124)⟩])
 (.ret))))
def x_i_Hear : FnX := ⟨125, [.cell 4 (some 4)],
  .seq (.reg [⟨none, some 2, 2, .box (.t 0)⟩,
   ⟨none, some 3, 3, .box (.t 1)⟩,
   ⟨none, some 4, 4, .alloc [.pv (.int .i64 0), .nils 1, .nils 1, .nils 1]⟩])
 (.seq (.reg [⟨none, some 9, 9, .load (some 4) (.t 2)⟩,
   ⟨none, some 10, 10, .call 62 [0] [(.t 9)]⟩,
   ⟨none, some 5, 5, .alloc [.pv (.int .i64 0), .nils 1, .nils 1, .nils 1]⟩,
   ⟨none, none, 100001, .store 4 (.t 5) (.t 10)⟩])
 (.seq (.seq (.reg [⟨none, some 11, 11, .load (some 4) (.t 2)⟩,
   ⟨none, some 12, 12, .call 31 [0] [(.t 11)]⟩,
   ⟨none, some 13, 13, .not (.t 12)⟩,
   ⟨none, some 14, 14, .mv (.t 13)⟩,
   ⟨(some (14, false)), some 15, 15, .load (some 8) (.t 3)⟩,
   ⟨(some (14, false)), some 16, 16, .call 50 [0] [(.t 15)]⟩,
   ⟨(some (14, false)), some 17, 17, .not (.t 16)⟩,
   ⟨none, some 18, 18, .pick (.t 14) (.k (.one (.pv (.bool true)))) (.t 17)⟩,
   ⟨none, some 19, 19, .mv (.t 18)⟩,
   ⟨(some (19, false)), some 20, 20, .faddr (.t 3) 1⟩,
   ⟨(some (19, false)), some 21, 21, .load none (.t 20)⟩,
   ⟨(some (19, false)), some 22, 22, .bin .lss (.t 21) (.k (.one (.pv (.int .i64 3))))⟩,
   ⟨none, some 23, 23, .pick (.t 19) (.k (.one (.pv (.bool true)))) (.t 22)⟩,
   ⟨none, some 24, 24, .mv (.t 23)⟩,
   ⟨(some (24, false)), some 25, 25, .faddr (.t 3) 2⟩,
   ⟨(some (24, false)), some 26, 26, .load none (.t 25)⟩,
   ⟨(some (24, false)), some 27, 27, .bin .neq (.t 26) (.k (.one (.pv (.int .i64 0))))⟩,
   ⟨none, some 28, 28, .pick (.t 24) (.k (.one (.pv (.bool true)))) (.t 27)⟩,
   ⟨none, some 29, 29, .mv (.t 28)⟩,
   ⟨(some (29, false)), some 30, 30, .faddr (.t 3) 6⟩,
   ⟨(some (29, false)), some 31, 31, .load none (.t 30)⟩,
   ⟨(some (29, false)), some 32, 32, .faddr (.t 2) 0⟩,
   ⟨(some (29, false)), some 33, 33, .load none (.t 32)⟩,
   ⟨(some (29, false)), some 34, 34, .bin .neq (.t 31) (.t 33)⟩,
   ⟨none, some 35, 35, .pick (.t 29) (.k (.one (.pv (.bool true)))) (.t 34)⟩,
   ⟨none, some 36, 36, .mv (.t 35)⟩,
   ⟨(some (36, false)), some 37, 37, .faddr (.t 2) 0⟩,
   ⟨(some (36, false)), some 38, 38, .load none (.t 37)⟩,
   ⟨(some (36, false)), some 39, 39, .bin .eql (.t 38) (.k (.one (.pv (.int .i64 0))))⟩,
   ⟨none, some 40, 40, .pick (.t 36) (.k (.one (.pv (.bool true)))) (.t 39)⟩])
 (.cond 40 (.seq (.reg [⟨none, some 41, 41, .load (some 4) (.t 5)⟩,
   ⟨none, none, 100002, .store 4 (.t 4) (.t 41)⟩])
 (.ret)) (.skip)))
 (.seq (.reg [⟨none, some 42, 42, .faddr (.t 3) 1⟩,
   ⟨none, some 43, 43, .load none (.t 42)⟩,
   ⟨none, some 44, 44, .bin .sub (.t 43) (.k (.one (.pv (.int .i64 3))))⟩,
   ⟨none, some 6, 6, .mv (.t 44)⟩])
 (.seq (.block 0 (.seq (.reg [⟨none, some 47, 47, .faddr (.t 3) 0⟩,
   ⟨none, some 48, 48, .load none (.t 47)⟩,
   ⟨none, some 49, 49, .bin .eql (.t 48) (.k (.one (.pv (.int .i64 7))))⟩,
   ⟨none, some 46, 46, .mv (.t 49)⟩])
 (.cond 46 (.reg [⟨none, some 50, 50, .faddr (.t 5) 1⟩,
   ⟨none, some 51, 51, .load none (.t 50)⟩,
   ⟨none, some 52, 52, .mv (.t 6)⟩,
   ⟨none, some 53, 53, .iaddr 1 (.t 51) (.t 52)⟩,
   ⟨none, none, 100003, .store 1 (.t 53) (.k (.one (.pv (.bool true))))⟩]) (.seq (.reg [⟨none, some 55, 55, .faddr (.t 3) 0⟩,
   ⟨none, some 56, 56, .load none (.t 55)⟩,
   ⟨none, some 57, 57, .bin .eql (.t 56) (.k (.one (.pv (.int .i64 9))))⟩,
   ⟨none, some 58, 58, .mv (.t 57)⟩,
   ⟨(some (58, true)), some 59, 59, .faddr (.t 2) 1⟩,
   ⟨(some (58, true)), some 60, 60, .load none (.t 59)⟩,
   ⟨(some (58, true)), some 61, 61, .mv (.t 6)⟩,
   ⟨(some (58, true)), some 62, 62, .iaddr 1 (.t 60) (.t 61)⟩,
   ⟨(some (58, true)), some 63, 63, .load none (.t 62)⟩,
   ⟨none, some 64, 64, .pick (.t 58) (.t 63) (.k (.one (.pv (.bool false))))⟩,
   ⟨none, some 54, 54, .mv (.t 64)⟩])
 (.cond 54 (.seq (.reg [⟨none, some 65, 65, .faddr (.t 3) 7⟩,
   ⟨none, some 66, 66, .load none (.t 65)⟩,
   ⟨none, some 67, 67, .bin .eql (.t 66) (.k (.one (.pv (.int .i64 1))))⟩])
 (.cond 67 (.reg [⟨none, some 68, 68, .faddr (.t 5) 2⟩,
   ⟨none, some 69, 69, .load none (.t 68)⟩,
   ⟨none, some 70, 70, .mv (.t 6)⟩,
   ⟨none, some 71, 71, .iaddr 1 (.t 69) (.t 70)⟩,
   ⟨none, none, 100004, .store 1 (.t 71) (.k (.one (.pv (.bool true))))⟩]) (.draw [⟨none, some 72, 72, .faddr (.t 5) 3⟩,
   ⟨none, some 73, 73, .load none (.t 72)⟩,
   ⟨none, some 74, 74, .mv (.t 6)⟩,
   ⟨none, some 75, 75, .faddr (.t 2) 3⟩,
   ⟨none, some 76, 76, .load none (.t 75)⟩,
   ⟨none, some 77, 77, .mv (.t 6)⟩,
   ⟨none, some 78, 78, .iaddr 1 (.t 76) (.t 77)⟩,
   ⟨none, some 79, 79, .load none (.t 78)⟩,
   ⟨none, some 80, 80, .faddr (.t 3) 4⟩,
   ⟨none, some 81, 81, .load none (.t 80)⟩,
   ⟨none, some 82, 82, .max (.t 79) (.t 81)⟩,
   ⟨none, some 83, 83, .iaddr 1 (.t 73) (.t 74)⟩,
   ⟨none, none, 100005, .store 1 (.t 83) (.t 82)⟩] [[], [0], [], [], [3], [], [4, 5], [6], [], [8], [7, 9], [1, 2, 0, 1, 2, 3, 4, 5, 6, 7, 8, 9, 10], [11, 10, 0, 1, 2, 3, 4, 5, 6, 7, 8, 9, 10]]))) (.seq (.reg [⟨none, some 45, 45, .load (some 4) (.t 5)⟩,
   ⟨none, none, 100006, .store 4 (.t 4) (.t 45)⟩])
 (.ret)))))))
 (.norm [2, 4, 5] (x_i_Hear_1))))))⟩
abbrev C_i_Hear (Te : Nat → List AV → Res → Prop) : Prop := ∀ (l : Lead) (m : Msg) (h : l.In (2 ^ 31)), Te 37 [.agg (l.enc false), .agg m.row] ⟨[.agg ((l.hear m).enc true)], [l.enc false, m.row]⟩
theorem i_Hear_tail {Te : Nat → List AV → Res → Prop} (c_W : C_i_Walks Te) (c_F : C_i_Final Te) (c_L : C_i_leadIn Te) (p : Int) (a0 a1 e0 e1 : Bool) (t0 t1 : ByteArray) (x0 x1 y0 y1 : Bool) (z0 z1 : ByteArray) (m : Msg) (hp : 0 ≤ p ∧ p ≤ 7) :
    runC Te 2 127 x_i_Hear_1 ⟨[(2, .bp 2 0), (4, .bp 4 0), (5, .bp 5 0)], [(2, [.pv (.int .i64 p), .ro 1 [bR x0, bR x1], .ro 1 [bR y0, bR y1], .ro 1 [sR z0, sR z1]]), (4, [.pv (.int .i64 0), .nils 1, .nils 1, .nils 1]), (5, [.pv (.int .i64 p), .rf 127 1 [] 1 0 2, .rf 127 2 [] 1 0 2, .rf 127 3 [] 1 0 2])],
      [(0, Lead.enc false ⟨p, [x0, x1], [y0, y1], [z0, z1]⟩), (1, m.row), (127, [iT p, .sl true 1 () [bR a0, bR a1], .sl true 1 () [bR e0, bR e1], .sl true 1 () [sR t0, sR t1]])]⟩
      (EndFn Te [.agg (Lead.enc false ⟨p, [x0, x1], [y0, y1], [z0, z1]⟩), .agg m.row] [.cell 4 (some 4)] ⟨[.agg ((hearGo p a0 a1 e0 e1 t0 t1).enc true)], [Lead.enc false ⟨p, [x0, x1], [y0, y1], [z0, z1]⟩, m.row]⟩) := by
  have hw : IntKind.i64.wrap (p + 1) = p + 1 := IntWalk.i64_in _ (by omega)
  simp only [hearGo]
  cases a0
  · cases e0 <;> simp -implicitDefEqProofs (maxSteps := 1000000) only [x_i_Hear_1, go_sem, if_false] <;> rfl
  cases a1
  · cases e0 <;> simp -implicitDefEqProofs (maxSteps := 1000000) only [x_i_Hear_1, go_sem, if_false] <;> rfl
  cases e0
  · simp -implicitDefEqProofs (maxSteps := 1000000) only [x_i_Hear_1, go_sem]
    refine .of (c_W _) ?_
    cases w : walks p
    · simp -implicitDefEqProofs (maxSteps := 1000000) only [go_sem, w]
      refine .of (c_F _) ?_
      cases f : final p
      · simp -implicitDefEqProofs (maxSteps := 1000000) only [go_sem, f, hw]
        refine .of (c_L _) ?_
        simp -implicitDefEqProofs (maxSteps := 1000000) only [go_sem, if_true]
      · simp -implicitDefEqProofs (maxSteps := 1000000) only [go_sem, f, if_false]
        rfl
    · simp -implicitDefEqProofs (maxSteps := 1000000) only [go_sem, w, if_false]
      rfl
  cases e1
  · simp -implicitDefEqProofs (maxSteps := 1000000) only [x_i_Hear_1, go_sem]
    refine .of (c_W _) ?_
    cases w : walks p
    · simp -implicitDefEqProofs (maxSteps := 1000000) only [go_sem, w]
      refine .of (c_F _) ?_
      cases f : final p
      · simp -implicitDefEqProofs (maxSteps := 1000000) only [go_sem, f, hw]
        refine .of (c_L _) ?_
        simp -implicitDefEqProofs (maxSteps := 1000000) only [go_sem, if_true]
      · simp -implicitDefEqProofs (maxSteps := 1000000) only [go_sem, f, if_false]
        rfl
    · simp -implicitDefEqProofs (maxSteps := 1000000) only [go_sem, w, if_false]
      rfl
  · simp -implicitDefEqProofs (maxSteps := 1000000) only [x_i_Hear_1, go_sem]
    refine .of (c_F _) ?_
    cases f : final p
    · simp -implicitDefEqProofs (maxSteps := 1000000) only [go_sem, f, hw]
      refine .of (c_L _) ?_
      simp -implicitDefEqProofs (maxSteps := 1000000) only [go_sem, if_true]
    · simp -implicitDefEqProofs (maxSteps := 1000000) only [go_sem, f, if_false]
      rfl
theorem r_i_Hear {Te : Nat → List AV → Res → Prop} (c_i_copyLead : C_i_copyLead Te) (c_i_LeadOk : C_i_LeadOk Te) (c_i_MsgOk : C_i_MsgOk Te) (c_i_Walks : C_i_Walks Te) (c_i_Final : C_i_Final Te) (c_i_leadIn : C_i_leadIn Te) : ∀ (l : Lead) (m : Msg) (h : l.In (2 ^ 31)), RunFn Te x_i_Hear [.agg (l.enc false), .agg m.row] ⟨[.agg ((l.hear m).enc true)], [l.enc false, m.row]⟩ := by
  intro l m h
  refine ⟨by simp -implicitDefEqProofs (maxSteps := 1000000) only [x_i_Hear, go_sem], ?_⟩
  simp -implicitDefEqProofs (maxSteps := 1000000) only [x_i_Hear, go_sem]
  refine .of (c_i_copyLead _ h) ?_
  simp -implicitDefEqProofs (maxSteps := 1000000) only [go_sem]
  refine .of (c_i_LeadOk _ (h.mono (by decide))) ?_
  cases hok : l.ok
  · simp -implicitDefEqProofs (maxSteps := 1000000) only [go_sem, Lead.hear, hok, if_false]
  simp -implicitDefEqProofs (maxSteps := 1000000) only [go_sem]
  refine .of (c_i_MsgOk _) ?_
  cases hm : m.ok
  · simp -implicitDefEqProofs (maxSteps := 1000000) only [go_sem, Lead.hear, hok, hm, if_false]
  cases g1 : decide (m.From < 3)
  · have g1' : decide (m.From ≥ 3) = true := by simp at g1 ⊢; omega
    cases g2 : (m.To != 0)
    · have g2' : (m.To == 0) = true := by simpa using g2
      cases g3 : (m.N != l.Phase)
      · have g3' : (m.N == l.Phase) = true := by simpa using g3
        cases g4 : (l.Phase == 0)
        · obtain ⟨p, a0, a1, e0, e1, t0, t1, rfl⟩ := Lead.ok_two hok
          obtain ⟨k, f, t, sq, key, tx, n, c⟩ := m
          have hf : f = 3 ∨ f = 4 := by
            simp only [Msg.ok, win, Bool.and_eq_true, decide_eq_true_eq] at hm
            simp only [decide_eq_false_iff_not] at g1
            omega
          have hp : 0 ≤ p ∧ p ≤ 7 := by
            simp only [Lead.ok, win, Bool.and_eq_true, decide_eq_true_eq] at hok
            omega
          have hgoal : Lead.hear ⟨p, [a0, a1], [e0, e1], [t0, t1]⟩ ⟨k, f, t, sq, key, tx, n, c⟩ = Lead.hearIn ⟨p, [a0, a1], [e0, e1], [t0, t1]⟩ ⟨k, f, t, sq, key, tx, n, c⟩ := by
            simp only [Lead.hear, hok, hm, g1', g2', g3', g4, Bool.and_true, Bool.not_false, if_true]
          simp only [hgoal]
          clear hgoal
          simp only at g1 g2 g3 g4
          clear hok h
          have tail := fun a0' a1' e0' e1' t0' t1' => i_Hear_tail c_i_Walks c_i_Final c_i_leadIn p a0' a1' e0' e1' t0' t1' a0 a1 e0 e1 t0 t1 ⟨k, f, t, sq, key, tx, n, c⟩ hp
          rcases hf with rfl | rfl
          · cases g5 : (k == 7)
            · have g5' : ¬ (k = 7) := by simpa using g5
              cases g6 : (k == 9)
              · have g6' : ¬ (k = 9) := by simpa using g6
                simp only [Lead.hearIn, g5', g6', if_false, false_and]
                simp -implicitDefEqProofs (maxSteps := 1000000) only [go_sem, storeAp, setCells, Int.reduceSub, IntWalk.i64_in 0 (by decide), IntWalk.i64_in 1 (by decide), g2, g3, g4, g5, g6]
                rfl
              · have g6' : k = 9 := by simpa using g6
                subst g6'
                cases a0
                · simp only [Lead.hearIn, g5', if_false, if_true, and_false, reduceCtorEq, Int.reduceEq]
                  simp -implicitDefEqProofs (maxSteps := 1000000) only [go_sem, storeAp, setCells, Int.reduceSub, IntWalk.i64_in 0 (by decide), IntWalk.i64_in 1 (by decide), g2, g3, g4, g5, g6]
                  rfl
                · cases g7 : (c == 1)
                  · have g7' : ¬ (c = 1) := by simpa using g7
                    simp only [Lead.hearIn, g5', g7', if_false, if_true, and_true, Int.reduceEq]
                    simp -implicitDefEqProofs (maxSteps := 1000000) only [go_sem, storeAp, setCells, Int.reduceSub, IntWalk.i64_in 0 (by decide), IntWalk.i64_in 1 (by decide), g2, g3, g4, g5, g6, g7]
                    refine ⟨by decide, ?_⟩
                    have tl := tail true a1 e0 e1 (maxS t0 key) t1
                    simp only [maxS] at tl ⊢
                    simp only [slT, List.map_cons, List.map_nil]
                    with_reducible exact tl
                  · have g7' : c = 1 := by simpa using g7
                    subst g7'
                    simp only [Lead.hearIn, g5', if_false, if_true, and_true, Int.reduceEq]
                    simp -implicitDefEqProofs (maxSteps := 1000000) only [go_sem, storeAp, setCells, Int.reduceSub, IntWalk.i64_in 0 (by decide), IntWalk.i64_in 1 (by decide), g2, g3, g4, g5, g6, g7]
                    simp only [slT, List.map_cons, List.map_nil]
                    with_reducible exact tail true a1 true e1 t0 t1
            · have g5' : k = 7 := by simpa using g5
              subst g5'
              simp only [Lead.hearIn, if_true, if_false, Int.reduceEq]
              simp -implicitDefEqProofs (maxSteps := 1000000) only [go_sem, storeAp, setCells, Int.reduceSub, IntWalk.i64_in 0 (by decide), IntWalk.i64_in 1 (by decide), g2, g3, g4, g5]
              simp only [slT, List.map_cons, List.map_nil]
              with_reducible exact tail true a1 e0 e1 t0 t1
          · cases g5 : (k == 7)
            · have g5' : ¬ (k = 7) := by simpa using g5
              cases g6 : (k == 9)
              · have g6' : ¬ (k = 9) := by simpa using g6
                simp only [Lead.hearIn, g5', g6', if_false, false_and]
                simp -implicitDefEqProofs (maxSteps := 1000000) only [go_sem, storeAp, setCells, Int.reduceSub, IntWalk.i64_in 0 (by decide), IntWalk.i64_in 1 (by decide), g2, g3, g4, g5, g6]
                rfl
              · have g6' : k = 9 := by simpa using g6
                subst g6'
                cases a1
                · simp only [Lead.hearIn, g5', if_false, if_true, and_false, reduceCtorEq, Int.reduceEq]
                  simp -implicitDefEqProofs (maxSteps := 1000000) only [go_sem, storeAp, setCells, Int.reduceSub, IntWalk.i64_in 0 (by decide), IntWalk.i64_in 1 (by decide), g2, g3, g4, g5, g6]
                  rfl
                · cases g7 : (c == 1)
                  · have g7' : ¬ (c = 1) := by simpa using g7
                    simp only [Lead.hearIn, g5', g7', if_false, if_true, and_true, Int.reduceEq]
                    simp -implicitDefEqProofs (maxSteps := 1000000) only [go_sem, storeAp, setCells, Int.reduceSub, IntWalk.i64_in 0 (by decide), IntWalk.i64_in 1 (by decide), g2, g3, g4, g5, g6, g7]
                    refine ⟨by decide, ?_⟩
                    have tl := tail a0 true e0 e1 t0 (maxS t1 key)
                    simp only [maxS] at tl ⊢
                    simp only [slT, List.map_cons, List.map_nil]
                    with_reducible exact tl
                  · have g7' : c = 1 := by simpa using g7
                    subst g7'
                    simp only [Lead.hearIn, g5', if_false, if_true, and_true, Int.reduceEq]
                    simp -implicitDefEqProofs (maxSteps := 1000000) only [go_sem, storeAp, setCells, Int.reduceSub, IntWalk.i64_in 0 (by decide), IntWalk.i64_in 1 (by decide), g2, g3, g4, g5, g6, g7]
                    simp only [slT, List.map_cons, List.map_nil]
                    with_reducible exact tail a0 true e0 true t0 t1
            · have g5' : k = 7 := by simpa using g5
              subst g5'
              simp only [Lead.hearIn, if_true, if_false, Int.reduceEq]
              simp -implicitDefEqProofs (maxSteps := 1000000) only [go_sem, storeAp, setCells, Int.reduceSub, IntWalk.i64_in 0 (by decide), IntWalk.i64_in 1 (by decide), g2, g3, g4, g5]
              simp only [slT, List.map_cons, List.map_nil]
              with_reducible exact tail a0 true e0 e1 t0 t1
        · simp -implicitDefEqProofs (maxSteps := 1000000) only [go_sem, g1, g2, g3, g4, Lead.hear, hok, hm, if_false]
      · have g3' : (m.N == l.Phase) = false := by simpa using g3
        simp -implicitDefEqProofs (maxSteps := 1000000) only [go_sem, g1, g2, g3, Lead.hear, hok, hm, g3', if_false]
    · have g2' : (m.To == 0) = false := by simpa using g2
      simp -implicitDefEqProofs (maxSteps := 1000000) only [go_sem, g1, g2, Lead.hear, hok, hm, g2', if_false]
  · have g1' : decide (m.From ≥ 3) = false := by simp at g1 ⊢; omega
    simp -implicitDefEqProofs (maxSteps := 1000000) only [go_sem, g1, Lead.hear, hok, hm, g1', if_false]
def x_s_Hear_1 : XCode := .seq (.reg [⟨none, some 98, 98, .faddr (.t 5) 1⟩,
   ⟨none, some 99, 99, .load none (.t 98)⟩,
   ⟨none, some 100, 100, .iaddr 1 (.t 99) (.k (.one (.pv (.int .i64 0))))⟩,
   ⟨none, some 101, 101, .load none (.t 100)⟩,
   ⟨none, some 102, 102, .mv (.t 101)⟩,
   ⟨(some (102, true)), some 103, 103, .faddr (.t 5) 1⟩,
   ⟨(some (102, true)), some 104, 104, .load none (.t 103)⟩,
   ⟨(some (102, true)), some 105, 105, .iaddr 1 (.t 104) (.k (.one (.pv (.int .i64 1))))⟩,
   ⟨(some (102, true)), some 106, 106, .load none (.t 105)⟩,
   ⟨none, some 107, 107, .pick (.t 102) (.t 106) (.k (.one (.pv (.bool false))))⟩,
   ⟨none, some 108, 108, .mv (.t 107)⟩,
   ⟨(some (108, true)), some 109, 109, .faddr (.t 2) 0⟩,
   ⟨(some (108, true)), some 110, 110, .load none (.t 109)⟩,
   ⟨(some (108, true)), some 111, 111, .call 68 [0] [(.t 110)]⟩,
   ⟨(some (108, true)), some 112, 112, .not (.t 111)⟩,
   ⟨(some (108, true)), some 113, 113, .mv (.t 112)⟩,
   ⟨(some (113, false)), some 114, 114, .faddr (.t 5) 2⟩,
   ⟨(some (113, false)), some 115, 115, .load none (.t 114)⟩,
   ⟨(some (113, false)), some 116, 116, .iaddr 1 (.t 115) (.k (.one (.pv (.int .i64 0))))⟩,
   ⟨(some (113, false)), some 117, 117, .load none (.t 116)⟩,
   ⟨(some (113, false)), some 118, 118, .mv (.t 117)⟩,
   ⟨(some (118, true)), some 119, 119, .faddr (.t 5) 2⟩,
   ⟨(some (118, true)), some 120, 120, .load none (.t 119)⟩,
   ⟨(some (118, true)), some 121, 121, .iaddr 1 (.t 120) (.k (.one (.pv (.int .i64 1))))⟩,
   ⟨(some (118, true)), some 122, 122, .load none (.t 121)⟩,
   ⟨(some (113, false)), some 123, 123, .pick (.t 118) (.t 122) (.k (.one (.pv (.bool false))))⟩,
   ⟨(some (108, true)), some 124, 124, .pick (.t 113) (.k (.one (.pv (.bool true)))) (.t 123)⟩,
   ⟨none, some 125, 125, .pick (.t 108) (.t 124) (.k (.one (.pv (.bool false))))⟩,
   ⟨none, some 7, 7, .mv (.t 125)⟩])
 (.seq (.seq (.reg [⟨none, some 126, 126, .mv (.t 7)⟩,
   ⟨none, some 127, 127, .mv (.t 126)⟩,
   ⟨(some (127, true)), some 128, 128, .faddr (.t 2) 0⟩,
   ⟨(some (127, true)), some 129, 129, .load none (.t 128)⟩,
   ⟨(some (127, true)), some 130, 130, .call 70 [0] [(.t 129)]⟩,
   ⟨(some (127, true)), some 131, 131, .not (.t 130)⟩,
   ⟨none, some 132, 132, .pick (.t 127) (.t 131) (.k (.one (.pv (.bool false))))⟩])
 (.cond 132 (.seq (.reg [⟨none, some 133, 133, .faddr (.t 2) 0⟩,
   ⟨none, some 134, 134, .load none (.t 133)⟩,
   ⟨none, some 135, 135, .bin .add (.t 134) (.k (.one (.pv (.int .i64 1))))⟩,
   ⟨none, some 136, 136, .call 65 [0] [(.t 135)]⟩,
   ⟨none, none, 100007, .store 4 (.t 4) (.t 136)⟩])
 (.ret)) (.skip)))
 (.seq (.reg [⟨none, some 137, 137, .load (some 4) (.t 5)⟩,
   ⟨none, none, 100008, .store 4 (.t 4) (.t 137)⟩])
 (.ret)))
def x_s_Hear : FnX := ⟨138, [.cell 4 (some 4)],
  .seq (.reg [⟨none, some 2, 2, .box (.t 0)⟩,
   ⟨none, some 3, 3, .box (.t 1)⟩,
   ⟨none, some 4, 4, .alloc [.pv (.int .i64 0), .nils 1, .nils 1, .nils 1]⟩])
 (.seq (.reg [⟨none, some 8, 8, .load (some 4) (.t 2)⟩,
   ⟨none, some 9, 9, .call 64 [0] [(.t 8)]⟩,
   ⟨none, some 5, 5, .alloc [.pv (.int .i64 0), .nils 1, .nils 1, .nils 1]⟩,
   ⟨none, none, 100001, .store 4 (.t 5) (.t 9)⟩])
 (.seq (.seq (.reg [⟨none, some 10, 10, .load (some 4) (.t 2)⟩,
   ⟨none, some 11, 11, .call 32 [0] [(.t 10)]⟩,
   ⟨none, some 12, 12, .not (.t 11)⟩,
   ⟨none, some 13, 13, .mv (.t 12)⟩,
   ⟨(some (13, false)), some 14, 14, .load (some 8) (.t 3)⟩,
   ⟨(some (13, false)), some 15, 15, .call 55 [0] [(.t 14)]⟩,
   ⟨(some (13, false)), some 16, 16, .not (.t 15)⟩,
   ⟨none, some 17, 17, .pick (.t 13) (.k (.one (.pv (.bool true)))) (.t 16)⟩,
   ⟨none, some 18, 18, .mv (.t 17)⟩,
   ⟨(some (18, false)), some 19, 19, .faddr (.t 3) 2⟩,
   ⟨(some (18, false)), some 20, 20, .load none (.t 19)⟩,
   ⟨(some (18, false)), some 21, 21, .bin .neq (.t 20) (.k (.one (.pv (.int .i64 0))))⟩,
   ⟨none, some 22, 22, .pick (.t 18) (.k (.one (.pv (.bool true)))) (.t 21)⟩,
   ⟨none, some 23, 23, .mv (.t 22)⟩,
   ⟨(some (23, false)), some 24, 24, .faddr (.t 3) 1⟩,
   ⟨(some (23, false)), some 25, 25, .load none (.t 24)⟩,
   ⟨(some (23, false)), some 26, 26, .bin .lss (.t 25) (.k (.one (.pv (.int .i64 3))))⟩,
   ⟨none, some 27, 27, .pick (.t 23) (.k (.one (.pv (.bool true)))) (.t 26)⟩,
   ⟨none, some 28, 28, .mv (.t 27)⟩,
   ⟨(some (28, false)), some 29, 29, .faddr (.t 3) 6⟩,
   ⟨(some (28, false)), some 30, 30, .load none (.t 29)⟩,
   ⟨(some (28, false)), some 31, 31, .faddr (.t 2) 0⟩,
   ⟨(some (28, false)), some 32, 32, .load none (.t 31)⟩,
   ⟨(some (28, false)), some 33, 33, .bin .neq (.t 30) (.t 32)⟩,
   ⟨none, some 34, 34, .pick (.t 28) (.k (.one (.pv (.bool true)))) (.t 33)⟩,
   ⟨none, some 35, 35, .mv (.t 34)⟩,
   ⟨(some (35, false)), some 36, 36, .faddr (.t 2) 0⟩,
   ⟨(some (35, false)), some 37, 37, .load none (.t 36)⟩,
   ⟨(some (35, false)), some 38, 38, .bin .eql (.t 37) (.k (.one (.pv (.int .i64 0))))⟩,
   ⟨none, some 39, 39, .pick (.t 35) (.k (.one (.pv (.bool true)))) (.t 38)⟩])
 (.cond 39 (.seq (.reg [⟨none, some 40, 40, .load (some 4) (.t 5)⟩,
   ⟨none, none, 100002, .store 4 (.t 4) (.t 40)⟩])
 (.ret)) (.skip)))
 (.seq (.reg [⟨none, some 41, 41, .faddr (.t 3) 1⟩,
   ⟨none, some 42, 42, .load none (.t 41)⟩,
   ⟨none, some 43, 43, .bin .sub (.t 42) (.k (.one (.pv (.int .i64 3))))⟩,
   ⟨none, some 6, 6, .mv (.t 43)⟩])
 (.seq (.block 0 (.seq (.reg [⟨none, some 46, 46, .faddr (.t 3) 0⟩,
   ⟨none, some 47, 47, .load none (.t 46)⟩,
   ⟨none, some 48, 48, .bin .eql (.t 47) (.k (.one (.pv (.int .i64 7))))⟩,
   ⟨none, some 45, 45, .mv (.t 48)⟩])
 (.cond 45 (.reg [⟨none, some 49, 49, .faddr (.t 5) 1⟩,
   ⟨none, some 50, 50, .load none (.t 49)⟩,
   ⟨none, some 51, 51, .mv (.t 6)⟩,
   ⟨none, some 52, 52, .iaddr 1 (.t 50) (.t 51)⟩,
   ⟨none, none, 100003, .store 1 (.t 52) (.k (.one (.pv (.bool true))))⟩]) (.seq (.reg [⟨none, some 54, 54, .faddr (.t 3) 0⟩,
   ⟨none, some 55, 55, .load none (.t 54)⟩,
   ⟨none, some 56, 56, .bin .eql (.t 55) (.k (.one (.pv (.int .i64 9))))⟩,
   ⟨none, some 57, 57, .mv (.t 56)⟩,
   ⟨(some (57, true)), some 58, 58, .faddr (.t 2) 1⟩,
   ⟨(some (57, true)), some 59, 59, .load none (.t 58)⟩,
   ⟨(some (57, true)), some 60, 60, .mv (.t 6)⟩,
   ⟨(some (57, true)), some 61, 61, .iaddr 1 (.t 59) (.t 60)⟩,
   ⟨(some (57, true)), some 62, 62, .load none (.t 61)⟩,
   ⟨none, some 63, 63, .pick (.t 57) (.t 62) (.k (.one (.pv (.bool false))))⟩,
   ⟨none, some 64, 64, .mv (.t 63)⟩,
   ⟨(some (64, true)), some 65, 65, .faddr (.t 3) 7⟩,
   ⟨(some (64, true)), some 66, 66, .load none (.t 65)⟩,
   ⟨(some (64, true)), some 67, 67, .bin .eql (.t 66) (.k (.one (.pv (.int .i64 1))))⟩,
   ⟨none, some 68, 68, .pick (.t 64) (.t 67) (.k (.one (.pv (.bool false))))⟩,
   ⟨none, some 53, 53, .mv (.t 68)⟩])
 (.cond 53 (.reg [⟨none, some 69, 69, .faddr (.t 5) 2⟩,
   ⟨none, some 70, 70, .load none (.t 69)⟩,
   ⟨none, some 71, 71, .mv (.t 6)⟩,
   ⟨none, some 72, 72, .iaddr 1 (.t 70) (.t 71)⟩,
   ⟨none, none, 100004, .store 1 (.t 72) (.k (.one (.pv (.bool true))))⟩]) (.seq (.reg [⟨none, some 74, 74, .faddr (.t 3) 0⟩,
   ⟨none, some 75, 75, .load none (.t 74)⟩,
   ⟨none, some 76, 76, .bin .eql (.t 75) (.k (.one (.pv (.int .i64 9))))⟩,
   ⟨none, some 77, 77, .mv (.t 76)⟩,
   ⟨(some (77, true)), some 78, 78, .faddr (.t 2) 1⟩,
   ⟨(some (77, true)), some 79, 79, .load none (.t 78)⟩,
   ⟨(some (77, true)), some 80, 80, .mv (.t 6)⟩,
   ⟨(some (77, true)), some 81, 81, .iaddr 1 (.t 79) (.t 80)⟩,
   ⟨(some (77, true)), some 82, 82, .load none (.t 81)⟩,
   ⟨none, some 83, 83, .pick (.t 77) (.t 82) (.k (.one (.pv (.bool false))))⟩,
   ⟨none, some 73, 73, .mv (.t 83)⟩])
 (.cond 73 (.seq (.draw [⟨none, some 84, 84, .faddr (.t 3) 4⟩,
   ⟨none, some 85, 85, .load none (.t 84)⟩,
   ⟨none, some 86, 86, .faddr (.t 5) 3⟩,
   ⟨none, some 87, 87, .load none (.t 86)⟩,
   ⟨none, some 88, 88, .mv (.t 6)⟩,
   ⟨none, some 89, 89, .iaddr 1 (.t 87) (.t 88)⟩,
   ⟨none, some 90, 90, .load none (.t 89)⟩,
   ⟨none, some 91, 91, .bin .gtr (.t 85) (.t 90)⟩] [[], [0], [], [2], [], [3, 4], [5], [1, 6]])
 (.cond 91 (.reg [⟨none, some 92, 92, .faddr (.t 5) 3⟩,
   ⟨none, some 93, 93, .load none (.t 92)⟩,
   ⟨none, some 94, 94, .mv (.t 6)⟩,
   ⟨none, some 95, 95, .faddr (.t 3) 4⟩,
   ⟨none, some 96, 96, .load none (.t 95)⟩,
   ⟨none, some 97, 97, .iaddr 1 (.t 93) (.t 94)⟩,
   ⟨none, none, 100005, .store 1 (.t 97) (.t 96)⟩]) (.skip))) (.seq (.reg [⟨none, some 44, 44, .load (some 4) (.t 5)⟩,
   ⟨none, none, 100006, .store 4 (.t 4) (.t 44)⟩])
 (.ret)))))))))
 (.norm [2, 4, 5] (x_s_Hear_1))))))⟩
abbrev C_s_Hear (Te : Nat → List AV → Res → Prop) : Prop := ∀ (l : Lead) (m : Msg) (h : l.In (2 ^ 31)), Te 38 [.agg (l.enc false), .agg m.row] ⟨[.agg ((l.hear m).enc true)], [l.enc false, m.row]⟩
theorem s_Hear_tail {Te : Nat → List AV → Res → Prop} (c_W : C_s_Walks Te) (c_F : C_s_Final Te) (c_L : C_s_l19At Te) (p : Int) (a0 a1 e0 e1 : Bool) (t0 t1 : ByteArray) (x0 x1 y0 y1 : Bool) (z0 z1 : ByteArray) (m : Msg) (hp : 0 ≤ p ∧ p ≤ 7) :
    runC Te 2 140 x_s_Hear_1 ⟨[(2, .bp 2 0), (4, .bp 4 0), (5, .bp 5 0)], [(2, [.pv (.int .i64 p), .ro 1 [bR x0, bR x1], .ro 1 [bR y0, bR y1], .ro 1 [sR z0, sR z1]]), (4, [.pv (.int .i64 0), .nils 1, .nils 1, .nils 1]), (5, [.pv (.int .i64 p), .rf 140 1 [] 1 0 2, .rf 140 2 [] 1 0 2, .rf 140 3 [] 1 0 2])],
      [(0, Lead.enc false ⟨p, [x0, x1], [y0, y1], [z0, z1]⟩), (1, m.row), (140, [iT p, .sl true 1 () [bR a0, bR a1], .sl true 1 () [bR e0, bR e1], .sl true 1 () [sR t0, sR t1]])]⟩
      (EndFn Te [.agg (Lead.enc false ⟨p, [x0, x1], [y0, y1], [z0, z1]⟩), .agg m.row] [.cell 4 (some 4)] ⟨[.agg ((hearGo p a0 a1 e0 e1 t0 t1).enc true)], [Lead.enc false ⟨p, [x0, x1], [y0, y1], [z0, z1]⟩, m.row]⟩) := by
  have hw : IntKind.i64.wrap (p + 1) = p + 1 := IntWalk.i64_in _ (by omega)
  simp only [hearGo]
  cases a0
  · cases e0 <;> simp -implicitDefEqProofs (maxSteps := 1000000) only [x_s_Hear_1, go_sem, if_false] <;> rfl
  cases a1
  · cases e0 <;> simp -implicitDefEqProofs (maxSteps := 1000000) only [x_s_Hear_1, go_sem, if_false] <;> rfl
  cases e0
  · simp -implicitDefEqProofs (maxSteps := 1000000) only [x_s_Hear_1, go_sem]
    refine .of (c_W _) ?_
    cases w : walks p
    · simp -implicitDefEqProofs (maxSteps := 1000000) only [go_sem, w]
      refine .of (c_F _) ?_
      cases f : final p
      · simp -implicitDefEqProofs (maxSteps := 1000000) only [go_sem, f, hw]
        refine .of (c_L _) ?_
        simp -implicitDefEqProofs (maxSteps := 1000000) only [go_sem, if_true]
      · simp -implicitDefEqProofs (maxSteps := 1000000) only [go_sem, f, if_false]
        rfl
    · simp -implicitDefEqProofs (maxSteps := 1000000) only [go_sem, w, if_false]
      rfl
  cases e1
  · simp -implicitDefEqProofs (maxSteps := 1000000) only [x_s_Hear_1, go_sem]
    refine .of (c_W _) ?_
    cases w : walks p
    · simp -implicitDefEqProofs (maxSteps := 1000000) only [go_sem, w]
      refine .of (c_F _) ?_
      cases f : final p
      · simp -implicitDefEqProofs (maxSteps := 1000000) only [go_sem, f, hw]
        refine .of (c_L _) ?_
        simp -implicitDefEqProofs (maxSteps := 1000000) only [go_sem, if_true]
      · simp -implicitDefEqProofs (maxSteps := 1000000) only [go_sem, f, if_false]
        rfl
    · simp -implicitDefEqProofs (maxSteps := 1000000) only [go_sem, w, if_false]
      rfl
  · simp -implicitDefEqProofs (maxSteps := 1000000) only [x_s_Hear_1, go_sem]
    refine .of (c_W _) ?_
    cases w : walks p <;> simp -implicitDefEqProofs (maxSteps := 1000000) only [go_sem, w]
    all_goals
      refine .of (c_F _) ?_
      cases f : final p
      · simp -implicitDefEqProofs (maxSteps := 1000000) only [go_sem, f, hw]
        refine .of (c_L _) ?_
        simp -implicitDefEqProofs (maxSteps := 1000000) only [go_sem, if_true]
      · simp -implicitDefEqProofs (maxSteps := 1000000) only [go_sem, f, if_false]
        rfl
theorem r_s_Hear {Te : Nat → List AV → Res → Prop} (c_s_l19Copy : C_s_l19Copy Te) (c_s_LeadOk : C_s_LeadOk Te) (c_s_MsgOk : C_s_MsgOk Te) (c_s_Walks : C_s_Walks Te) (c_s_Final : C_s_Final Te) (c_s_l19At : C_s_l19At Te) : ∀ (l : Lead) (m : Msg) (h : l.In (2 ^ 31)), RunFn Te x_s_Hear [.agg (l.enc false), .agg m.row] ⟨[.agg ((l.hear m).enc true)], [l.enc false, m.row]⟩ := by
  intro l m h
  refine ⟨by simp -implicitDefEqProofs (maxSteps := 1000000) only [x_s_Hear, go_sem], ?_⟩
  simp -implicitDefEqProofs (maxSteps := 1000000) only [x_s_Hear, go_sem]
  refine .of (c_s_l19Copy _ h) ?_
  simp -implicitDefEqProofs (maxSteps := 1000000) only [go_sem]
  refine .of (c_s_LeadOk _ (h.mono (by decide))) ?_
  cases hok : l.ok
  · simp -implicitDefEqProofs (maxSteps := 1000000) only [go_sem, Lead.hear, hok, if_false]
  simp -implicitDefEqProofs (maxSteps := 1000000) only [go_sem]
  refine .of (c_s_MsgOk _) ?_
  cases hm : m.ok
  · simp -implicitDefEqProofs (maxSteps := 1000000) only [go_sem, Lead.hear, hok, hm, if_false]
  cases g1 : decide (m.From < 3)
  · have g1' : decide (m.From ≥ 3) = true := by simp at g1 ⊢; omega
    cases g2 : (m.To != 0)
    · have g2' : (m.To == 0) = true := by simpa using g2
      cases g3 : (m.N != l.Phase)
      · have g3' : (m.N == l.Phase) = true := by simpa using g3
        cases g4 : (l.Phase == 0)
        · obtain ⟨p, a0, a1, e0, e1, t0, t1, rfl⟩ := Lead.ok_two hok
          obtain ⟨k, f, t, sq, key, tx, n, c⟩ := m
          have hf : f = 3 ∨ f = 4 := by
            simp only [Msg.ok, win, Bool.and_eq_true, decide_eq_true_eq] at hm
            simp only [decide_eq_false_iff_not] at g1
            omega
          have hp : 0 ≤ p ∧ p ≤ 7 := by
            simp only [Lead.ok, win, Bool.and_eq_true, decide_eq_true_eq] at hok
            omega
          have hgoal : Lead.hear ⟨p, [a0, a1], [e0, e1], [t0, t1]⟩ ⟨k, f, t, sq, key, tx, n, c⟩ = Lead.hearIn ⟨p, [a0, a1], [e0, e1], [t0, t1]⟩ ⟨k, f, t, sq, key, tx, n, c⟩ := by
            simp only [Lead.hear, hok, hm, g1', g2', g3', g4, Bool.and_true, Bool.not_false, if_true]
          simp only [hgoal]
          clear hgoal
          simp only at g1 g2 g3 g4
          clear hok h
          have tail := fun a0' a1' e0' e1' t0' t1' => s_Hear_tail c_s_Walks c_s_Final c_s_l19At p a0' a1' e0' e1' t0' t1' a0 a1 e0 e1 t0 t1 ⟨k, f, t, sq, key, tx, n, c⟩ hp
          rcases hf with rfl | rfl
          · cases g5 : (k == 7)
            · have g5' : ¬ (k = 7) := by simpa using g5
              cases g6 : (k == 9)
              · have g6' : ¬ (k = 9) := by simpa using g6
                simp only [Lead.hearIn, g5', g6', if_false, false_and]
                simp -implicitDefEqProofs (maxSteps := 1000000) only [go_sem, storeAp, setCells, Int.reduceSub, IntWalk.i64_in 0 (by decide), IntWalk.i64_in 1 (by decide), g2, g3, g4, g5, g6]
                rfl
              · have g6' : k = 9 := by simpa using g6
                subst g6'
                cases a0
                · simp only [Lead.hearIn, g5', if_false, if_true, and_false, reduceCtorEq, Int.reduceEq]
                  simp -implicitDefEqProofs (maxSteps := 1000000) only [go_sem, storeAp, setCells, Int.reduceSub, IntWalk.i64_in 0 (by decide), IntWalk.i64_in 1 (by decide), g2, g3, g4, g5, g6]
                  rfl
                · cases g7 : (c == 1)
                  · have g7' : ¬ (c = 1) := by simpa using g7
                    simp only [Lead.hearIn, g5', g7', if_false, if_true, and_true, Int.reduceEq]
                    have tl := tail true a1 e0 e1 (maxS t0 key) t1
                    cases g8 : Op.bytesLess t0.toList key.toList
                    · simp -implicitDefEqProofs (maxSteps := 1000000) only [go_sem, storeAp, setCells, Int.reduceSub, IntWalk.i64_in 0 (by decide), IntWalk.i64_in 1 (by decide), g2, g3, g4, g5, g6, g7, bytes_tri, g8]
                      refine ⟨by decide, ?_⟩
                      have em : maxS t0 key = t0 := by simp only [maxS, g8, Bool.not_false, cond_true]
                      rw [em] at tl ⊢
                      simp only [Lead.enc, slT, List.map_cons, List.map_nil] at tl ⊢
                      with_reducible exact tl
                    · simp -implicitDefEqProofs (maxSteps := 1000000) only [go_sem, storeAp, setCells, Int.reduceSub, IntWalk.i64_in 0 (by decide), IntWalk.i64_in 1 (by decide), g2, g3, g4, g5, g6, g7, bytes_tri, g8]
                      refine ⟨by decide, ?_⟩
                      have em : maxS t0 key = key := by simp only [maxS, g8, Bool.not_true, cond_false]
                      rw [em] at tl ⊢
                      simp only [Lead.enc, slT, List.map_cons, List.map_nil] at tl ⊢
                      with_reducible exact tl
                  · have g7' : c = 1 := by simpa using g7
                    subst g7'
                    simp only [Lead.hearIn, g5', if_false, if_true, and_true, Int.reduceEq]
                    simp -implicitDefEqProofs (maxSteps := 1000000) only [go_sem, storeAp, setCells, Int.reduceSub, IntWalk.i64_in 0 (by decide), IntWalk.i64_in 1 (by decide), g2, g3, g4, g5, g6, g7]
                    simp only [slT, List.map_cons, List.map_nil]
                    with_reducible exact tail true a1 true e1 t0 t1
            · have g5' : k = 7 := by simpa using g5
              subst g5'
              simp only [Lead.hearIn, if_true, if_false, Int.reduceEq]
              simp -implicitDefEqProofs (maxSteps := 1000000) only [go_sem, storeAp, setCells, Int.reduceSub, IntWalk.i64_in 0 (by decide), IntWalk.i64_in 1 (by decide), g2, g3, g4, g5]
              simp only [slT, List.map_cons, List.map_nil]
              with_reducible exact tail true a1 e0 e1 t0 t1
          · cases g5 : (k == 7)
            · have g5' : ¬ (k = 7) := by simpa using g5
              cases g6 : (k == 9)
              · have g6' : ¬ (k = 9) := by simpa using g6
                simp only [Lead.hearIn, g5', g6', if_false, false_and]
                simp -implicitDefEqProofs (maxSteps := 1000000) only [go_sem, storeAp, setCells, Int.reduceSub, IntWalk.i64_in 0 (by decide), IntWalk.i64_in 1 (by decide), g2, g3, g4, g5, g6]
                rfl
              · have g6' : k = 9 := by simpa using g6
                subst g6'
                cases a1
                · simp only [Lead.hearIn, g5', if_false, if_true, and_false, reduceCtorEq, Int.reduceEq]
                  simp -implicitDefEqProofs (maxSteps := 1000000) only [go_sem, storeAp, setCells, Int.reduceSub, IntWalk.i64_in 0 (by decide), IntWalk.i64_in 1 (by decide), g2, g3, g4, g5, g6]
                  rfl
                · cases g7 : (c == 1)
                  · have g7' : ¬ (c = 1) := by simpa using g7
                    simp only [Lead.hearIn, g5', g7', if_false, if_true, and_true, Int.reduceEq]
                    have tl := tail a0 true e0 e1 t0 (maxS t1 key)
                    cases g8 : Op.bytesLess t1.toList key.toList
                    · simp -implicitDefEqProofs (maxSteps := 1000000) only [go_sem, storeAp, setCells, Int.reduceSub, IntWalk.i64_in 0 (by decide), IntWalk.i64_in 1 (by decide), g2, g3, g4, g5, g6, g7, bytes_tri, g8]
                      refine ⟨by decide, ?_⟩
                      have em : maxS t1 key = t1 := by simp only [maxS, g8, Bool.not_false, cond_true]
                      rw [em] at tl ⊢
                      simp only [Lead.enc, slT, List.map_cons, List.map_nil] at tl ⊢
                      with_reducible exact tl
                    · simp -implicitDefEqProofs (maxSteps := 1000000) only [go_sem, storeAp, setCells, Int.reduceSub, IntWalk.i64_in 0 (by decide), IntWalk.i64_in 1 (by decide), g2, g3, g4, g5, g6, g7, bytes_tri, g8]
                      refine ⟨by decide, ?_⟩
                      have em : maxS t1 key = key := by simp only [maxS, g8, Bool.not_true, cond_false]
                      rw [em] at tl ⊢
                      simp only [Lead.enc, slT, List.map_cons, List.map_nil] at tl ⊢
                      with_reducible exact tl
                  · have g7' : c = 1 := by simpa using g7
                    subst g7'
                    simp only [Lead.hearIn, g5', if_false, if_true, and_true, Int.reduceEq]
                    simp -implicitDefEqProofs (maxSteps := 1000000) only [go_sem, storeAp, setCells, Int.reduceSub, IntWalk.i64_in 0 (by decide), IntWalk.i64_in 1 (by decide), g2, g3, g4, g5, g6, g7]
                    simp only [slT, List.map_cons, List.map_nil]
                    with_reducible exact tail a0 true e0 true t0 t1
            · have g5' : k = 7 := by simpa using g5
              subst g5'
              simp only [Lead.hearIn, if_true, if_false, Int.reduceEq]
              simp -implicitDefEqProofs (maxSteps := 1000000) only [go_sem, storeAp, setCells, Int.reduceSub, IntWalk.i64_in 0 (by decide), IntWalk.i64_in 1 (by decide), g2, g3, g4, g5]
              simp only [slT, List.map_cons, List.map_nil]
              with_reducible exact tail a0 true e0 e1 t0 t1
        · simp -implicitDefEqProofs (maxSteps := 1000000) only [go_sem, g1, g2, g3, g4, Lead.hear, hok, hm, if_false]
      · have g3' : (m.N == l.Phase) = false := by simpa using g3
        simp -implicitDefEqProofs (maxSteps := 1000000) only [go_sem, g1, g2, g3, Lead.hear, hok, hm, g3', if_false]
    · have g2' : (m.To == 0) = false := by simpa using g2
      simp -implicitDefEqProofs (maxSteps := 1000000) only [go_sem, g1, g2, Lead.hear, hok, hm, g2', if_false]
  · have g1' : decide (m.From ≥ 3) = false := by simp at g1 ⊢; omega
    cases g2 : (m.To != 0) <;> simp -implicitDefEqProofs (maxSteps := 1000000) only [go_sem, g1, g2, Lead.hear, hok, hm, g1', if_false]
end Go.X

/- K -/
namespace Go.X
set_option maxRecDepth 100000
set_option maxHeartbeats 8000000
abbrev bytesR (o : Bool) (l : List UInt8) : List T := [slT o 1 uR l]
theorem toNat_ofInt (a : Nat) (h : a < 2 ^ 62) : (BitVec.ofInt 64 (a : Int)).toNat = a := by
  rw [BitVec.toNat_ofInt]
  omega
theorem xor_nat (a b : Nat) (ha : a < 2 ^ 62) (hb : b < 2 ^ 62) : xorK .i64 (a : Int) (b : Int) = ((a ^^^ b : Nat) : Int) := by
  rw [xorK_def, show IntKind.i64.bits = 64 from rfl, BitVec.toNat_xor, toNat_ofInt a ha, toNat_ofInt b hb, IntWalk.i64_in]
  have := Nat.xor_lt_two_pow ha hb
  omega
theorem or_nat (a b : Nat) (ha : a < 2 ^ 62) (hb : b < 2 ^ 62) : orK .i64 (a : Int) (b : Int) = ((a ||| b : Nat) : Int) := by
  rw [orK_def, show IntKind.i64.bits = 64 from rfl, BitVec.toNat_or, toNat_ofInt a ha, toNat_ofInt b hb, IntWalk.i64_in]
  have := Nat.or_lt_two_pow ha hb
  omega
theorem and_nat (a b : Nat) (ha : a < 2 ^ 62) (hb : b < 2 ^ 62) : andK .i64 (a : Int) (b : Int) = ((a &&& b : Nat) : Int) := by
  rw [andK_def, show IntKind.i64.bits = 64 from rfl, BitVec.toNat_and, toNat_ofInt a ha, toNat_ofInt b hb, IntWalk.i64_in]
  have := Nat.and_lt_two_pow a hb
  omega
theorem min8 : Nat.min 8 64 = 8 := rfl
theorem and255 (a : Int) : mkU (andK .i64 a 255) = mkU a := by
  rw [andK_def]
  show mkU (IntKind.i64.wrap ((BitVec.ofInt 64 a &&& BitVec.ofInt 64 255).toNat)) = mkU a
  have e : (BitVec.ofInt 64 a &&& BitVec.ofInt 64 255).toNat = (a % 256).toNat := by
    rw [BitVec.toNat_and, BitVec.toNat_ofInt, show (BitVec.ofInt 64 255).toNat = 2 ^ 8 - 1 by decide, Nat.and_two_pow_sub_one_eq_mod]
    omega
  rw [e, IntWalk.i64_in _ (by omega)]
  simp only [mkU]
  congr 1
  omega
theorem ofBytes_eq (l : List UInt8) : ofBytes l = l.map uR := rfl
def hiB (n : Int) : UInt8 := mkU (n.fdiv 256)
def putW (b : List UInt8) (n : Int) : List UInt8 := b ++ [hiB n, mkU n]
def putText (b : List UInt8) (s : ByteArray) : List UInt8 := if (s.size : Int) > 60 then b else putW b s.size ++ s.data.toList
def sumBit (s : Nat) : Nat := if 2 * s > 65535 then 2 * s ^^^ 69665 else 2 * s
def sumBits : Nat → Nat → Nat
  | 0, s => s
  | n + 1, s => sumBit (sumBits n s)
def sumByte (s : Nat) (b : UInt8) : Nat := sumBits 8 (s ^^^ (256 * b.toNat))
def sum (l : List UInt8) : Nat := l.foldl sumByte 65535 &&& 65535
theorem sumBit_lt {s : Nat} (h : s < 65536) : sumBit s < 65536 := by
  unfold sumBit
  split
  · rename_i q
    have h1 : 2 * s < 2 ^ 17 := by omega
    refine Nat.lt_pow_two_of_testBit (n := 16) _ fun i hi => ?_
    rw [Nat.testBit_xor]
    by_cases h16 : i = 16
    · subst h16
      have : (2 * s).testBit 16 = true := by
        rw [Nat.testBit_eq_decide_div_mod_eq]
        have : 2 * s / 2 ^ 16 = 1 := by omega
        simp [this]
      rw [this]; decide
    · rw [Nat.testBit_lt_two_pow (Nat.lt_of_lt_of_le h1 (Nat.pow_le_pow_right (by decide) (by omega))), Nat.testBit_lt_two_pow (Nat.lt_of_lt_of_le (show 69665 < 2 ^ 17 by decide) (Nat.pow_le_pow_right (by decide) (by omega)))]
      rfl
  · omega
theorem sumBits_lt (n : Nat) {s : Nat} (h : s < 65536) : sumBits n s < 65536 := by
  induction n with
  | zero => exact h
  | succ n ih => exact sumBit_lt ih
theorem sumX_lt {s : Nat} (b : UInt8) (h : s < 65536) : s ^^^ (256 * b.toNat) < 65536 := Nat.xor_lt_two_pow (n := 16) h (by have := b.toNat_lt; omega)
theorem sumByte_lt {s : Nat} (b : UInt8) (h : s < 65536) : sumByte s b < 65536 := sumBits_lt 8 (sumX_lt b h)
end Go.X

/- P -/
namespace Go.X
set_option maxRecDepth 100000
set_option maxHeartbeats 8000000
/-- What draws are taken from. -/
structure CurV where
  b : List UInt8
  i : Int
  h : Int
abbrev CurV.enc (c : CurV) : List Go.X.T := [slT false 1 uR c.b, iT c.i, iT c.h]
def CurV.ok (c : CurV) : Prop := 0 ≤ c.i ∧ c.i ≤ c.b.length ∧ c.b.length ≤ 2 ^ 31
theorem andK_255 (a : Int) : 0 ≤ andK .i64 a 255 ∧ andK .i64 a 255 ≤ 255 := by
  rw [andK_def]
  show 0 ≤ IntKind.i64.wrap ((BitVec.ofInt 64 a &&& BitVec.ofInt 64 255).toNat) ∧ IntKind.i64.wrap ((BitVec.ofInt 64 a &&& BitVec.ofInt 64 255).toNat) ≤ 255
  have e : (BitVec.ofInt 64 a &&& BitVec.ofInt 64 255).toNat = (a % 256).toNat := by
    rw [BitVec.toNat_and, BitVec.toNat_ofInt, show (BitVec.ofInt 64 255).toNat = 2 ^ 8 - 1 by decide, Nat.and_two_pow_sub_one_eq_mod]
    omega
  rw [e, IntWalk.i64_in _ (by omega)]
  omega
theorem tmod_in {a n : Int} (ha : 0 ≤ a) (hn : 0 < n) : 0 ≤ a.tmod n ∧ a.tmod n < n := by
  rw [Int.tmod_eq_emod_of_nonneg ha]
  exact ⟨Int.emod_nonneg _ (by omega), Int.emod_lt_of_pos _ hn⟩
def x_l_big : FnX := ⟨6, [.tmp 2],
  .seq (.reg [⟨none, some 2, 2, .mv (.k (.one (.pv (.bool false))))⟩])
 (.seq (.reg [⟨none, some 3, 3, .mv (.t 0)⟩,
   ⟨none, some 4, 4, .len (.t 3)⟩,
   ⟨none, some 5, 5, .bin .gtr (.t 4) (.k (.one (.pv (.int .i64 1048576))))⟩,
   ⟨none, some 2, 2, .mv (.t 5)⟩])
 (.ret))⟩
abbrev C_l_big (Te : Nat → List AV → Res → Prop) : Prop := ∀ (l : List UInt8), Te 5 [.one (slT false 1 uR l)] ⟨[.one (bT (decide ((l.length : Int) > 1048576)))], [[slT false 1 uR l]]⟩
theorem r_l_big {Te : Nat → List AV → Res → Prop} : ∀ (l : List UInt8), RunFn Te x_l_big [.one (slT false 1 uR l)] ⟨[.one (bT (decide ((l.length : Int) > 1048576)))], [[slT false 1 uR l]]⟩ := by
  intro l
  refine ⟨by simp -implicitDefEqProofs (maxSteps := 1000000) only [x_l_big, go_sem], ?_⟩
  simp -implicitDefEqProofs (maxSteps := 1000000) only [x_l_big, go_sem, true_implies, false_implies]
  repeat (first | refine ⟨rfl, ?_⟩ | refine ⟨by decide, ?_⟩ | refine ⟨⟨by decide, by decide⟩, ?_⟩ | refine ⟨decide_eq_true (by omega), ?_⟩ | refine ⟨⟨decide_eq_true (by omega), decide_eq_true (by omega)⟩, ?_⟩)
  try (first | done | decide | exact decide_eq_true (by omega) | exact ⟨decide_eq_true (by omega), decide_eq_true (by omega)⟩)
def x_s_l1New : FnP := ⟨32, 2,
  .seq (.reg [⟨none, some 2, 2, .mv (.k (.one (.pv (.pointer none))))⟩])
 (.seq (.reg [⟨none, some 5, 5, .mv (.t 0)⟩,
   ⟨none, some 6, 6, .len (.t 5)⟩,
   ⟨none, some 7, 7, .bin .add (.k (.one (.pv (.int .i64 953953)))) (.t 6)⟩,
   ⟨none, some 3, 3, .mv (.t 7)⟩])
 (.seq (.seq (.reg [⟨none, some 4, 4, .mv (.k (.one (.pv (.int .i64 0))))⟩])
 (.block 0 (.loop [0, 3, 4] (.seq (.seq (.reg [⟨none, some 8, 8, .mv (.t 4)⟩,
   ⟨none, some 9, 9, .mv (.t 0)⟩,
   ⟨none, some 10, 10, .len (.t 9)⟩,
   ⟨none, some 11, 11, .bin .lss (.t 8) (.t 10)⟩,
   ⟨none, some 12, 12, .mv (.t 11)⟩,
   ⟨(some (12, true)), some 13, 13, .mv (.t 4)⟩,
   ⟨(some (12, true)), some 14, 14, .bin .lss (.t 13) (.k (.one (.pv (.int .i64 4000))))⟩,
   ⟨none, some 15, 15, .pick (.t 12) (.t 14) (.k (.one (.pv (.bool false))))⟩])
 (.cond 15 (.skip) (.exit 0)))
 (.seq (.block 1 (.reg [⟨none, some 18, 18, .mv (.t 3)⟩,
   ⟨none, some 19, 19, .bin .mul (.t 18) (.k (.one (.pv (.int .i64 137))))⟩,
   ⟨none, some 20, 20, .mv (.t 0)⟩,
   ⟨none, some 21, 21, .mv (.t 4)⟩,
   ⟨none, some 22, 22, .iaddr 1 (.t 20) (.t 21)⟩,
   ⟨none, some 23, 23, .load none (.t 22)⟩,
   ⟨none, some 24, 24, .conv (.int .i64) (.t 23)⟩,
   ⟨none, some 25, 25, .bin .add (.t 19) (.t 24)⟩,
   ⟨none, some 26, 26, .bin .add (.t 25) (.k (.one (.pv (.int .i64 11))))⟩,
   ⟨none, some 27, 27, .bin .and (.t 26) (.k (.one (.pv (.int .i64 1073741823))))⟩,
   ⟨none, some 3, 3, .mv (.t 27)⟩]))
 (.reg [⟨none, some 16, 16, .mv (.t 4)⟩,
   ⟨none, some 17, 17, .bin .add (.t 16) (.k (.one (.pv (.int .i64 1))))⟩,
   ⟨none, some 4, 4, .mv (.t 17)⟩]))))))
 (.norm [0, 3] (.seq (.reg [⟨none, some 28, 28, .mv (.t 0)⟩,
   ⟨none, some 29, 29, .mv (.t 3)⟩,
   ⟨none, some 30, 30, .build [.nils 1, .pv (.int .i64 0), .pv (.int .i64 0)] [(0, 1, (.t 28)), (2, 1, (.t 29))]⟩,
   ⟨none, some 31, 31, .box (.t 30)⟩,
   ⟨none, some 2, 2, .mv (.t 31)⟩])
 (.ret)))))⟩
abbrev C_s_l1New (Te : Nat → List AV → Res → Prop) : Prop := ∀ (l : List UInt8) (hl : l.length ≤ 2 ^ 31), ∃ (c : CurV), (c.ok) ∧ Te 41 [.one (slT false 1 uR l)] ⟨[.ptr c.enc], [[slT false 1 uR l]]⟩
theorem r_s_l1New {Te : Nat → List AV → Res → Prop} : ∀ (l : List UInt8) (hl : l.length ≤ 2 ^ 31), ∃ r0, (∃ (c : CurV), (c.ok) ∧ r0 = (⟨[.ptr c.enc], [[slT false 1 uR l]]⟩ : Res)) ∧ RunFnP Te x_s_l1New [.one (slT false 1 uR l)] (fun r => r = r0) := by
  intro l hl
  refine some_ofP (by rfl) ⟨by simp -implicitDefEqProofs (maxSteps := 1000000) only [x_s_l1New, go_sem], ?_⟩
  simp -implicitDefEqProofs (maxSteps := 1000000) only [x_s_l1New, go_sem, true_implies, false_implies]
  repeat (first | refine ⟨rfl, ?_⟩ | refine ⟨by decide, ?_⟩ | refine ⟨⟨by decide, by decide⟩, ?_⟩ | refine ⟨decide_eq_true (by omega), ?_⟩ | refine ⟨⟨decide_eq_true (by omega), decide_eq_true (by omega)⟩, ?_⟩)
  try (first | done | decide | exact decide_eq_true (by omega) | exact ⟨decide_eq_true (by omega), decide_eq_true (by omega)⟩)
  refine loop_of (σ := Nat × Int) (fun x => ⟨[(0, .one (.ro 1 (l.map uR))), (3, .one (.pv (.int .i64 x.2))), (4, .one (.pv (.int .i64 x.1)))], [], [(0, [slT false 1 uR l])]⟩) (fun x => x.1 ≤ l.length) (fun x => l.length - x.1) (0, IntKind.i64.wrap (953953 + (l.length : Int))) ?_ (Nat.zero_le _) ?_
  · simp -implicitDefEqProofs (maxSteps := 1000000) only [go_sem]; rfl
  · rintro ⟨i, h⟩ hi
    simp only at hi
    cases q : decide ((i : Int) < (l.length : Int))
    · try simp -implicitDefEqProofs (maxSteps := 1000000) only [go_sem, true_implies, false_implies, q]
      repeat (first | refine ⟨rfl, ?_⟩ | refine ⟨by decide, ?_⟩ | refine ⟨⟨by decide, by decide⟩, ?_⟩ | refine ⟨decide_eq_true (by omega), ?_⟩ | refine ⟨⟨decide_eq_true (by omega), decide_eq_true (by omega)⟩, ?_⟩)
      try (first | done | decide | exact decide_eq_true (by omega) | exact ⟨decide_eq_true (by omega), decide_eq_true (by omega)⟩)
      exact ⟨⟨l, 0, h⟩, ⟨Int.le_refl _, by simp, hl⟩, rfl⟩
    · have hi' : i < l.length := by simp only [decide_eq_true_eq] at q; omega
      try simp -implicitDefEqProofs (maxSteps := 1000000) only [go_sem, true_implies, false_implies, q]
      repeat (first | refine ⟨rfl, ?_⟩ | refine ⟨by decide, ?_⟩ | refine ⟨⟨by decide, by decide⟩, ?_⟩ | refine ⟨decide_eq_true (by omega), ?_⟩ | refine ⟨⟨decide_eq_true (by omega), decide_eq_true (by omega)⟩, ?_⟩)
      try (first | done | decide | exact decide_eq_true (by omega) | exact ⟨decide_eq_true (by omega), decide_eq_true (by omega)⟩)
      refine ⟨fun q2 => ?_, fun q2 => ?_⟩
      · try simp -implicitDefEqProofs (maxSteps := 1000000) only [go_sem, true_implies, false_implies, List.getElem?_eq_getElem hi']
        repeat (first | refine ⟨rfl, ?_⟩ | refine ⟨by decide, ?_⟩ | refine ⟨⟨by decide, by decide⟩, ?_⟩ | refine ⟨decide_eq_true (by omega), ?_⟩ | refine ⟨⟨decide_eq_true (by omega), decide_eq_true (by omega)⟩, ?_⟩)
        try (first | done | decide | exact decide_eq_true (by omega) | exact ⟨decide_eq_true (by omega), decide_eq_true (by omega)⟩)
        exact ⟨(i + 1, _), by rw [IntWalk.i64_in ((i : Int) + 1) (by omega)]; rfl, hi', by simp only; omega⟩
      · try simp -implicitDefEqProofs (maxSteps := 1000000) only [go_sem, true_implies, false_implies]
        repeat (first | refine ⟨rfl, ?_⟩ | refine ⟨by decide, ?_⟩ | refine ⟨⟨by decide, by decide⟩, ?_⟩ | refine ⟨decide_eq_true (by omega), ?_⟩ | refine ⟨⟨decide_eq_true (by omega), decide_eq_true (by omega)⟩, ?_⟩)
        try (first | done | decide | exact decide_eq_true (by omega) | exact ⟨decide_eq_true (by omega), decide_eq_true (by omega)⟩)
        exact ⟨⟨l, 0, h⟩, ⟨Int.le_refl _, by simp, hl⟩, rfl⟩
def x_s_l1Byte : FnX := ⟨58, [.tmp 2],
  .seq (.reg [⟨none, some 2, 2, .mv (.k (.one (.pv (.int .i64 0))))⟩])
 (.seq (.reg [⟨none, some 4, 4, .mv (.t 0)⟩,
   ⟨none, some 5, 5, .mv (.t 0)⟩,
   ⟨none, some 6, 6, .nilc (.t 5)⟩,
   ⟨none, some 7, 7, .faddr (.t 6) 2⟩,
   ⟨none, some 8, 8, .load none (.t 7)⟩,
   ⟨none, some 9, 9, .bin .mul (.t 8) (.k (.one (.pv (.int .i64 6364136223846793005))))⟩,
   ⟨none, some 10, 10, .bin .add (.t 9) (.k (.one (.pv (.int .i64 1442695040888963407))))⟩,
   ⟨none, some 11, 11, .nilc (.t 4)⟩,
   ⟨none, some 12, 12, .faddr (.t 11) 2⟩,
   ⟨none, none, 100001, .store 1 (.t 12) (.t 10)⟩])
 (.seq (.draw [⟨none, some 13, 13, .mv (.t 0)⟩,
   ⟨none, some 14, 14, .nilc (.t 13)⟩,
   ⟨none, some 15, 15, .faddr (.t 14) 2⟩,
   ⟨none, some 16, 16, .load none (.t 15)⟩,
   ⟨none, some 17, 17, .bin .shr (.t 16) (.k (.one (.pv (.int .u64 33))))⟩,
   ⟨none, some 18, 18, .mv (.t 0)⟩,
   ⟨none, some 19, 19, .nilc (.t 18)⟩,
   ⟨none, some 20, 20, .faddr (.t 19) 2⟩,
   ⟨none, some 21, 21, .load none (.t 20)⟩,
   ⟨none, some 22, 22, .bin .shr (.t 21) (.k (.one (.pv (.int .u64 47))))⟩,
   ⟨none, some 23, 23, .bin .xor (.t 17) (.t 22)⟩,
   ⟨none, some 24, 24, .bin .and (.t 23) (.k (.one (.pv (.int .i64 255))))⟩,
   ⟨none, some 3, 3, .mv (.t 24)⟩] [[], [0], [1], [2], [3], [], [5], [6], [7], [8], [4, 9], [10], [11, 0, 1, 2, 3, 4, 5, 6, 7, 8, 9, 10, 11]])
 (.seq (.seq (.draw [⟨none, some 25, 25, .mv (.t 0)⟩,
   ⟨none, some 26, 26, .nilc (.t 25)⟩,
   ⟨none, some 27, 27, .faddr (.t 26) 1⟩,
   ⟨none, some 28, 28, .load none (.t 27)⟩,
   ⟨none, some 29, 29, .mv (.t 0)⟩,
   ⟨none, some 30, 30, .nilc (.t 29)⟩,
   ⟨none, some 31, 31, .faddr (.t 30) 0⟩,
   ⟨none, some 32, 32, .load none (.t 31)⟩,
   ⟨none, some 33, 33, .len (.t 32)⟩,
   ⟨none, some 34, 34, .bin .lss (.t 28) (.t 33)⟩] [[], [0], [1], [2], [], [4], [5], [6], [7], [3, 8]])
 (.cond 34 (.seq (.draw [⟨none, some 35, 35, .mv (.t 3)⟩,
   ⟨none, some 36, 36, .mv (.t 0)⟩,
   ⟨none, some 37, 37, .nilc (.t 36)⟩,
   ⟨none, some 38, 38, .faddr (.t 37) 0⟩,
   ⟨none, some 39, 39, .load none (.t 38)⟩,
   ⟨none, some 40, 40, .mv (.t 0)⟩,
   ⟨none, some 41, 41, .nilc (.t 40)⟩,
   ⟨none, some 42, 42, .faddr (.t 41) 1⟩,
   ⟨none, some 43, 43, .load none (.t 42)⟩,
   ⟨none, some 44, 44, .iaddr 1 (.t 39) (.t 43)⟩,
   ⟨none, some 45, 45, .load none (.t 44)⟩,
   ⟨none, some 46, 46, .conv (.int .i64) (.t 45)⟩,
   ⟨none, some 47, 47, .bin .add (.t 35) (.t 46)⟩,
   ⟨none, some 48, 48, .bin .and (.t 47) (.k (.one (.pv (.int .i64 255))))⟩,
   ⟨none, some 3, 3, .mv (.t 48)⟩] [[], [], [1], [2], [3], [], [5], [6], [7], [4, 8], [9], [10], [0, 11], [12], [13, 0, 1, 2, 3, 4, 5, 6, 7, 8, 9, 10, 11, 12, 13]])
 (.reg [⟨none, some 49, 49, .mv (.t 0)⟩,
   ⟨none, some 50, 50, .mv (.t 0)⟩,
   ⟨none, some 51, 51, .nilc (.t 50)⟩,
   ⟨none, some 52, 52, .faddr (.t 51) 1⟩,
   ⟨none, some 53, 53, .load none (.t 52)⟩,
   ⟨none, some 54, 54, .bin .add (.t 53) (.k (.one (.pv (.int .i64 1))))⟩,
   ⟨none, some 55, 55, .nilc (.t 49)⟩,
   ⟨none, some 56, 56, .faddr (.t 55) 1⟩,
   ⟨none, none, 100002, .store 1 (.t 56) (.t 54)⟩])) (.skip)))
 (.seq (.reg [⟨none, some 57, 57, .mv (.t 3)⟩,
   ⟨none, some 2, 2, .mv (.t 57)⟩])
 (.ret)))))⟩
abbrev C_s_l1Byte (Te : Nat → List AV → Res → Prop) : Prop := ∀ (c : CurV) (hc : c.ok), ∃ (r : Int) (d : CurV), ((0 ≤ r ∧ r ≤ 255) ∧ d.ok) ∧ Te 73 [.ptr c.enc] ⟨[.one (iT r)], [d.enc]⟩
theorem r_s_l1Byte {Te : Nat → List AV → Res → Prop} : ∀ (c : CurV) (hc : c.ok), ∃ r0, (∃ (r : Int) (d : CurV), ((0 ≤ r ∧ r ≤ 255) ∧ d.ok) ∧ r0 = (⟨[.one (iT r)], [d.enc]⟩ : Res)) ∧ RunFn Te x_s_l1Byte [.ptr c.enc] r0 := by
  intro c hc
  refine some_of (by simp -implicitDefEqProofs (maxSteps := 1000000) only [x_s_l1Byte, go_sem]) (by rfl) ?_
  obtain ⟨h0, h1, h2⟩ := hc
  simp -implicitDefEqProofs (maxSteps := 1000000) only [x_s_l1Byte, go_sem, true_implies, false_implies]
  repeat (first | refine ⟨rfl, ?_⟩ | refine ⟨by decide, ?_⟩ | refine ⟨⟨by decide, by decide⟩, ?_⟩ | refine ⟨decide_eq_true (by omega), ?_⟩ | refine ⟨⟨decide_eq_true (by omega), decide_eq_true (by omega)⟩, ?_⟩)
  try (first | done | decide | exact decide_eq_true (by omega) | exact ⟨decide_eq_true (by omega), decide_eq_true (by omega)⟩)
  refine ⟨fun q => ?_, fun q => ?_⟩
  · have hi' : c.i.toNat < c.b.length := by simp only [decide_eq_true_eq] at q; omega
    try simp -implicitDefEqProofs (maxSteps := 1000000) only [go_sem, true_implies, false_implies, List.getElem?_eq_getElem hi']
    repeat (first | refine ⟨rfl, ?_⟩ | refine ⟨by decide, ?_⟩ | refine ⟨⟨by decide, by decide⟩, ?_⟩ | refine ⟨decide_eq_true (by omega), ?_⟩ | refine ⟨⟨decide_eq_true (by omega), decide_eq_true (by omega)⟩, ?_⟩)
    try (first | done | decide | exact decide_eq_true (by omega) | exact ⟨decide_eq_true (by omega), decide_eq_true (by omega)⟩)
    refine ⟨_, ⟨c.b, IntKind.i64.wrap (c.i + 1), IntKind.i64.wrap (IntKind.i64.wrap (c.h * 6364136223846793005) + 1442695040888963407)⟩, ?_, rfl⟩
    refine ⟨andK_255 _, ?_⟩
    rw [IntWalk.i64_in _ (by omega)]
    exact ⟨by show 0 ≤ c.i + 1; omega, by show c.i + 1 ≤ c.b.length; omega, h2⟩
  · try simp -implicitDefEqProofs (maxSteps := 1000000) only [go_sem, true_implies, false_implies]
    repeat (first | refine ⟨rfl, ?_⟩ | refine ⟨by decide, ?_⟩ | refine ⟨⟨by decide, by decide⟩, ?_⟩ | refine ⟨decide_eq_true (by omega), ?_⟩ | refine ⟨⟨decide_eq_true (by omega), decide_eq_true (by omega)⟩, ?_⟩)
    try (first | done | decide | exact decide_eq_true (by omega) | exact ⟨decide_eq_true (by omega), decide_eq_true (by omega)⟩)
    refine ⟨_, ⟨c.b, c.i, IntKind.i64.wrap (IntKind.i64.wrap (c.h * 6364136223846793005) + 1442695040888963407)⟩, ?_, rfl⟩
    exact ⟨andK_255 _, h0, h1, h2⟩
def x_s_l1Below : FnX := ⟨31, [.tmp 4],
  .seq (.reg [⟨none, some 4, 4, .mv (.k (.one (.pv (.int .i64 0))))⟩])
 (.seq (.seq (.reg [⟨none, some 8, 8, .mv (.t 1)⟩,
   ⟨none, some 9, 9, .bin .leq (.t 8) (.k (.one (.pv (.int .i64 0))))⟩])
 (.cond 9 (.seq (.reg [⟨none, some 4, 4, .mv (.k (.one (.pv (.int .i64 0))))⟩])
 (.ret)) (.skip)))
 (.seq (.seq (.reg [⟨none, some 10, 10, .mv (.t 1)⟩,
   ⟨none, some 11, 11, .bin .leq (.t 10) (.k (.one (.pv (.int .i64 256))))⟩])
 (.cond 11 (.seq (.reg [⟨none, some 12, 12, .mv (.t 0)⟩,
   ⟨none, some 13, 13, .call 73 [5] [(.t 12)]⟩,
   ⟨none, some 14, 14, .mv (.t 1)⟩,
   ⟨none, some 15, 15, .bin .rem (.t 13) (.t 14)⟩,
   ⟨none, some 4, 4, .mv (.t 15)⟩])
 (.ret)) (.skip)))
 (.seq (.reg [⟨none, some 16, 16, .mv (.t 0)⟩,
   ⟨none, some 17, 17, .call 73 [5] [(.t 16)]⟩,
   ⟨none, some 5, 5, .mv (.t 17)⟩])
 (.seq (.reg [⟨none, some 18, 18, .mv (.t 0)⟩,
   ⟨none, some 19, 19, .call 73 [5] [(.t 18)]⟩,
   ⟨none, some 6, 6, .mv (.t 19)⟩])
 (.seq (.reg [⟨none, some 20, 20, .mv (.t 0)⟩,
   ⟨none, some 21, 21, .call 73 [5] [(.t 20)]⟩,
   ⟨none, some 7, 7, .mv (.t 21)⟩])
 (.seq (.reg [⟨none, some 22, 22, .mv (.t 5)⟩,
   ⟨none, some 23, 23, .bin .mul (.t 22) (.k (.one (.pv (.int .i64 65536))))⟩,
   ⟨none, some 24, 24, .mv (.t 6)⟩,
   ⟨none, some 25, 25, .bin .mul (.t 24) (.k (.one (.pv (.int .i64 256))))⟩,
   ⟨none, some 26, 26, .bin .add (.t 23) (.t 25)⟩,
   ⟨none, some 27, 27, .mv (.t 7)⟩,
   ⟨none, some 28, 28, .bin .add (.t 26) (.t 27)⟩,
   ⟨none, some 29, 29, .mv (.t 1)⟩,
   ⟨none, some 30, 30, .bin .rem (.t 28) (.t 29)⟩,
   ⟨none, some 4, 4, .mv (.t 30)⟩])
 (.ret)))))))⟩
abbrev C_s_l1Below (Te : Nat → List AV → Res → Prop) : Prop := ∀ (c : CurV) (n : Int) (hc : c.ok), ∃ (r : Int) (d : CurV), ((0 ≤ r ∧ (0 < n → r < n) ∧ (n ≤ 0 → r = 0)) ∧ d.ok) ∧ Te 45 [.ptr c.enc, .one (iT n)] ⟨[.one (iT r)], [d.enc, [iT n]]⟩
theorem r_s_l1Below {Te : Nat → List AV → Res → Prop} (c_s_l1Byte : C_s_l1Byte Te) : ∀ (c : CurV) (n : Int) (hc : c.ok), ∃ r0, (∃ (r : Int) (d : CurV), ((0 ≤ r ∧ (0 < n → r < n) ∧ (n ≤ 0 → r = 0)) ∧ d.ok) ∧ r0 = (⟨[.one (iT r)], [d.enc, [iT n]]⟩ : Res)) ∧ RunFn Te x_s_l1Below [.ptr c.enc, .one (iT n)] r0 := by
  intro c n hc
  refine some_of (by simp -implicitDefEqProofs (maxSteps := 1000000) only [x_s_l1Below, go_sem]) (by rfl) ?_
  simp -implicitDefEqProofs (maxSteps := 1000000) only [x_s_l1Below, go_sem, true_implies, false_implies]
  repeat (first | refine ⟨rfl, ?_⟩ | refine ⟨by decide, ?_⟩ | refine ⟨⟨by decide, by decide⟩, ?_⟩ | refine ⟨decide_eq_true (by omega), ?_⟩ | refine ⟨⟨decide_eq_true (by omega), decide_eq_true (by omega)⟩, ?_⟩)
  try (first | done | decide | exact decide_eq_true (by omega) | exact ⟨decide_eq_true (by omega), decide_eq_true (by omega)⟩)
  refine ⟨fun q => ?_, fun q => ?_⟩
  · try simp -implicitDefEqProofs (maxSteps := 1000000) only [go_sem, true_implies, false_implies]
    repeat (first | refine ⟨rfl, ?_⟩ | refine ⟨by decide, ?_⟩ | refine ⟨⟨by decide, by decide⟩, ?_⟩ | refine ⟨decide_eq_true (by omega), ?_⟩ | refine ⟨⟨decide_eq_true (by omega), decide_eq_true (by omega)⟩, ?_⟩)
    try (first | done | decide | exact decide_eq_true (by omega) | exact ⟨decide_eq_true (by omega), decide_eq_true (by omega)⟩)
    simp only [decide_eq_true_eq] at q
    exact ⟨0, c, ⟨⟨Int.le_refl _, fun h => by omega, fun _ => rfl⟩, hc⟩, rfl⟩
  · have hn : 0 < n := by simp only [decide_eq_false_iff_not] at q; omega
    have hz : (!(n == 0)) = true := by simp; omega
    try simp -implicitDefEqProofs (maxSteps := 1000000) only [go_sem, true_implies, false_implies]
    repeat (first | refine ⟨rfl, ?_⟩ | refine ⟨by decide, ?_⟩ | refine ⟨⟨by decide, by decide⟩, ?_⟩ | refine ⟨decide_eq_true (by omega), ?_⟩ | refine ⟨⟨decide_eq_true (by omega), decide_eq_true (by omega)⟩, ?_⟩)
    try (first | done | decide | exact decide_eq_true (by omega) | exact ⟨decide_eq_true (by omega), decide_eq_true (by omega)⟩)
    refine ⟨fun q2 => ?_, fun q2 => ?_⟩
    · try simp -implicitDefEqProofs (maxSteps := 1000000) only [go_sem, true_implies, false_implies]
      repeat (first | refine ⟨rfl, ?_⟩ | refine ⟨by decide, ?_⟩ | refine ⟨⟨by decide, by decide⟩, ?_⟩ | refine ⟨decide_eq_true (by omega), ?_⟩ | refine ⟨⟨decide_eq_true (by omega), decide_eq_true (by omega)⟩, ?_⟩)
      try (first | done | decide | exact decide_eq_true (by omega) | exact ⟨decide_eq_true (by omega), decide_eq_true (by omega)⟩)
      obtain ⟨r, d, ⟨hr, hd⟩, ht⟩ := c_s_l1Byte c hc
      refine .of (ht) ?_
      try simp -implicitDefEqProofs (maxSteps := 1000000) only [go_sem, true_implies, false_implies, hz]
      repeat (first | refine ⟨rfl, ?_⟩ | refine ⟨by decide, ?_⟩ | refine ⟨⟨by decide, by decide⟩, ?_⟩ | refine ⟨decide_eq_true (by omega), ?_⟩ | refine ⟨⟨decide_eq_true (by omega), decide_eq_true (by omega)⟩, ?_⟩)
      try (first | done | decide | exact decide_eq_true (by omega) | exact ⟨decide_eq_true (by omega), decide_eq_true (by omega)⟩)
      have := tmod_in (n := n) hr.1 hn
      exact ⟨_, d, ⟨⟨this.1, fun _ => this.2, fun h => by omega⟩, hd⟩, rfl⟩
    · try simp -implicitDefEqProofs (maxSteps := 1000000) only [go_sem, true_implies, false_implies]
      repeat (first | refine ⟨rfl, ?_⟩ | refine ⟨by decide, ?_⟩ | refine ⟨⟨by decide, by decide⟩, ?_⟩ | refine ⟨decide_eq_true (by omega), ?_⟩ | refine ⟨⟨decide_eq_true (by omega), decide_eq_true (by omega)⟩, ?_⟩)
      try (first | done | decide | exact decide_eq_true (by omega) | exact ⟨decide_eq_true (by omega), decide_eq_true (by omega)⟩)
      obtain ⟨r1, d1, ⟨hr1, hd1⟩, ht1⟩ := c_s_l1Byte c hc
      refine .of (ht1) ?_
      try simp -implicitDefEqProofs (maxSteps := 1000000) only [go_sem, true_implies, false_implies]
      repeat (first | refine ⟨rfl, ?_⟩ | refine ⟨by decide, ?_⟩ | refine ⟨⟨by decide, by decide⟩, ?_⟩ | refine ⟨decide_eq_true (by omega), ?_⟩ | refine ⟨⟨decide_eq_true (by omega), decide_eq_true (by omega)⟩, ?_⟩)
      try (first | done | decide | exact decide_eq_true (by omega) | exact ⟨decide_eq_true (by omega), decide_eq_true (by omega)⟩)
      obtain ⟨r2, d2, ⟨hr2, hd2⟩, ht2⟩ := c_s_l1Byte d1 hd1
      refine .of (ht2) ?_
      try simp -implicitDefEqProofs (maxSteps := 1000000) only [go_sem, true_implies, false_implies]
      repeat (first | refine ⟨rfl, ?_⟩ | refine ⟨by decide, ?_⟩ | refine ⟨⟨by decide, by decide⟩, ?_⟩ | refine ⟨decide_eq_true (by omega), ?_⟩ | refine ⟨⟨decide_eq_true (by omega), decide_eq_true (by omega)⟩, ?_⟩)
      try (first | done | decide | exact decide_eq_true (by omega) | exact ⟨decide_eq_true (by omega), decide_eq_true (by omega)⟩)
      obtain ⟨r3, d3, ⟨hr3, hd3⟩, ht3⟩ := c_s_l1Byte d2 hd2
      refine .of (ht3) ?_
      try simp -implicitDefEqProofs (maxSteps := 1000000) only [go_sem, true_implies, false_implies, hz]
      repeat (first | refine ⟨rfl, ?_⟩ | refine ⟨by decide, ?_⟩ | refine ⟨⟨by decide, by decide⟩, ?_⟩ | refine ⟨decide_eq_true (by omega), ?_⟩ | refine ⟨⟨decide_eq_true (by omega), decide_eq_true (by omega)⟩, ?_⟩)
      try (first | done | decide | exact decide_eq_true (by omega) | exact ⟨decide_eq_true (by omega), decide_eq_true (by omega)⟩)
      rw [IntWalk.i64_in (r1 * 65536) (by omega), IntWalk.i64_in (r2 * 256) (by omega), IntWalk.i64_in (r1 * 65536 + r2 * 256) (by omega), IntWalk.i64_in _ (by omega)]
      have := tmod_in (a := r1 * 65536 + r2 * 256 + r3) (n := n) (by omega) hn
      exact ⟨_, d3, ⟨⟨this.1, fun _ => this.2, fun h => by omega⟩, hd3⟩, rfl⟩
def x_s_l1Once : FnX := ⟨9, [.tmp 4],
  .seq (.reg [⟨none, some 4, 4, .mv (.k (.one (.pv (.bool false))))⟩])
 (.seq (.reg [⟨none, some 5, 5, .mv (.t 0)⟩,
   ⟨none, some 6, 6, .mv (.t 1)⟩,
   ⟨none, some 7, 7, .call 45 [5, 0] [(.t 5), (.t 6)]⟩,
   ⟨none, some 8, 8, .bin .eql (.t 7) (.k (.one (.pv (.int .i64 0))))⟩,
   ⟨none, some 4, 4, .mv (.t 8)⟩])
 (.ret))⟩
abbrev C_s_l1Once (Te : Nat → List AV → Res → Prop) : Prop := ∀ (c : CurV) (n : Int) (hc : c.ok), ∃ (r : Bool) (d : CurV), (d.ok) ∧ Te 44 [.ptr c.enc, .one (iT n)] ⟨[.one (bT r)], [d.enc, [iT n]]⟩
theorem r_s_l1Once {Te : Nat → List AV → Res → Prop} (c_s_l1Below : C_s_l1Below Te) : ∀ (c : CurV) (n : Int) (hc : c.ok), ∃ r0, (∃ (r : Bool) (d : CurV), (d.ok) ∧ r0 = (⟨[.one (bT r)], [d.enc, [iT n]]⟩ : Res)) ∧ RunFn Te x_s_l1Once [.ptr c.enc, .one (iT n)] r0 := by
  intro c n hc
  refine some_of (by simp -implicitDefEqProofs (maxSteps := 1000000) only [x_s_l1Once, go_sem]) (by rfl) ?_
  simp -implicitDefEqProofs (maxSteps := 1000000) only [x_s_l1Once, go_sem, true_implies, false_implies]
  repeat (first | refine ⟨rfl, ?_⟩ | refine ⟨by decide, ?_⟩ | refine ⟨⟨by decide, by decide⟩, ?_⟩ | refine ⟨decide_eq_true (by omega), ?_⟩ | refine ⟨⟨decide_eq_true (by omega), decide_eq_true (by omega)⟩, ?_⟩)
  try (first | done | decide | exact decide_eq_true (by omega) | exact ⟨decide_eq_true (by omega), decide_eq_true (by omega)⟩)
  obtain ⟨r, d, ⟨_, hd⟩, ht⟩ := c_s_l1Below c n hc
  refine .of (ht) ?_
  try simp -implicitDefEqProofs (maxSteps := 1000000) only [go_sem, true_implies, false_implies]
  repeat (first | refine ⟨rfl, ?_⟩ | refine ⟨by decide, ?_⟩ | refine ⟨⟨by decide, by decide⟩, ?_⟩ | refine ⟨decide_eq_true (by omega), ?_⟩ | refine ⟨⟨decide_eq_true (by omega), decide_eq_true (by omega)⟩, ?_⟩)
  try (first | done | decide | exact decide_eq_true (by omega) | exact ⟨decide_eq_true (by omega), decide_eq_true (by omega)⟩)
  exact ⟨_, d, hd, rfl⟩
def x_s_l1Int : FnX := ⟨12, [.tmp 4],
  .seq (.reg [⟨none, some 4, 4, .mv (.k (.one (.pv (.int .i64 0))))⟩])
 (.seq (.reg [⟨none, some 5, 5, .mv (.t 1)⟩,
   ⟨none, some 6, 6, .mv (.t 0)⟩,
   ⟨none, some 7, 7, .mv (.t 1)⟩,
   ⟨none, some 8, 8, .len (.t 7)⟩,
   ⟨none, some 9, 9, .call 45 [5, 0] [(.t 6), (.t 8)]⟩,
   ⟨none, some 10, 10, .iaddr 1 (.t 5) (.t 9)⟩,
   ⟨none, some 11, 11, .load none (.t 10)⟩,
   ⟨none, some 4, 4, .mv (.t 11)⟩])
 (.ret))⟩
abbrev C_s_l1Int (Te : Nat → List AV → Res → Prop) : Prop := ∀ (c : CurV) (l : List Int) (hc : c.ok) (hl : 0 < l.length ∧ l.length ≤ 2 ^ 31), ∃ (r : Int) (d : CurV), (r ∈ l ∧ d.ok) ∧ Te 46 [.ptr c.enc, .one (slT true 1 iR l)] ⟨[.one (iT r)], [d.enc, [slT true 1 iR l]]⟩
theorem r_s_l1Int {Te : Nat → List AV → Res → Prop} (c_s_l1Below : C_s_l1Below Te) : ∀ (c : CurV) (l : List Int) (hc : c.ok) (hl : 0 < l.length ∧ l.length ≤ 2 ^ 31), ∃ r0, (∃ (r : Int) (d : CurV), (r ∈ l ∧ d.ok) ∧ r0 = (⟨[.one (iT r)], [d.enc, [slT true 1 iR l]]⟩ : Res)) ∧ RunFn Te x_s_l1Int [.ptr c.enc, .one (slT true 1 iR l)] r0 := by
  intro c l hc hl
  refine some_of (by simp -implicitDefEqProofs (maxSteps := 1000000) only [x_s_l1Int, go_sem]) (by rfl) ?_
  simp -implicitDefEqProofs (maxSteps := 1000000) only [x_s_l1Int, go_sem, true_implies, false_implies]
  repeat (first | refine ⟨rfl, ?_⟩ | refine ⟨by decide, ?_⟩ | refine ⟨⟨by decide, by decide⟩, ?_⟩ | refine ⟨decide_eq_true (by omega), ?_⟩ | refine ⟨⟨decide_eq_true (by omega), decide_eq_true (by omega)⟩, ?_⟩)
  try (first | done | decide | exact decide_eq_true (by omega) | exact ⟨decide_eq_true (by omega), decide_eq_true (by omega)⟩)
  obtain ⟨r, d, ⟨hr, hd⟩, ht⟩ := c_s_l1Below c l.length hc
  have hr' : r.toNat < l.length := by have := hr.2.1 (by omega); omega
  refine .of (ht) ?_
  try simp -implicitDefEqProofs (maxSteps := 1000000) only [go_sem, true_implies, false_implies, List.getD_eq_getElem?_getD, List.getElem?_eq_getElem hr']
  repeat (first | refine ⟨rfl, ?_⟩ | refine ⟨by decide, ?_⟩ | refine ⟨⟨by decide, by decide⟩, ?_⟩ | refine ⟨decide_eq_true (by omega), ?_⟩ | refine ⟨⟨decide_eq_true (by omega), decide_eq_true (by omega)⟩, ?_⟩)
  try (first | done | decide | exact decide_eq_true (by omega) | exact ⟨decide_eq_true (by omega), decide_eq_true (by omega)⟩)
  exact ⟨_, d, ⟨List.getElem_mem hr', hd⟩, rfl⟩
def x_s_l1Str : FnX := ⟨12, [.tmp 4],
  .seq (.reg [⟨none, some 4, 4, .mv (.k (.one (.pv (.string ⟨#[]⟩))))⟩])
 (.seq (.reg [⟨none, some 5, 5, .mv (.t 1)⟩,
   ⟨none, some 6, 6, .mv (.t 0)⟩,
   ⟨none, some 7, 7, .mv (.t 1)⟩,
   ⟨none, some 8, 8, .len (.t 7)⟩,
   ⟨none, some 9, 9, .call 45 [5, 0] [(.t 6), (.t 8)]⟩,
   ⟨none, some 10, 10, .iaddr 1 (.t 5) (.t 9)⟩,
   ⟨none, some 11, 11, .load none (.t 10)⟩,
   ⟨none, some 4, 4, .mv (.t 11)⟩])
 (.ret))⟩
abbrev C_s_l1Str (Te : Nat → List AV → Res → Prop) : Prop := ∀ (c : CurV) (l : List ByteArray) (hc : c.ok) (hl : 0 < l.length ∧ l.length ≤ 2 ^ 31), ∃ (r : ByteArray) (d : CurV), (r ∈ l ∧ d.ok) ∧ Te 72 [.ptr c.enc, .one (slT true 1 sR l)] ⟨[.one (sT r)], [d.enc, [slT true 1 sR l]]⟩
theorem r_s_l1Str {Te : Nat → List AV → Res → Prop} (c_s_l1Below : C_s_l1Below Te) : ∀ (c : CurV) (l : List ByteArray) (hc : c.ok) (hl : 0 < l.length ∧ l.length ≤ 2 ^ 31), ∃ r0, (∃ (r : ByteArray) (d : CurV), (r ∈ l ∧ d.ok) ∧ r0 = (⟨[.one (sT r)], [d.enc, [slT true 1 sR l]]⟩ : Res)) ∧ RunFn Te x_s_l1Str [.ptr c.enc, .one (slT true 1 sR l)] r0 := by
  intro c l hc hl
  refine some_of (by simp -implicitDefEqProofs (maxSteps := 1000000) only [x_s_l1Str, go_sem]) (by rfl) ?_
  simp -implicitDefEqProofs (maxSteps := 1000000) only [x_s_l1Str, go_sem, true_implies, false_implies]
  repeat (first | refine ⟨rfl, ?_⟩ | refine ⟨by decide, ?_⟩ | refine ⟨⟨by decide, by decide⟩, ?_⟩ | refine ⟨decide_eq_true (by omega), ?_⟩ | refine ⟨⟨decide_eq_true (by omega), decide_eq_true (by omega)⟩, ?_⟩)
  try (first | done | decide | exact decide_eq_true (by omega) | exact ⟨decide_eq_true (by omega), decide_eq_true (by omega)⟩)
  obtain ⟨r, d, ⟨hr, hd⟩, ht⟩ := c_s_l1Below c l.length hc
  have hr' : r.toNat < l.length := by have := hr.2.1 (by omega); omega
  refine .of (ht) ?_
  try simp -implicitDefEqProofs (maxSteps := 1000000) only [go_sem, true_implies, false_implies, List.getD_eq_getElem?_getD, List.getElem?_eq_getElem hr']
  repeat (first | refine ⟨rfl, ?_⟩ | refine ⟨by decide, ?_⟩ | refine ⟨⟨by decide, by decide⟩, ?_⟩ | refine ⟨decide_eq_true (by omega), ?_⟩ | refine ⟨⟨decide_eq_true (by omega), decide_eq_true (by omega)⟩, ?_⟩)
  try (first | done | decide | exact decide_eq_true (by omega) | exact ⟨decide_eq_true (by omega), decide_eq_true (by omega)⟩)
  exact ⟨_, d, ⟨List.getElem_mem hr', hd⟩, rfl⟩
end Go.X

/- Qa -/
namespace Go.X
set_option maxRecDepth 100000
set_option maxHeartbeats 8000000
def leadShape (l : Lead) : Prop := ∃ p a0 a1 e0 e1 t0 t1, l = ⟨p, [a0, a1], [e0, e1], [t0, t1]⟩ ∧ (0 ≤ p ∧ p ≤ 7) ∧ t0.size ≤ 1 ∧ t1.size ≤ 1
theorem short3 {r : ByteArray} (h : r ∈ [(⟨#[]⟩ : ByteArray), ⟨#[97]⟩, ⟨#[98]⟩]) : r.size ≤ 1 := by
  simp only [List.mem_cons, List.not_mem_nil, or_false] at h
  rcases h with rfl | rfl | rfl <;> decide
abbrev Six := Bool × Bool × Bool × Bool × ByteArray × ByteArray
def x_s_l19Draw : FnX := ⟨39, [.cell 2 (some 4)],
  .seq (.reg [⟨none, some 2, 2, .alloc [.pv (.int .i64 0), .nils 1, .nils 1, .nils 1]⟩])
 (.seq (.reg [⟨none, some 5, 5, .mv (.t 0)⟩,
   ⟨none, some 6, 6, .call 45 [5, 0] [(.t 5), (.k (.one (.pv (.int .i64 8))))]⟩,
   ⟨none, some 7, 7, .call 65 [0] [(.t 6)]⟩,
   ⟨none, some 3, 3, .alloc [.pv (.int .i64 0), .nils 1, .nils 1, .nils 1]⟩,
   ⟨none, none, 100001, .store 4 (.t 3) (.t 7)⟩])
 (.seq (.seq (.reg [⟨none, some 4, 4, .mv (.k (.one (.pv (.int .i64 0))))⟩])
 (.block 0 (.loop [0, 2, 3, 4] (.seq (.seq (.reg [⟨none, some 8, 8, .mv (.t 4)⟩,
   ⟨none, some 9, 9, .bin .lss (.t 8) (.k (.one (.pv (.int .i64 2))))⟩])
 (.cond 9 (.skip) (.exit 0)))
 (.seq (.block 1 (.seq (.draw [⟨none, some 12, 12, .faddr (.t 3) 1⟩,
   ⟨none, some 13, 13, .load none (.t 12)⟩,
   ⟨none, some 14, 14, .mv (.t 4)⟩,
   ⟨none, some 15, 15, .mv (.t 0)⟩,
   ⟨none, some 16, 16, .call 44 [5, 0] [(.t 15), (.k (.one (.pv (.int .i64 2))))]⟩,
   ⟨none, some 17, 17, .iaddr 1 (.t 13) (.t 14)⟩,
   ⟨none, none, 100002, .store 1 (.t 17) (.t 16)⟩] [[], [0], [], [], [3], [1, 2, 0, 1, 2, 3, 4], [5, 4, 4, 0, 1, 2, 3, 4]])
 (.seq (.draw [⟨none, some 18, 18, .faddr (.t 3) 2⟩,
   ⟨none, some 19, 19, .load none (.t 18)⟩,
   ⟨none, some 20, 20, .mv (.t 4)⟩,
   ⟨none, some 21, 21, .faddr (.t 3) 1⟩,
   ⟨none, some 22, 22, .load none (.t 21)⟩,
   ⟨none, some 23, 23, .mv (.t 4)⟩,
   ⟨none, some 24, 24, .iaddr 1 (.t 22) (.t 23)⟩,
   ⟨none, some 25, 25, .load none (.t 24)⟩,
   ⟨none, some 26, 26, .mv (.t 25)⟩,
   ⟨(some (26, true)), some 27, 27, .mv (.t 0)⟩,
   ⟨(some (26, true)), some 28, 28, .call 44 [5, 0] [(.t 27), (.k (.one (.pv (.int .i64 2))))]⟩,
   ⟨none, some 29, 29, .pick (.t 26) (.t 28) (.k (.one (.pv (.bool false))))⟩,
   ⟨none, some 30, 30, .iaddr 1 (.t 19) (.t 20)⟩,
   ⟨none, none, 100003, .store 1 (.t 30) (.t 29)⟩] [[], [0], [], [], [3], [], [4, 5], [6], [7], [8], [9, 8, 8], [8, 10], [1, 2, 0, 1, 2, 3, 4, 5, 6, 7, 8, 9, 10, 11], [12, 11, 10, 0, 1, 2, 3, 4, 5, 6, 7, 8, 9, 10, 11]])
 (.draw [⟨none, some 31, 31, .faddr (.t 3) 3⟩,
   ⟨none, some 32, 32, .load none (.t 31)⟩,
   ⟨none, some 33, 33, .mv (.t 4)⟩,
   ⟨none, some 34, 34, .mv (.t 0)⟩,
   ⟨none, some 35, 35, .bslice 1 [(.k (.one (.pv (.string ⟨#[]⟩)))), (.k (.one (.pv (.string ⟨#[97]⟩)))), (.k (.one (.pv (.string ⟨#[98]⟩))))]⟩,
   ⟨none, some 36, 36, .call 72 [5, 1] [(.t 34), (.t 35)]⟩,
   ⟨none, some 37, 37, .iaddr 1 (.t 32) (.t 33)⟩,
   ⟨none, none, 100004, .store 1 (.t 37) (.t 36)⟩] [[], [0], [], [], [], [3, 4], [1, 2, 0, 1, 2, 3, 4, 5], [6, 5, 5, 0, 1, 2, 3, 4, 5]]))))
 (.reg [⟨none, some 10, 10, .mv (.t 4)⟩,
   ⟨none, some 11, 11, .bin .add (.t 10) (.k (.one (.pv (.int .i64 1))))⟩,
   ⟨none, some 4, 4, .mv (.t 11)⟩]))))))
 (.norm [2, 3] (.seq (.reg [⟨none, some 38, 38, .load (some 4) (.t 3)⟩,
   ⟨none, none, 100005, .store 4 (.t 2) (.t 38)⟩])
 (.ret)))))⟩
abbrev C_s_l19Draw (Te : Nat → List AV → Res → Prop) : Prop := ∀ (c : CurV) (hc : c.ok), ∃ (l : Lead) (d : CurV), (leadShape l ∧ d.ok) ∧ Te 80 [.ptr c.enc] ⟨[.agg (l.enc true)], [d.enc]⟩
theorem r_s_l19Draw {Te : Nat → List AV → Res → Prop} (c_s_l1Below : C_s_l1Below Te) (c_s_l19At : C_s_l19At Te) (c_s_l1Once : C_s_l1Once Te) (c_s_l1Str : C_s_l1Str Te) : ∀ (c : CurV) (hc : c.ok), ∃ r0, (∃ (l : Lead) (d : CurV), (leadShape l ∧ d.ok) ∧ r0 = (⟨[.agg (l.enc true)], [d.enc]⟩ : Res)) ∧ RunFn Te x_s_l19Draw [.ptr c.enc] r0 := by
  intro c hc
  refine some_of (by simp -implicitDefEqProofs (maxSteps := 1000000) only [x_s_l19Draw, go_sem]) (by rfl) ?_
  simp -implicitDefEqProofs (maxSteps := 1000000) only [x_s_l19Draw, go_sem, true_implies, false_implies]
  repeat (first | refine ⟨rfl, ?_⟩ | refine ⟨by decide, ?_⟩ | refine ⟨⟨by decide, by decide⟩, ?_⟩ | refine ⟨decide_eq_true (by omega), ?_⟩ | refine ⟨⟨decide_eq_true (by omega), decide_eq_true (by omega)⟩, ?_⟩)
  try (first | done | decide | exact decide_eq_true (by omega) | exact ⟨decide_eq_true (by omega), decide_eq_true (by omega)⟩)
  obtain ⟨p, c1, ⟨hp, hc1⟩, ht⟩ := c_s_l1Below c 8 hc
  refine .of (ht) ?_
  try simp -implicitDefEqProofs (maxSteps := 1000000) only [go_sem, true_implies, false_implies]
  repeat (first | refine ⟨rfl, ?_⟩ | refine ⟨by decide, ?_⟩ | refine ⟨⟨by decide, by decide⟩, ?_⟩ | refine ⟨decide_eq_true (by omega), ?_⟩ | refine ⟨⟨decide_eq_true (by omega), decide_eq_true (by omega)⟩, ?_⟩)
  try (first | done | decide | exact decide_eq_true (by omega) | exact ⟨decide_eq_true (by omega), decide_eq_true (by omega)⟩)
  refine .of (c_s_l19At _) ?_
  try simp -implicitDefEqProofs (maxSteps := 1000000) only [go_sem, true_implies, false_implies]
  repeat (first | refine ⟨rfl, ?_⟩ | refine ⟨by decide, ?_⟩ | refine ⟨⟨by decide, by decide⟩, ?_⟩ | refine ⟨decide_eq_true (by omega), ?_⟩ | refine ⟨⟨decide_eq_true (by omega), decide_eq_true (by omega)⟩, ?_⟩)
  try (first | done | decide | exact decide_eq_true (by omega) | exact ⟨decide_eq_true (by omega), decide_eq_true (by omega)⟩)
  refine loop_of (σ := Nat × Six × CurV) (fun x => ⟨[(0, .bp 0 0), (2, .bp 2 0), (3, .bp 3 0), (4, .one (.pv (.int .i64 x.1)))], [(0, [.ro 1 (x.2.2.b.map uR), .pv (.int .i64 x.2.2.i), .pv (.int .i64 x.2.2.h)]), (2, [.pv (.int .i64 0), .nils 1, .nils 1, .nils 1]), (3, [.pv (.int .i64 p), .rf 40 1 [] 1 0 2, .rf 40 2 [] 1 0 2, .rf 40 3 [] 1 0 2])], [(0, c.enc), (40, [iT p, .sl true 1 () [bR x.2.1.1, bR x.2.1.2.1], .sl true 1 () [bR x.2.1.2.2.1, bR x.2.1.2.2.2.1], .sl true 1 () [sR x.2.1.2.2.2.2.1, sR x.2.1.2.2.2.2.2]])]⟩) (fun x => x.1 ≤ 2 ∧ x.2.1.2.2.2.2.1.size ≤ 1 ∧ x.2.1.2.2.2.2.2.size ≤ 1 ∧ x.2.2.ok) (fun x => 2 - x.1) (0, (false, false, false, false, ⟨#[]⟩, ⟨#[]⟩), c1) ?_ ⟨Nat.zero_le _, Nat.zero_le _, Nat.zero_le _, hc1⟩ ?_
  · simp -implicitDefEqProofs (maxSteps := 1000000) only [go_sem]; rfl
  · rintro ⟨i, ⟨a0, a1, e0, e1, t0, t1⟩, d⟩ ⟨hi, s0, s1, hd⟩
    simp only at hi s0 s1 hd
    have hi' : i = 0 ∨ i = 1 ∨ i = 2 := by omega
    obtain ⟨r1, d1, hd1, ht1⟩ := c_s_l1Once d 2 hd
    obtain ⟨r2, d2, hd2, ht2⟩ := c_s_l1Once d1 2 hd1
    rcases hi' with rfl | rfl | rfl
    · try simp -implicitDefEqProofs (maxSteps := 1000000) only [go_sem, true_implies, false_implies, show ((0 : Nat) : Int) = 0 from rfl, Int.toNat_zero, Int.toNat_one, Nat.zero_add, storeAp, setCells, List.getD_cons_zero, List.getD_cons_succ, List.set_cons_zero, List.set_cons_succ]
      repeat (first | refine ⟨rfl, ?_⟩ | refine ⟨by decide, ?_⟩ | refine ⟨⟨by decide, by decide⟩, ?_⟩ | refine ⟨decide_eq_true (by omega), ?_⟩ | refine ⟨⟨decide_eq_true (by omega), decide_eq_true (by omega)⟩, ?_⟩)
      try (first | done | decide | exact decide_eq_true (by omega) | exact ⟨decide_eq_true (by omega), decide_eq_true (by omega)⟩)
      refine .of (ht1) ?_
      try simp -implicitDefEqProofs (maxSteps := 1000000) only [go_sem, true_implies, false_implies, show ((0 : Nat) : Int) = 0 from rfl, Int.toNat_zero, Int.toNat_one, Nat.zero_add, storeAp, setCells, List.getD_cons_zero, List.getD_cons_succ, List.set_cons_zero, List.set_cons_succ]
      repeat (first | refine ⟨rfl, ?_⟩ | refine ⟨by decide, ?_⟩ | refine ⟨⟨by decide, by decide⟩, ?_⟩ | refine ⟨decide_eq_true (by omega), ?_⟩ | refine ⟨⟨decide_eq_true (by omega), decide_eq_true (by omega)⟩, ?_⟩)
      try (first | done | decide | exact decide_eq_true (by omega) | exact ⟨decide_eq_true (by omega), decide_eq_true (by omega)⟩)
      cases r1
      · try simp -implicitDefEqProofs (maxSteps := 1000000) only [go_sem, true_implies, false_implies, show ((0 : Nat) : Int) = 0 from rfl, Int.toNat_zero, Int.toNat_one, Nat.zero_add, storeAp, setCells, List.getD_cons_zero, List.getD_cons_succ, List.set_cons_zero, List.set_cons_succ]
        repeat (first | refine ⟨rfl, ?_⟩ | refine ⟨by decide, ?_⟩ | refine ⟨⟨by decide, by decide⟩, ?_⟩ | refine ⟨decide_eq_true (by omega), ?_⟩ | refine ⟨⟨decide_eq_true (by omega), decide_eq_true (by omega)⟩, ?_⟩)
        try (first | done | decide | exact decide_eq_true (by omega) | exact ⟨decide_eq_true (by omega), decide_eq_true (by omega)⟩)
        obtain ⟨r3, d3, ⟨hr3, hd3⟩, ht3⟩ := c_s_l1Str d1 [⟨#[]⟩, ⟨#[97]⟩, ⟨#[98]⟩] hd1 (by decide)
        refine .of (ht3) ?_
        try simp -implicitDefEqProofs (maxSteps := 1000000) only [go_sem, true_implies, false_implies, show ((0 : Nat) : Int) = 0 from rfl, Int.toNat_zero, Int.toNat_one, Nat.zero_add, storeAp, setCells, List.getD_cons_zero, List.getD_cons_succ, List.set_cons_zero, List.set_cons_succ]
        repeat (first | refine ⟨rfl, ?_⟩ | refine ⟨by decide, ?_⟩ | refine ⟨⟨by decide, by decide⟩, ?_⟩ | refine ⟨decide_eq_true (by omega), ?_⟩ | refine ⟨⟨decide_eq_true (by omega), decide_eq_true (by omega)⟩, ?_⟩)
        try (first | done | decide | exact decide_eq_true (by omega) | exact ⟨decide_eq_true (by omega), decide_eq_true (by omega)⟩)
        exact ⟨(1, (false, a1, false, e1, r3, t1), d3), rfl, ⟨by show _ ≤ 2; omega, short3 hr3, s1, hd3⟩, by simp only; omega⟩
      · try simp -implicitDefEqProofs (maxSteps := 1000000) only [go_sem, true_implies, false_implies, show ((0 : Nat) : Int) = 0 from rfl, Int.toNat_zero, Int.toNat_one, Nat.zero_add, storeAp, setCells, List.getD_cons_zero, List.getD_cons_succ, List.set_cons_zero, List.set_cons_succ]
        repeat (first | refine ⟨rfl, ?_⟩ | refine ⟨by decide, ?_⟩ | refine ⟨⟨by decide, by decide⟩, ?_⟩ | refine ⟨decide_eq_true (by omega), ?_⟩ | refine ⟨⟨decide_eq_true (by omega), decide_eq_true (by omega)⟩, ?_⟩)
        try (first | done | decide | exact decide_eq_true (by omega) | exact ⟨decide_eq_true (by omega), decide_eq_true (by omega)⟩)
        refine .of (ht2) ?_
        try simp -implicitDefEqProofs (maxSteps := 1000000) only [go_sem, true_implies, false_implies, show ((0 : Nat) : Int) = 0 from rfl, Int.toNat_zero, Int.toNat_one, Nat.zero_add, storeAp, setCells, List.getD_cons_zero, List.getD_cons_succ, List.set_cons_zero, List.set_cons_succ]
        repeat (first | refine ⟨rfl, ?_⟩ | refine ⟨by decide, ?_⟩ | refine ⟨⟨by decide, by decide⟩, ?_⟩ | refine ⟨decide_eq_true (by omega), ?_⟩ | refine ⟨⟨decide_eq_true (by omega), decide_eq_true (by omega)⟩, ?_⟩)
        try (first | done | decide | exact decide_eq_true (by omega) | exact ⟨decide_eq_true (by omega), decide_eq_true (by omega)⟩)
        obtain ⟨r3, d3, ⟨hr3, hd3⟩, ht3⟩ := c_s_l1Str d2 [⟨#[]⟩, ⟨#[97]⟩, ⟨#[98]⟩] hd2 (by decide)
        refine .of (ht3) ?_
        try simp -implicitDefEqProofs (maxSteps := 1000000) only [go_sem, true_implies, false_implies, show ((0 : Nat) : Int) = 0 from rfl, Int.toNat_zero, Int.toNat_one, Nat.zero_add, storeAp, setCells, List.getD_cons_zero, List.getD_cons_succ, List.set_cons_zero, List.set_cons_succ]
        repeat (first | refine ⟨rfl, ?_⟩ | refine ⟨by decide, ?_⟩ | refine ⟨⟨by decide, by decide⟩, ?_⟩ | refine ⟨decide_eq_true (by omega), ?_⟩ | refine ⟨⟨decide_eq_true (by omega), decide_eq_true (by omega)⟩, ?_⟩)
        try (first | done | decide | exact decide_eq_true (by omega) | exact ⟨decide_eq_true (by omega), decide_eq_true (by omega)⟩)
        exact ⟨(1, (true, a1, r2, e1, r3, t1), d3), rfl, ⟨by show _ ≤ 2; omega, short3 hr3, s1, hd3⟩, by simp only; omega⟩
    · try simp -implicitDefEqProofs (maxSteps := 1000000) only [go_sem, true_implies, false_implies, show ((1 : Nat) : Int) = 1 from rfl, Int.toNat_zero, Int.toNat_one, Nat.zero_add, storeAp, setCells, List.getD_cons_zero, List.getD_cons_succ, List.set_cons_zero, List.set_cons_succ]
      repeat (first | refine ⟨rfl, ?_⟩ | refine ⟨by decide, ?_⟩ | refine ⟨⟨by decide, by decide⟩, ?_⟩ | refine ⟨decide_eq_true (by omega), ?_⟩ | refine ⟨⟨decide_eq_true (by omega), decide_eq_true (by omega)⟩, ?_⟩)
      try (first | done | decide | exact decide_eq_true (by omega) | exact ⟨decide_eq_true (by omega), decide_eq_true (by omega)⟩)
      refine .of (ht1) ?_
      try simp -implicitDefEqProofs (maxSteps := 1000000) only [go_sem, true_implies, false_implies, show ((1 : Nat) : Int) = 1 from rfl, Int.toNat_zero, Int.toNat_one, Nat.zero_add, storeAp, setCells, List.getD_cons_zero, List.getD_cons_succ, List.set_cons_zero, List.set_cons_succ]
      repeat (first | refine ⟨rfl, ?_⟩ | refine ⟨by decide, ?_⟩ | refine ⟨⟨by decide, by decide⟩, ?_⟩ | refine ⟨decide_eq_true (by omega), ?_⟩ | refine ⟨⟨decide_eq_true (by omega), decide_eq_true (by omega)⟩, ?_⟩)
      try (first | done | decide | exact decide_eq_true (by omega) | exact ⟨decide_eq_true (by omega), decide_eq_true (by omega)⟩)
      cases r1
      · try simp -implicitDefEqProofs (maxSteps := 1000000) only [go_sem, true_implies, false_implies, show ((1 : Nat) : Int) = 1 from rfl, Int.toNat_zero, Int.toNat_one, Nat.zero_add, storeAp, setCells, List.getD_cons_zero, List.getD_cons_succ, List.set_cons_zero, List.set_cons_succ]
        repeat (first | refine ⟨rfl, ?_⟩ | refine ⟨by decide, ?_⟩ | refine ⟨⟨by decide, by decide⟩, ?_⟩ | refine ⟨decide_eq_true (by omega), ?_⟩ | refine ⟨⟨decide_eq_true (by omega), decide_eq_true (by omega)⟩, ?_⟩)
        try (first | done | decide | exact decide_eq_true (by omega) | exact ⟨decide_eq_true (by omega), decide_eq_true (by omega)⟩)
        obtain ⟨r3, d3, ⟨hr3, hd3⟩, ht3⟩ := c_s_l1Str d1 [⟨#[]⟩, ⟨#[97]⟩, ⟨#[98]⟩] hd1 (by decide)
        refine .of (ht3) ?_
        try simp -implicitDefEqProofs (maxSteps := 1000000) only [go_sem, true_implies, false_implies, show ((1 : Nat) : Int) = 1 from rfl, Int.toNat_zero, Int.toNat_one, Nat.zero_add, storeAp, setCells, List.getD_cons_zero, List.getD_cons_succ, List.set_cons_zero, List.set_cons_succ]
        repeat (first | refine ⟨rfl, ?_⟩ | refine ⟨by decide, ?_⟩ | refine ⟨⟨by decide, by decide⟩, ?_⟩ | refine ⟨decide_eq_true (by omega), ?_⟩ | refine ⟨⟨decide_eq_true (by omega), decide_eq_true (by omega)⟩, ?_⟩)
        try (first | done | decide | exact decide_eq_true (by omega) | exact ⟨decide_eq_true (by omega), decide_eq_true (by omega)⟩)
        exact ⟨(2, (a0, false, e0, false, t0, r3), d3), rfl, ⟨by show _ ≤ 2; omega, s0, short3 hr3, hd3⟩, by simp only; omega⟩
      · try simp -implicitDefEqProofs (maxSteps := 1000000) only [go_sem, true_implies, false_implies, show ((1 : Nat) : Int) = 1 from rfl, Int.toNat_zero, Int.toNat_one, Nat.zero_add, storeAp, setCells, List.getD_cons_zero, List.getD_cons_succ, List.set_cons_zero, List.set_cons_succ]
        repeat (first | refine ⟨rfl, ?_⟩ | refine ⟨by decide, ?_⟩ | refine ⟨⟨by decide, by decide⟩, ?_⟩ | refine ⟨decide_eq_true (by omega), ?_⟩ | refine ⟨⟨decide_eq_true (by omega), decide_eq_true (by omega)⟩, ?_⟩)
        try (first | done | decide | exact decide_eq_true (by omega) | exact ⟨decide_eq_true (by omega), decide_eq_true (by omega)⟩)
        refine .of (ht2) ?_
        try simp -implicitDefEqProofs (maxSteps := 1000000) only [go_sem, true_implies, false_implies, show ((1 : Nat) : Int) = 1 from rfl, Int.toNat_zero, Int.toNat_one, Nat.zero_add, storeAp, setCells, List.getD_cons_zero, List.getD_cons_succ, List.set_cons_zero, List.set_cons_succ]
        repeat (first | refine ⟨rfl, ?_⟩ | refine ⟨by decide, ?_⟩ | refine ⟨⟨by decide, by decide⟩, ?_⟩ | refine ⟨decide_eq_true (by omega), ?_⟩ | refine ⟨⟨decide_eq_true (by omega), decide_eq_true (by omega)⟩, ?_⟩)
        try (first | done | decide | exact decide_eq_true (by omega) | exact ⟨decide_eq_true (by omega), decide_eq_true (by omega)⟩)
        obtain ⟨r3, d3, ⟨hr3, hd3⟩, ht3⟩ := c_s_l1Str d2 [⟨#[]⟩, ⟨#[97]⟩, ⟨#[98]⟩] hd2 (by decide)
        refine .of (ht3) ?_
        try simp -implicitDefEqProofs (maxSteps := 1000000) only [go_sem, true_implies, false_implies, show ((1 : Nat) : Int) = 1 from rfl, Int.toNat_zero, Int.toNat_one, Nat.zero_add, storeAp, setCells, List.getD_cons_zero, List.getD_cons_succ, List.set_cons_zero, List.set_cons_succ]
        repeat (first | refine ⟨rfl, ?_⟩ | refine ⟨by decide, ?_⟩ | refine ⟨⟨by decide, by decide⟩, ?_⟩ | refine ⟨decide_eq_true (by omega), ?_⟩ | refine ⟨⟨decide_eq_true (by omega), decide_eq_true (by omega)⟩, ?_⟩)
        try (first | done | decide | exact decide_eq_true (by omega) | exact ⟨decide_eq_true (by omega), decide_eq_true (by omega)⟩)
        exact ⟨(2, (a0, true, e0, r2, t0, r3), d3), rfl, ⟨by show _ ≤ 2; omega, s0, short3 hr3, hd3⟩, by simp only; omega⟩
    · try simp -implicitDefEqProofs (maxSteps := 1000000) only [go_sem, true_implies, false_implies, show decide (((2 : Nat) : Int) < 2) = false from rfl]
      repeat (first | refine ⟨rfl, ?_⟩ | refine ⟨by decide, ?_⟩ | refine ⟨⟨by decide, by decide⟩, ?_⟩ | refine ⟨decide_eq_true (by omega), ?_⟩ | refine ⟨⟨decide_eq_true (by omega), decide_eq_true (by omega)⟩, ?_⟩)
      try (first | done | decide | exact decide_eq_true (by omega) | exact ⟨decide_eq_true (by omega), decide_eq_true (by omega)⟩)
      exact ⟨_, d, ⟨⟨p, a0, a1, e0, e1, t0, t1, rfl, by omega, s0, s1⟩, hd⟩, rfl⟩
end Go.X

/- Qb -/
namespace Go.X
set_option maxRecDepth 100000
set_option maxHeartbeats 8000000
def x_l_sameLead : FnX := ⟨94, [.tmp 4],
  .seq (.reg [⟨none, some 2, 2, .box (.t 0)⟩,
   ⟨none, some 3, 3, .box (.t 1)⟩,
   ⟨none, some 4, 4, .mv (.k (.one (.pv (.bool false))))⟩])
 (.seq (.seq (.reg [⟨none, some 8, 8, .faddr (.t 2) 0⟩,
   ⟨none, some 9, 9, .load none (.t 8)⟩,
   ⟨none, some 10, 10, .faddr (.t 3) 0⟩,
   ⟨none, some 11, 11, .load none (.t 10)⟩,
   ⟨none, some 12, 12, .bin .neq (.t 9) (.t 11)⟩,
   ⟨none, some 13, 13, .mv (.t 12)⟩,
   ⟨(some (13, false)), some 14, 14, .faddr (.t 2) 1⟩,
   ⟨(some (13, false)), some 15, 15, .load none (.t 14)⟩,
   ⟨(some (13, false)), some 16, 16, .len (.t 15)⟩,
   ⟨(some (13, false)), some 17, 17, .faddr (.t 3) 1⟩,
   ⟨(some (13, false)), some 18, 18, .load none (.t 17)⟩,
   ⟨(some (13, false)), some 19, 19, .len (.t 18)⟩,
   ⟨(some (13, false)), some 20, 20, .bin .neq (.t 16) (.t 19)⟩,
   ⟨none, some 21, 21, .pick (.t 13) (.k (.one (.pv (.bool true)))) (.t 20)⟩,
   ⟨none, some 22, 22, .mv (.t 21)⟩,
   ⟨(some (22, false)), some 23, 23, .faddr (.t 2) 2⟩,
   ⟨(some (22, false)), some 24, 24, .load none (.t 23)⟩,
   ⟨(some (22, false)), some 25, 25, .len (.t 24)⟩,
   ⟨(some (22, false)), some 26, 26, .faddr (.t 3) 2⟩,
   ⟨(some (22, false)), some 27, 27, .load none (.t 26)⟩,
   ⟨(some (22, false)), some 28, 28, .len (.t 27)⟩,
   ⟨(some (22, false)), some 29, 29, .bin .neq (.t 25) (.t 28)⟩,
   ⟨none, some 30, 30, .pick (.t 22) (.k (.one (.pv (.bool true)))) (.t 29)⟩,
   ⟨none, some 31, 31, .mv (.t 30)⟩,
   ⟨(some (31, false)), some 32, 32, .faddr (.t 2) 3⟩,
   ⟨(some (31, false)), some 33, 33, .load none (.t 32)⟩,
   ⟨(some (31, false)), some 34, 34, .len (.t 33)⟩,
   ⟨(some (31, false)), some 35, 35, .faddr (.t 3) 3⟩,
   ⟨(some (31, false)), some 36, 36, .load none (.t 35)⟩,
   ⟨(some (31, false)), some 37, 37, .len (.t 36)⟩,
   ⟨(some (31, false)), some 38, 38, .bin .neq (.t 34) (.t 37)⟩,
   ⟨none, some 39, 39, .pick (.t 31) (.k (.one (.pv (.bool true)))) (.t 38)⟩])
 (.cond 39 (.seq (.reg [⟨none, some 4, 4, .mv (.k (.one (.pv (.bool false))))⟩])
 (.ret)) (.skip)))
 (.seq (.seq (.reg [⟨none, some 5, 5, .mv (.k (.one (.pv (.int .i64 0))))⟩])
 (.block 0 (.loop [2, 3, 5] (.seq (.seq (.reg [⟨none, some 40, 40, .mv (.t 5)⟩,
   ⟨none, some 41, 41, .faddr (.t 2) 1⟩,
   ⟨none, some 42, 42, .load none (.t 41)⟩,
   ⟨none, some 43, 43, .len (.t 42)⟩,
   ⟨none, some 44, 44, .bin .lss (.t 40) (.t 43)⟩])
 (.cond 44 (.skip) (.exit 0)))
 (.seq (.block 1 (.seq (.draw [⟨none, some 47, 47, .faddr (.t 2) 1⟩,
   ⟨none, some 48, 48, .load none (.t 47)⟩,
   ⟨none, some 49, 49, .mv (.t 5)⟩,
   ⟨none, some 50, 50, .iaddr 1 (.t 48) (.t 49)⟩,
   ⟨none, some 51, 51, .load none (.t 50)⟩,
   ⟨none, some 52, 52, .faddr (.t 3) 1⟩,
   ⟨none, some 53, 53, .load none (.t 52)⟩,
   ⟨none, some 54, 54, .mv (.t 5)⟩,
   ⟨none, some 55, 55, .iaddr 1 (.t 53) (.t 54)⟩,
   ⟨none, some 56, 56, .load none (.t 55)⟩,
   ⟨none, some 57, 57, .beq true (.t 51) (.t 56)⟩] [[], [0], [], [1, 2], [3], [], [5], [], [6, 7], [8], [4, 9]])
 (.cond 57 (.seq (.reg [⟨none, some 4, 4, .mv (.k (.one (.pv (.bool false))))⟩])
 (.ret)) (.skip))))
 (.reg [⟨none, some 45, 45, .mv (.t 5)⟩,
   ⟨none, some 46, 46, .bin .add (.t 45) (.k (.one (.pv (.int .i64 1))))⟩,
   ⟨none, some 5, 5, .mv (.t 46)⟩]))))))
 (.norm [2, 3] (.seq (.seq (.reg [⟨none, some 6, 6, .mv (.k (.one (.pv (.int .i64 0))))⟩])
 (.block 2 (.loop [2, 3, 6] (.seq (.seq (.reg [⟨none, some 58, 58, .mv (.t 6)⟩,
   ⟨none, some 59, 59, .faddr (.t 2) 2⟩,
   ⟨none, some 60, 60, .load none (.t 59)⟩,
   ⟨none, some 61, 61, .len (.t 60)⟩,
   ⟨none, some 62, 62, .bin .lss (.t 58) (.t 61)⟩])
 (.cond 62 (.skip) (.exit 2)))
 (.seq (.block 3 (.seq (.draw [⟨none, some 65, 65, .faddr (.t 2) 2⟩,
   ⟨none, some 66, 66, .load none (.t 65)⟩,
   ⟨none, some 67, 67, .mv (.t 6)⟩,
   ⟨none, some 68, 68, .iaddr 1 (.t 66) (.t 67)⟩,
   ⟨none, some 69, 69, .load none (.t 68)⟩,
   ⟨none, some 70, 70, .faddr (.t 3) 2⟩,
   ⟨none, some 71, 71, .load none (.t 70)⟩,
   ⟨none, some 72, 72, .mv (.t 6)⟩,
   ⟨none, some 73, 73, .iaddr 1 (.t 71) (.t 72)⟩,
   ⟨none, some 74, 74, .load none (.t 73)⟩,
   ⟨none, some 75, 75, .beq true (.t 69) (.t 74)⟩] [[], [0], [], [1, 2], [3], [], [5], [], [6, 7], [8], [4, 9]])
 (.cond 75 (.seq (.reg [⟨none, some 4, 4, .mv (.k (.one (.pv (.bool false))))⟩])
 (.ret)) (.skip))))
 (.reg [⟨none, some 63, 63, .mv (.t 6)⟩,
   ⟨none, some 64, 64, .bin .add (.t 63) (.k (.one (.pv (.int .i64 1))))⟩,
   ⟨none, some 6, 6, .mv (.t 64)⟩]))))))
 (.norm [2, 3] (.seq (.seq (.reg [⟨none, some 7, 7, .mv (.k (.one (.pv (.int .i64 0))))⟩])
 (.block 4 (.loop [2, 3, 7] (.seq (.seq (.reg [⟨none, some 76, 76, .mv (.t 7)⟩,
   ⟨none, some 77, 77, .faddr (.t 2) 3⟩,
   ⟨none, some 78, 78, .load none (.t 77)⟩,
   ⟨none, some 79, 79, .len (.t 78)⟩,
   ⟨none, some 80, 80, .bin .lss (.t 76) (.t 79)⟩])
 (.cond 80 (.skip) (.exit 4)))
 (.seq (.block 5 (.seq (.draw [⟨none, some 83, 83, .faddr (.t 2) 3⟩,
   ⟨none, some 84, 84, .load none (.t 83)⟩,
   ⟨none, some 85, 85, .mv (.t 7)⟩,
   ⟨none, some 86, 86, .iaddr 1 (.t 84) (.t 85)⟩,
   ⟨none, some 87, 87, .load none (.t 86)⟩,
   ⟨none, some 88, 88, .faddr (.t 3) 3⟩,
   ⟨none, some 89, 89, .load none (.t 88)⟩,
   ⟨none, some 90, 90, .mv (.t 7)⟩,
   ⟨none, some 91, 91, .iaddr 1 (.t 89) (.t 90)⟩,
   ⟨none, some 92, 92, .load none (.t 91)⟩,
   ⟨none, some 93, 93, .bin .neq (.t 87) (.t 92)⟩] [[], [0], [], [1, 2], [3], [], [5], [], [6, 7], [8], [4, 9]])
 (.cond 93 (.seq (.reg [⟨none, some 4, 4, .mv (.k (.one (.pv (.bool false))))⟩])
 (.ret)) (.skip))))
 (.reg [⟨none, some 81, 81, .mv (.t 7)⟩,
   ⟨none, some 82, 82, .bin .add (.t 81) (.k (.one (.pv (.int .i64 1))))⟩,
   ⟨none, some 7, 7, .mv (.t 82)⟩]))))))
 (.norm [] (.seq (.reg [⟨none, some 4, 4, .mv (.k (.one (.pv (.bool true))))⟩])
 (.ret)))))))))⟩
abbrev C_l_sameLead (Te : Nat → List AV → Res → Prop) : Prop := ∀ (x y : Lead) (hx : x.Len), Te 33 [.agg (x.enc false), .agg (y.enc false)] ⟨[.one (bT (decide (x = y)))], [(x.enc false), (y.enc false)]⟩
theorem r_l_sameLead {Te : Nat → List AV → Res → Prop} : ∀ (x y : Lead) (hx : x.Len), RunFn Te x_l_sameLead [.agg (x.enc false), .agg (y.enc false)] ⟨[.one (bT (decide (x = y)))], [(x.enc false), (y.enc false)]⟩ := by
  intro x y hx
  refine ⟨by simp -implicitDefEqProofs (maxSteps := 1000000) only [x_l_sameLead, go_sem], ?_⟩
  obtain ⟨h0, h1, h2⟩ := hx
  cases q0 : (x.Phase == y.Phase)
  · have e : decide (x = y) = false := decide_eq_false fun h => by subst h; simp at q0
    simp -implicitDefEqProofs (maxSteps := 1000000) only [x_l_sameLead, go_sem, true_implies, false_implies, bne, q0, e]
    repeat (first | refine ⟨rfl, ?_⟩ | refine ⟨by decide, ?_⟩ | refine ⟨⟨by decide, by decide⟩, ?_⟩ | refine ⟨decide_eq_true (by omega), ?_⟩ | refine ⟨⟨decide_eq_true (by omega), decide_eq_true (by omega)⟩, ?_⟩)
    try (first | done | decide | exact decide_eq_true (by omega) | exact ⟨decide_eq_true (by omega), decide_eq_true (by omega)⟩)
  · cases q1 : ((x.Acked.length : Int) == y.Acked.length)
    · have e : decide (x = y) = false := decide_eq_false fun h => by subst h; simp at q1
      simp -implicitDefEqProofs (maxSteps := 1000000) only [x_l_sameLead, go_sem, true_implies, false_implies, bne, q0, q1, e]
      repeat (first | refine ⟨rfl, ?_⟩ | refine ⟨by decide, ?_⟩ | refine ⟨⟨by decide, by decide⟩, ?_⟩ | refine ⟨decide_eq_true (by omega), ?_⟩ | refine ⟨⟨decide_eq_true (by omega), decide_eq_true (by omega)⟩, ?_⟩)
      try (first | done | decide | exact decide_eq_true (by omega) | exact ⟨decide_eq_true (by omega), decide_eq_true (by omega)⟩)
    · cases q2 : ((x.Ended.length : Int) == y.Ended.length)
      · have e : decide (x = y) = false := decide_eq_false fun h => by subst h; simp at q2
        simp -implicitDefEqProofs (maxSteps := 1000000) only [x_l_sameLead, go_sem, true_implies, false_implies, bne, q0, q1, q2, e]
        repeat (first | refine ⟨rfl, ?_⟩ | refine ⟨by decide, ?_⟩ | refine ⟨⟨by decide, by decide⟩, ?_⟩ | refine ⟨decide_eq_true (by omega), ?_⟩ | refine ⟨⟨decide_eq_true (by omega), decide_eq_true (by omega)⟩, ?_⟩)
        try (first | done | decide | exact decide_eq_true (by omega) | exact ⟨decide_eq_true (by omega), decide_eq_true (by omega)⟩)
      · cases q3 : ((x.At.length : Int) == y.At.length)
        · have e : decide (x = y) = false := decide_eq_false fun h => by subst h; simp at q3
          simp -implicitDefEqProofs (maxSteps := 1000000) only [x_l_sameLead, go_sem, true_implies, false_implies, bne, q0, q1, q2, q3, e]
          repeat (first | refine ⟨rfl, ?_⟩ | refine ⟨by decide, ?_⟩ | refine ⟨⟨by decide, by decide⟩, ?_⟩ | refine ⟨decide_eq_true (by omega), ?_⟩ | refine ⟨⟨decide_eq_true (by omega), decide_eq_true (by omega)⟩, ?_⟩)
          try (first | done | decide | exact decide_eq_true (by omega) | exact ⟨decide_eq_true (by omega), decide_eq_true (by omega)⟩)
        · simp -implicitDefEqProofs (maxSteps := 1000000) only [x_l_sameLead, go_sem, bne, q0, q1, q2, q3]
          have l1 : x.Acked.length = y.Acked.length := by have := eq_of_beq q1; omega
          have l2 : x.Ended.length = y.Ended.length := by have := eq_of_beq q2; omega
          have l3 : x.At.length = y.At.length := by have := eq_of_beq q3; omega
          refine loop_of (σ := Nat) (fun i => ⟨[(2, .bp 2 0), (3, .bp 3 0), (5, .one (.pv (.int .i64 i)))], [(2, [.pv (.int .i64 x.Phase), .ro 1 (x.Acked.map bR), .ro 1 (x.Ended.map bR), .ro 1 (x.At.map sR)]), (3, [.pv (.int .i64 y.Phase), .ro 1 (y.Acked.map bR), .ro 1 (y.Ended.map bR), .ro 1 (y.At.map sR)])], [(0, x.enc false), (1, y.enc false)]⟩) (fun i => i ≤ x.Acked.length ∧ x.Acked.take i = y.Acked.take i) (fun i => x.Acked.length - i) 0 ?_ ⟨Nat.zero_le _, rfl⟩ ?_
          · simp -implicitDefEqProofs (maxSteps := 1000000) only [go_sem]; rfl
          · rintro i ⟨hi, hq⟩
            cases q : decide ((i : Int) < (x.Acked.length : Int))
            · have e1 : x.Acked = y.Acked := by
                have hx : x.Acked.length ≤ i := by simp only [decide_eq_false_iff_not] at q; omega
                rw [List.take_of_length_le hx, List.take_of_length_le (by omega)] at hq
                exact hq
              simp -implicitDefEqProofs (maxSteps := 1000000) only [go_sem, q]
              refine loop_of (σ := Nat) (fun i => ⟨[(2, .bp 2 0), (3, .bp 3 0), (6, .one (.pv (.int .i64 i)))], [(2, [.pv (.int .i64 x.Phase), .ro 1 (x.Acked.map bR), .ro 1 (x.Ended.map bR), .ro 1 (x.At.map sR)]), (3, [.pv (.int .i64 y.Phase), .ro 1 (y.Acked.map bR), .ro 1 (y.Ended.map bR), .ro 1 (y.At.map sR)])], [(0, x.enc false), (1, y.enc false)]⟩) (fun i => i ≤ x.Ended.length ∧ x.Ended.take i = y.Ended.take i) (fun i => x.Ended.length - i) 0 ?_ ⟨Nat.zero_le _, rfl⟩ ?_
              · simp -implicitDefEqProofs (maxSteps := 1000000) only [go_sem]; rfl
              · rintro i ⟨hi, hq⟩
                cases q : decide ((i : Int) < (x.Ended.length : Int))
                · have e2 : x.Ended = y.Ended := by
                    have hx : x.Ended.length ≤ i := by simp only [decide_eq_false_iff_not] at q; omega
                    rw [List.take_of_length_le hx, List.take_of_length_le (by omega)] at hq
                    exact hq
                  simp -implicitDefEqProofs (maxSteps := 1000000) only [go_sem, q]
                  refine loop_of (σ := Nat) (fun i => ⟨[(2, .bp 2 0), (3, .bp 3 0), (7, .one (.pv (.int .i64 i)))], [(2, [.pv (.int .i64 x.Phase), .ro 1 (x.Acked.map bR), .ro 1 (x.Ended.map bR), .ro 1 (x.At.map sR)]), (3, [.pv (.int .i64 y.Phase), .ro 1 (y.Acked.map bR), .ro 1 (y.Ended.map bR), .ro 1 (y.At.map sR)])], [(0, x.enc false), (1, y.enc false)]⟩) (fun i => i ≤ x.At.length ∧ x.At.take i = y.At.take i) (fun i => x.At.length - i) 0 ?_ ⟨Nat.zero_le _, rfl⟩ ?_
                  · simp -implicitDefEqProofs (maxSteps := 1000000) only [go_sem]; rfl
                  · rintro i ⟨hi, hq⟩
                    cases q : decide ((i : Int) < (x.At.length : Int))
                    · have e3 : x.At = y.At := by
                        have hx : x.At.length ≤ i := by simp only [decide_eq_false_iff_not] at q; omega
                        rw [List.take_of_length_le hx, List.take_of_length_le (by omega)] at hq
                        exact hq
                      simp -implicitDefEqProofs (maxSteps := 1000000) only [go_sem, q]
                      have e : decide (x = y) = true := decide_eq_true (by
                        cases x
                        cases y
                        simp only at e1 e2 e3 q0
                        subst e1 e2 e3
                        rw [eq_of_beq q0])
                      try simp -implicitDefEqProofs (maxSteps := 1000000) only [go_sem, true_implies, false_implies, e]
                      repeat (first | refine ⟨rfl, ?_⟩ | refine ⟨by decide, ?_⟩ | refine ⟨⟨by decide, by decide⟩, ?_⟩ | refine ⟨decide_eq_true (by omega), ?_⟩ | refine ⟨⟨decide_eq_true (by omega), decide_eq_true (by omega)⟩, ?_⟩)
                      try (first | done | decide | exact decide_eq_true (by omega) | exact ⟨decide_eq_true (by omega), decide_eq_true (by omega)⟩)
                    · have k1 : i < x.At.length := by simp only [decide_eq_true_eq] at q; omega
                      have k2 : i < y.At.length := by omega
                      cases g : decide (x.At[i] = y.At[i])
                      · have e : decide (x = y) = false := decide_eq_false fun h => by subst h; simp at g
                        try simp -implicitDefEqProofs (maxSteps := 1000000) only [go_sem, true_implies, false_implies, q, List.getElem?_eq_getElem k1, List.getElem?_eq_getElem k2, g, e, show (false != true) = true from rfl]
                        repeat (first | refine ⟨rfl, ?_⟩ | refine ⟨by decide, ?_⟩ | refine ⟨⟨by decide, by decide⟩, ?_⟩ | refine ⟨decide_eq_true (by omega), ?_⟩ | refine ⟨⟨decide_eq_true (by omega), decide_eq_true (by omega)⟩, ?_⟩)
                        try (first | done | decide | exact decide_eq_true (by omega) | exact ⟨decide_eq_true (by omega), decide_eq_true (by omega)⟩)
                        try trivial
                      · try simp -implicitDefEqProofs (maxSteps := 1000000) only [go_sem, true_implies, false_implies, q, List.getElem?_eq_getElem k1, List.getElem?_eq_getElem k2, g, show (true != true) = false from rfl]
                        repeat (first | refine ⟨rfl, ?_⟩ | refine ⟨by decide, ?_⟩ | refine ⟨⟨by decide, by decide⟩, ?_⟩ | refine ⟨decide_eq_true (by omega), ?_⟩ | refine ⟨⟨decide_eq_true (by omega), decide_eq_true (by omega)⟩, ?_⟩)
                        try (first | done | decide | exact decide_eq_true (by omega) | exact ⟨decide_eq_true (by omega), decide_eq_true (by omega)⟩)
                        refine ⟨i + 1, by rw [IntWalk.i64_in _ (by omega)]; rfl, ⟨k1, ?_⟩, by omega⟩
                        rw [List.take_succ_eq_append_getElem k1, List.take_succ_eq_append_getElem k2, hq, of_decide_eq_true g]
                · have k1 : i < x.Ended.length := by simp only [decide_eq_true_eq] at q; omega
                  have k2 : i < y.Ended.length := by omega
                  cases g : (x.Ended[i] == y.Ended[i])
                  · have e : decide (x = y) = false := decide_eq_false fun h => by subst h; simp at g
                    try simp -implicitDefEqProofs (maxSteps := 1000000) only [go_sem, true_implies, false_implies, q, List.getElem?_eq_getElem k1, List.getElem?_eq_getElem k2, g, e, show (false != true) = true from rfl]
                    repeat (first | refine ⟨rfl, ?_⟩ | refine ⟨by decide, ?_⟩ | refine ⟨⟨by decide, by decide⟩, ?_⟩ | refine ⟨decide_eq_true (by omega), ?_⟩ | refine ⟨⟨decide_eq_true (by omega), decide_eq_true (by omega)⟩, ?_⟩)
                    try (first | done | decide | exact decide_eq_true (by omega) | exact ⟨decide_eq_true (by omega), decide_eq_true (by omega)⟩)
                    try trivial
                  · try simp -implicitDefEqProofs (maxSteps := 1000000) only [go_sem, true_implies, false_implies, q, List.getElem?_eq_getElem k1, List.getElem?_eq_getElem k2, g, show (true != true) = false from rfl]
                    repeat (first | refine ⟨rfl, ?_⟩ | refine ⟨by decide, ?_⟩ | refine ⟨⟨by decide, by decide⟩, ?_⟩ | refine ⟨decide_eq_true (by omega), ?_⟩ | refine ⟨⟨decide_eq_true (by omega), decide_eq_true (by omega)⟩, ?_⟩)
                    try (first | done | decide | exact decide_eq_true (by omega) | exact ⟨decide_eq_true (by omega), decide_eq_true (by omega)⟩)
                    refine ⟨i + 1, by rw [IntWalk.i64_in _ (by omega)]; rfl, ⟨k1, ?_⟩, by omega⟩
                    rw [List.take_succ_eq_append_getElem k1, List.take_succ_eq_append_getElem k2, hq, eq_of_beq g]
            · have k1 : i < x.Acked.length := by simp only [decide_eq_true_eq] at q; omega
              have k2 : i < y.Acked.length := by omega
              cases g : (x.Acked[i] == y.Acked[i])
              · have e : decide (x = y) = false := decide_eq_false fun h => by subst h; simp at g
                try simp -implicitDefEqProofs (maxSteps := 1000000) only [go_sem, true_implies, false_implies, q, List.getElem?_eq_getElem k1, List.getElem?_eq_getElem k2, g, e, show (false != true) = true from rfl]
                repeat (first | refine ⟨rfl, ?_⟩ | refine ⟨by decide, ?_⟩ | refine ⟨⟨by decide, by decide⟩, ?_⟩ | refine ⟨decide_eq_true (by omega), ?_⟩ | refine ⟨⟨decide_eq_true (by omega), decide_eq_true (by omega)⟩, ?_⟩)
                try (first | done | decide | exact decide_eq_true (by omega) | exact ⟨decide_eq_true (by omega), decide_eq_true (by omega)⟩)
                try trivial
              · try simp -implicitDefEqProofs (maxSteps := 1000000) only [go_sem, true_implies, false_implies, q, List.getElem?_eq_getElem k1, List.getElem?_eq_getElem k2, g, show (true != true) = false from rfl]
                repeat (first | refine ⟨rfl, ?_⟩ | refine ⟨by decide, ?_⟩ | refine ⟨⟨by decide, by decide⟩, ?_⟩ | refine ⟨decide_eq_true (by omega), ?_⟩ | refine ⟨⟨decide_eq_true (by omega), decide_eq_true (by omega)⟩, ?_⟩)
                try (first | done | decide | exact decide_eq_true (by omega) | exact ⟨decide_eq_true (by omega), decide_eq_true (by omega)⟩)
                refine ⟨i + 1, by rw [IntWalk.i64_in _ (by omega)]; rfl, ⟨k1, ?_⟩, by omega⟩
                rw [List.take_succ_eq_append_getElem k1, List.take_succ_eq_append_getElem k2, hq, eq_of_beq g]
end Go.X

