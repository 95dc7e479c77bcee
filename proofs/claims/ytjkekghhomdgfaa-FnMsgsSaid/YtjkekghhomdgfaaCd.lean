/- Texts: XOpen CA CC CD CE CEa CEb CF CK CKa CKb CKc CL CP. -/
import Derived.Test.YtjkekghhomdgfaaCc
import Derived.SizedLaws
import Derived.Deep.Slices
import Derived.ChangeArms
import Derived.WideShapes
import Derived.Below
set_option linter.unusedVariables false
set_option linter.unusedSimpArgs false
/- How what comes in reads; how a law is asked. -/
namespace Go.X
open Go.WideShapes Go.RowKit
def Old (w : World) : Nat → Prop := fun b => b < w.heap.size
def RdL (S : Nat → Prop) (w : World) (ts : List T) (vs : List Value) : Prop := ts.length = vs.length ∧ ∀ (k : Nat) (t : T) (v : Value), ts[k]? = some t → vs[k]? = some v → Rd S w t v
theorem RdL.app {S : Nat → Prop} {w : World} {a b : List T} {vs us : List Value} (h : RdL S w a vs) (h' : RdL S w b us) : RdL S w (a ++ b) (vs ++ us) :=
  ⟨by simp [h.1, h'.1], fun k t v ht hv => by
    by_cases hk : k < a.length
    · rw [List.getElem?_append_left hk] at ht
      rw [List.getElem?_append_left (by have := h.1; omega)] at hv
      exact h.2 k t v ht hv
    · rw [List.getElem?_append_right (by omega)] at ht
      rw [List.getElem?_append_right (by have := h.1; omega), ← h.1] at hv
      exact h'.2 _ t v ht hv⟩
theorem RdL.one {S : Nat → Prop} {w : World} {t : T} {v : Value} (h : Rd S w t v) : RdL S w [t] [v] := ⟨rfl, fun k t' v' ht hv => by
  cases k with
  | zero => simp at ht hv; subst ht; subst hv; exact h
  | succ k => simp at ht⟩
/-- Every reading of type t is a value that is told so and meets p. -/
def OpT {α : Type} (P : Program) (t : TypeId) (e : α → List T) (p : α → Prop) : Prop :=
  ∀ (H : Type) (enc : TypeId × Value → H) (w : World) (fuel : Nat) (cs : List Value) (x : DataW H × List MemPlace), DataW.trod enc P w 0 (fun _ => true) true fuel t cs = some x →
    (∀ n ∈ x.1.weights P t, n ≤ 140737488351232) → ∃ a, p a ∧ RdL (Old w) w (e a) cs
def FT {α : Type} (P : Program) (fs : List Field) (off z : Nat) (e : α → List T) (p : α → Prop) : Prop :=
  ∀ (H : Type) (enc : TypeId × Value → H) (w : World) (n : Nat) (cs : List Value) (xs : List (DataW H × List MemPlace)),
    (∀ (i : Nat) (f : Field), fs[i]? = some f → DataW.trod enc P w 0 (fun _ => true) true n f.type ((cs.drop f.offset).take (P.cellsOf f.type)) = xs[i]?) → xs.length = fs.length →
    (∀ m ∈ DataW.weightsEach P (fs.map (·.type)) (xs.map (·.1)), m ≤ 140737488351232) → cs.length = off + z → ∃ a, p a ∧ RdL (Old w) w (e a) (cs.drop off)
def InI (k : IntKind) (a : Int) : Prop := (Lit.int k a).wf = true
section
variable {P : Program} {t : TypeId}
theorem OpT.int {k : IntKind} (ht : P.underlying t = some (.int k)) : OpT P t (fun a => [.pv (.int k a)]) (InI k) := fun H enc w fuel cs x h _ => by
  obtain ⟨n, rfl, _, hw⟩ := DataW.trod_int ht h
  exact ⟨n, hw, .one (.pv rfl)⟩
theorem OpT.byte (ht : P.underlying t = some (.int .u8)) : OpT P t (fun a : UInt8 => [.pv (.int .u8 a.toNat)]) (fun _ => True) := fun H enc w fuel cs x h _ => by
  obtain ⟨n, rfl, _, hw⟩ := DataW.trod_int ht h
  have hn : 0 ≤ n ∧ n ≤ 255 := by
    have hw' := hw
    simp only [Lit.wf, Bool.and_eq_true, decide_eq_true_eq] at hw'
    exact hw'
  refine ⟨UInt8.ofNat n.toNat, trivial, ?_⟩
  have e : ((UInt8.ofNat n.toNat).toNat : Int) = n := by rw [UInt8.toNat_ofNat']; omega
  show RdL (Old w) w [.pv (.int .u8 ((UInt8.ofNat n.toNat).toNat : Int))] _
  rw [e]
  exact .one (.pv rfl)
theorem OpT.bool (ht : P.underlying t = some .bool) : OpT P t (fun a => [.pv (.bool a)]) (fun _ => True) := fun H enc w fuel cs x h _ => by
  obtain ⟨n, rfl, _⟩ := DataW.trod_bool ht h
  exact ⟨n, trivial, .one (.pv rfl)⟩
theorem OpT.string (ht : P.underlying t = some .string) : OpT P t (fun a => [.pv (.string a)]) (fun a => a.size ≤ 140737488351232) := fun H enc w fuel cs x h hw => by
  obtain ⟨s, rfl, rfl, hs⟩ := DataW.trod_string ht h
  refine ⟨s, ?_, .one (.pv rfl)⟩
  have := hw s.data.toList.length (by simp [DataW.weights])
  simpa using this
theorem old_of_cell {w : World} {ad : Addr} {v : Value} (h : w.cell? ad = some v) : ad.block < w.heap.size := by
  unfold World.cell? at h
  cases hb : w.heap[ad.block]? with
  | none => simp [hb] at h
  | some _ => exact (Array.getElem?_eq_some_iff.1 hb).1
theorem mem_allW {H : Type} {e : TypeId} {d : DataW H} {n : Nat} (hn : n ∈ d.weights P e) : ∀ {l : List (DataW H)}, d ∈ l → n ∈ DataW.weightsAll P e l
  | [], h => by cases h
  | y :: l, h => by
    simp only [DataW.weightsAll, List.mem_append]
    rcases List.mem_cons.1 h with rfl | h
    · exact .inl hn
    · exact .inr (mem_allW hn h)
theorem OpT.slice {α : Type} {e : TypeId} {en : α → List T} {p : α → Prop} (z B : Nat) (ht : P.underlying t = some (.slice e)) (hc : P.cellsOf e = z) (hB : P.bytesOf e = B) (h : OpT P e en p) :
    OpT P t (fun l : List α => [.sl false z () (l.map en)]) (fun l => l.length * B ≤ 140737488351232 ∧ ∀ a ∈ l, p a) := fun H enc w fuel cs x hx hw => by
  rcases Deep.open_slice ht hx with ⟨rfl, rfl⟩ | ⟨ad, len, cap, m, n, D, Pl, rfl, _, hl, hm, hmm, rfl, hel⟩
  · refine ⟨[], ⟨by simp, fun _ h => by cases h⟩, .one ?_⟩
    exact Rd.sl (rows := []) (fun _ _ => undef) (Nat.le_refl _) (by simp [maxLen]) (fun r hr => by cases hr) (fun i r j t hr => by simp at hr) (fun i r j t hr => by simp at hr)
  · simp only [if_true] at hmm
    replace hmm := hmm.symm
    subst hmm
    have hel' : ∀ i, i < len → ∃ a, p a ∧ ∃ c : List Value, c.length = z ∧ RdL (Old w) w (en a) c ∧ ∀ j u, c[j]? = some u → w.cell? (ad.add (i * z + j)) = some u := fun i hi => by
      obtain ⟨c, h1, h2⟩ := hel i (by omega)
      have hww : ∀ k ∈ (D i).weights P e, k ≤ 140737488351232 := fun k hk => hw k (by
        simp only [DataW.weights, ht, List.mem_cons, List.mem_append]
        exact .inr (.inl (mem_allW hk (List.mem_map.2 ⟨i, by simpa using hi, rfl⟩))))
      obtain ⟨a, hpa, ha⟩ := h H enc w n c _ h2 hww
      obtain ⟨_, hlen, hcell⟩ := World.cells?_some h1
      refine ⟨a, hpa, c, hlen.trans hc, ha, fun j u hu => ?_⟩
      have hj : j < c.length := (List.getElem?_eq_some_iff.1 hu).1
      have := hcell j (by omega)
      rw [hu, Deep.add_add, hc] at this
      exact this
    have : ∃ l : List α, l.length = len ∧ ∀ i a, l[i]? = some a → p a ∧ ∃ c : List Value, c.length = z ∧ RdL (Old w) w (en a) c ∧ ∀ j u, c[j]? = some u → w.cell? (ad.add (i * z + j)) = some u := by
      clear hx hw hel hl
      induction len with
      | zero => exact ⟨[], rfl, fun i a h => by simp at h⟩
      | succ len ih =>
        obtain ⟨l, hl, hh⟩ := ih (fun i hi => hel' i (by omega))
        obtain ⟨a, ha⟩ := hel' len (by omega)
        refine ⟨l ++ [a], by simp [hl], fun i b hb => ?_⟩
        by_cases hi : i < l.length
        · exact hh i b (by rwa [List.getElem?_append_left hi] at hb)
        · have hi' : i = len := by
            have := (List.getElem?_eq_some_iff.1 hb).1
            simp at this
            omega
          subst hi'
          rw [List.getElem?_append_right (by omega), hl] at hb
          simp at hb
          subst hb
          exact ha
    obtain ⟨l, hll, hh⟩ := this
    have hsz : len * B ≤ 140737488351232 := by
      have z := hw ((((List.range len).map D).length + ((List.range (cap - len)).map fun j => D (len + j)).length) * P.bytesOf e) (by simp [DataW.weights, ht])
      rw [hB] at z
      simp only [List.length_map, List.length_range] at z
      exact Nat.le_trans (Nat.mul_le_mul_right _ (by omega)) z
    refine ⟨l, ⟨by rw [hll]; exact hsz, fun a ha => ?_⟩, .one ?_⟩
    · obtain ⟨i, hi, rfl⟩ := List.mem_iff_getElem.1 ha
      exact (hh i _ (List.getElem?_eq_getElem hi)).1
    · have key : ∀ i r j t, (l.map en)[i]? = some r → r[j]? = some t → w.cell? (ad.add (i * z + j)) = some ((w.cell? (ad.add (i * z + j))).getD undef) ∧ Rd (Old w) w t ((w.cell? (ad.add (i * z + j))).getD undef) := fun i r j t hr hj => by
        rw [List.getElem?_map] at hr
        cases hi : l[i]? with
        | none => simp [hi] at hr
        | some a =>
          simp [hi] at hr
          subst hr
          obtain ⟨_, c, h1, h2, h3⟩ := hh i a hi
          have hjl : j < c.length := by rw [← h2.1]; exact (List.getElem?_eq_some_iff.1 hj).1
          have h4 := h3 j c[j] (List.getElem?_eq_getElem hjl)
          rw [h4]
          exact ⟨rfl, h2.2 j t _ hj (List.getElem?_eq_getElem hjl)⟩
      have := Rd.sl (S := Old w) (w := w) (z := z) (cap := cap) (a := some ad) (rows := l.map en) (fun i j => (w.cell? (ad.add (i * z + j))).getD undef) (by simp; omega) hm (fun r hr => by
        obtain ⟨a, ha, rfl⟩ := List.mem_map.1 hr
        obtain ⟨i, hi, rfl⟩ := List.mem_iff_getElem.1 ha
        obtain ⟨_, c, h1, h2, h3⟩ := hh i _ (List.getElem?_eq_getElem hi)
        rw [h2.1, h1]) (fun i r j t hr hj => by
        obtain ⟨h1, h2⟩ := key i r j t hr hj
        refine ⟨ad, rfl, ?_, h1⟩
        have := old_of_cell h1
        rwa [add_block] at this) (fun i r j t hr hj => (key i r j t hr hj).2)
      rw [List.length_map, hll] at this
      exact this
theorem FT.one {α : Type} {e : α → List T} {p : α → Prop} {f : Field} {off z : Nat} (ho : f.offset = off) (hc : P.cellsOf f.type = z) (h : OpT P f.type e p) : FT P [f] off z e p := fun H enc w n cs xs hx hl hw hlen => by
  match xs, hl with
  | [x], _ =>
    have h0 := hx 0 f rfl
    rw [ho, hc, List.take_of_length_le (by rw [List.length_drop]; omega)] at h0
    exact h H enc w n _ x (by simpa using h0) (fun m hm => hw m (by simp only [List.map_cons, List.map_nil, DataW.weightsEach, List.append_nil]; exact hm))
theorem FT.cons {α β : Type} {e : α → List T} {e' : β → List T} {p : α → Prop} {p' : β → Prop} {f : Field} {fs : List Field} {off z z' : Nat} (ho : f.offset = off) (hc : P.cellsOf f.type = z) (h : OpT P f.type e p) (h' : FT P fs (off + z) z' e' p') :
    FT P (f :: fs) off (z + z') (fun a : α × β => e a.1 ++ e' a.2) (fun a => p a.1 ∧ p' a.2) := fun H enc w n cs xs hx hl hw hlen => by
  match xs, hl with
  | x :: xs, hl =>
    have h0 := hx 0 f rfl
    rw [ho, hc] at h0
    obtain ⟨a, hpa, ha⟩ := h H enc w n _ x (by simpa using h0) (fun m hm => hw m (by simp only [List.map_cons, DataW.weightsEach, List.mem_append]; exact .inl hm))
    obtain ⟨b, hpb, hb⟩ := h' H enc w n cs xs (fun i g hg => by simpa using hx (i + 1) g (by simpa using hg)) (by simpa using hl)
      (fun m hm => hw m (by simp only [List.map_cons, DataW.weightsEach, List.mem_append]; exact .inr hm)) (by omega)
    refine ⟨(a, b), ⟨hpa, hpb⟩, ?_⟩
    have := ha.app hb
    rwa [← List.drop_drop, List.take_append_drop] at this
theorem OpT.struct {α β : Type} {e : α → List T} {e' : β → List T} {p : α → Prop} {q : β → Prop} {fs : Array Field} {z : Nat} (ht : P.underlying t = some (.struct fs)) (hc : P.cellsOf t = z) (h : FT P fs.toList 0 z e p) (g : α → β) (hg : ∀ a, e' (g a) = e a) (hq : ∀ a, p a → q (g a)) :
    OpT P t e' q := fun H enc w fuel cs x hx hw => by
  obtain ⟨xs, n, _, rfl, hl, hlen, hf⟩ := DataW.trod_struct ht hx
  obtain ⟨a, hpa, ha⟩ := h H enc w n cs xs (fun i f hi => hf i f (by simpa using hi)) (by simpa using hlen) (fun m hm => hw m (by simpa only [DataW.weights, ht] using hm)) (by omega)
  exact ⟨g a, hq a hpa, by rw [hg]; simpa using ha⟩
theorem OpT.weaken {α : Type} {e : α → List T} {p q : α → Prop} (h : OpT P t e p) (hq : ∀ a, p a → q a) : OpT P t e q := fun H enc w fuel cs x hx hw => by
  obtain ⟨a, hp, ha⟩ := h H enc w fuel cs x hx hw
  exact ⟨a, hq a hp, ha⟩
/-- A parameter's value. -/
theorem OpT.param {α : Type} {e : α → List T} {p : α → Prop} (h : OpT P t e p) {H : Type} {enc : TypeId × Value → H} {W : World} {v : Value} {x : DataW H} {ps : List MemPlace} {ts : List TypeId} {ds : List (DataW H)} (hT : DataW.Trod enc P W 0 (fun _ => true) true t v x ps)
    (hsz : (DataW.weightsEach P ts ds).all (· ≤ reachBytes) = true) (j : Nat) (hj : ts[j]? = some t) (hd : ds[j]? = some x) : ∃ a, p a ∧ RdL (Old W) W (e a) v.cells.toList := by
  obtain ⟨fuel, hf⟩ := hT
  exact h H enc W fuel _ _ hf (fun n hn => by
    have := List.all_eq_true.1 hsz _ (DataW.weights_mem_each hj hd n hn)
    exact of_decide_eq_true this)
theorem lt_of_trod {H : Type} {enc : TypeId × Value → H} {W : World} {v : Value} {x : DataW H} {ps : List MemPlace} (h : DataW.Trod enc P W 0 (fun _ => true) true t v x ps) : ∀ y ∈ ps, y.block < W.heap.size := by
  obtain ⟨m, hm⟩ := h
  exact DataW.trod_lt m _ _ _ hm
/-- An argument, and how it reads. -/
def RdA (w : World) : AV → Value → Prop
  | .one t, v => Rd (Old w) w t v
  | .agg ts, v => ∃ vs : List Value, v = .agg vs.toArray ∧ RdL (Old w) w ts vs
  | .ptr _, _ => False
def RdAs (w : World) : List AV → List Value → Prop
  | [], [] => True
  | a :: as, v :: vs => RdA w a v ∧ RdAs w as vs
  | _, _ => False
theorem rdL_ghost {w : World} : ∀ {ts : List T} {vs : List Value}, RdL (Old w) w ts vs → ∃ gs : List G, gs.map er = ts ∧ gs.map hdr = vs ∧ ∀ t ∈ gs, Rp (Old w) w t ∧ ∀ b, cnt b t = 0
  | [], [], _ => ⟨[], rfl, rfl, fun t h => by cases h⟩
  | t :: ts, v :: vs, h => by
    obtain ⟨gs, e1, e2, e3⟩ := rdL_ghost (ts := ts) (vs := vs) ⟨by simpa using h.1, fun k t v ht hv => h.2 (k + 1) t v (by simpa using ht) (by simpa using hv)⟩
    obtain ⟨f1, f2, f3⟩ := gro_ok (h.2 0 t v rfl rfl)
    exact ⟨gro t v :: gs, by simp [gro_er, e1], by simp [f1, e2], fun t' ht' => by
      rcases List.mem_cons.1 ht' with rfl | ht'
      · exact ⟨f2, f3⟩
      · exact e3 t' ht'⟩
  | [], _ :: _, h => by simp [RdL] at h
  | _ :: _, [], h => by simp [RdL] at h
theorem rdAs_ghost {w : World} : ∀ {as : List AV} {vs : List Value}, RdAs w as vs → ∃ gs : List GA, gs.map GA.er = as ∧ gs.map GA.val = vs ∧ (∀ x ∈ gs, x.ok (Old w) w ∧ noPtr x) ∧ ∀ b, treeCnt b gs + ptrCnt b gs = 0
  | [], [], _ => ⟨[], rfl, rfl, fun x h => (by cases h), fun b => rfl⟩
  | a :: as, v :: vs, h => by
    obtain ⟨gs, e1, e2, e3, e4⟩ := rdAs_ghost h.2
    have h1 := h.1
    cases a with
    | one t =>
      obtain ⟨f1, f2, f3⟩ := gro_ok (show Rd (Old w) w t v from h1)
      refine ⟨.one (gro t v) :: gs, by simp [GA.er, gro_er, e1], by simp [GA.val, f1, e2], fun x hx => ?_, fun b => ?_⟩
      · rcases List.mem_cons.1 hx with rfl | hx
        · exact ⟨⟨fun t ht => by simp only [GA.ts, List.mem_singleton] at ht; subst ht; exact f2, fun A ts e => by cases e⟩, trivial⟩
        · exact e3 x hx
      · have := e4 b
        have := f3 b
        simp only [treeCnt, ptrCnt, List.flatMap_cons, cntL_append, GA.ts, GA.pb, cntL] at *
        omega
    | agg ts =>
      obtain ⟨us, rfl, hR⟩ := h1
      obtain ⟨ys, f1, f2, f3⟩ := rdL_ghost hR
      refine ⟨.agg ys :: gs, by simp [GA.er, f1, e1], by simp [GA.val, f2, e2], fun x hx => ?_, fun b => ?_⟩
      · rcases List.mem_cons.1 hx with rfl | hx
        · exact ⟨⟨fun t ht => (f3 t ht).1, fun A ts e => by cases e⟩, trivial⟩
        · exact e3 x hx
      · have h4 := e4 b
        have z : cntL b ys = 0 := by
          have : ∀ l : List G, (∀ t ∈ l, cnt b t = 0) → cntL b l = 0 := fun l => by
            induction l with
            | nil => intro _; rfl
            | cons t l ih => intro h; simp [cntL, h t (List.mem_cons_self ..), ih (fun t ht => h t (List.mem_cons_of_mem _ ht))]
          exact this _ (fun t ht => (f3 t ht).2 b)
        simp only [treeCnt, ptrCnt, List.flatMap_cons, cntL_append, GA.ts, GA.pb] at *
        omega
    | ptr => exact h1.elim
  | [], _ :: _, h => h.elim
  | _ :: _, [], h => h.elim
/-- A law is asked. -/
theorem asked {KP : Kept} {f : Nat} {as : List AV} {args : Array Value} {w : World} {u : Value} {os : List (List T)} (hT : Tells P KP f as ⟨[.one (.pv u)], os⟩) (ha : RdAs w as args.toList) (hK : KP.ok (Old w) w) : Calls P f args w fun e w' => e = .returned u ∧ Below w.heap.size w w' := by
  obtain ⟨gs, e1, e2, e3, e4⟩ := rdAs_ghost ha
  have := hT (Old w) gs w e1 (fun b h => h) (fun x hx => (e3 x hx).1) (fun b => by have := e4 b; omega) (fun b hb => by have := e4 b; omega) hK
  rw [e2] at this
  refine this.mono ?_
  rintro e w1 ⟨rs, os', rfl, er1, er2, hrs, hos, hOut, hc1, hc2, hF, _⟩
  have hrs' : rs = [.one (.pv u)] := by
    cases rs with
    | nil => simp at er1
    | cons y ys =>
      cases ys with
      | cons => simp at er1
      | nil =>
        simp at er1
        cases y with
        | one t =>
          simp only [GA.er, AV.one.injEq] at er1
          cases t <;> simp_all [er]
        | _ => simp [GA.er] at er1
  subst hrs'
  exact ⟨rfl, ⟨hF.os, hF.tape, hF.output, hF.size, fun b hb => hF.block b hb (e4 b)⟩⟩
end
end Go.X

/- A -/
namespace Go.X
set_option maxRecDepth 100000
set_option maxHeartbeats 8000000
abbrev iT (a : Int) : T := .pv (.int .i64 a)
abbrev bT (a : Bool) : T := .pv (.bool a)
abbrev sT (s : ByteArray) : T := .pv (.string s)
abbrev uT (a : UInt8) : T := .pv (.int .u8 a.toNat)
abbrev slT {α : Type} (o : Bool) (z : Nat) (f : α → List T) (l : List α) : T := .sl o z () (l.map f)
abbrev bR (a : Bool) : List T := [bT a]
abbrev sR (a : ByteArray) : List T := [sT a]
abbrev iR (a : Int) : List T := [iT a]
abbrev uR (a : UInt8) : List T := [uT a]
/-- What is left of a measure. -/
def left (a : Int) : Int := if a < 0 then -1 else a
def Sane (f : Int → Int) : Prop := ∀ k, 0 ≤ k → f k ≤ k
def SaneL (fs : List (Int → Int)) : Prop := ∀ f ∈ fs, Sane f
theorem SaneL.nil : SaneL [] := fun _ h => by cases h
theorem SaneL.cons {f : Int → Int} {fs : List (Int → Int)} (h : Sane f) (t : SaneL fs) : SaneL (f :: fs) := fun g hg => by
  rcases List.mem_cons.1 hg with rfl | hg
  · exact h
  · exact t _ hg
/-- One measure behind the other, as long as something is left. -/
def szAll : List (Int → Int) → Int → Int
  | [], k => k
  | f :: fs, k => if f k < 0 then -1 else szAll fs (f k)
def ExL (n : Int) : List (Int → Int) → Prop
  | [] => True
  | f :: fs => (∃ j, 0 ≤ j ∧ j ≤ n ∧ 0 ≤ f j) ∧ ExL n fs
theorem Sane.all {fs : List (Int → Int)} (h : SaneL fs) : Sane (szAll fs) := by
  induction fs with
  | nil => intro k hk; exact Int.le_refl _
  | cons f fs ih =>
    intro k hk
    have h1 := h f (List.mem_cons_self ..) k hk
    simp only [szAll]
    split
    · omega
    · have := ih (fun g hg => h g (List.mem_cons_of_mem _ hg)) (f k) (by omega)
      omega
theorem szAll_ex {fs : List (Int → Int)} (h : SaneL fs) {k n : Int} (hk : 0 ≤ k) (hn : k ≤ n) (h0 : 0 ≤ szAll fs k) : ExL n fs := by
  induction fs generalizing k with
  | nil => trivial
  | cons f fs ih =>
    have h1 := h f (List.mem_cons_self ..) k hk
    simp only [szAll] at h0
    split at h0
    · omega
    · exact ⟨⟨k, hk, hn, by omega⟩, ih (fun g hg => h g (List.mem_cons_of_mem _ hg)) (k := f k) (by omega) (by omega) h0⟩
theorem Sane.sub (n : Nat) : Sane (fun k => k - n) := fun k hk => by show k - (n : Int) ≤ k; omega
theorem Sane.left (n : Nat) : Sane (fun k => left (k - n)) := fun k hk => by
  show Go.X.left (k - (n : Int)) ≤ k
  unfold Go.X.left
  split <;> omega
theorem left_nn {a : Int} (h : ¬ left a < 0) : left a = a := by
  unfold left at h ⊢
  split at h
  · omega
  · rw [if_neg (by assumption)]
theorem left_in {k : Int} {n : Nat} (h : 0 ≤ left (k - n)) : (n : Int) ≤ k := by
  unfold left at h
  split at h <;> omega
/-- What is left of a measure behind a row of things. -/
def szSl {α : Type} (f : α → Int → Int) (l : List α) (k : Int) : Int := szAll ((fun k => k - l.length) :: l.map f) k
theorem Sane.sl {α : Type} {f : α → Int → Int} (hf : ∀ a, Sane (f a)) (l : List α) : Sane (szSl f l) := by
  refine Sane.all (.cons (.sub _) fun g hg => ?_)
  obtain ⟨a, _, rfl⟩ := List.mem_map.1 hg
  exact hf a
theorem ExL_map {α : Type} {f : α → Int → Int} {n : Int} : ∀ {l : List α}, ExL n (l.map f) → ∀ a ∈ l, ∃ j, 0 ≤ j ∧ j ≤ n ∧ 0 ≤ f a j
  | [], _, a, h => by cases h
  | b :: l, ⟨h1, h2⟩, a, h => by
    rcases List.mem_cons.1 h with rfl | h
    · exact h1
    · exact ExL_map h2 a h
theorem szSl_in {α : Type} {f : α → Int → Int} {P : α → Prop} {n : Nat} (hf : ∀ a, Sane (f a)) (hP : ∀ a j, 0 ≤ j → j ≤ (n : Int) → 0 ≤ f a j → P a) {l : List α} {k : Int} (hk : 0 ≤ k) (hn : k ≤ n) (h : 0 ≤ szSl f l k) : l.length ≤ n ∧ ∀ a ∈ l, P a := by
  obtain ⟨⟨j, h1, h2, h3⟩, h4⟩ := szAll_ex (.cons (.sub _) fun g hg => by obtain ⟨a, _, rfl⟩ := List.mem_map.1 hg; exact hf a) hk hn h
  refine ⟨by have h5 : (0 : Int) ≤ j - (l.length : Nat) := h3; omega, fun a ha => ?_⟩
  obtain ⟨j, q1, q2, q3⟩ := ExL_map h4 a ha
  exact hP a j q1 q2 q3
def szStr (s : ByteArray) (k : Int) : Int := left (k - s.size)
theorem szStr_sane (s : ByteArray) : Sane (szStr s) := Sane.left _
theorem fill_get {α : Type} (f : α → List T) (l : List α) (z : List T) {i : Nat} (hi : i < l.length) : ((l.take i).map f ++ List.replicate (l.length - i) z)[i]? = some z := by
  rw [List.getElem?_append_right (by simp; omega), List.getElem?_replicate, if_pos (by simp; omega)]
theorem fill_set {α : Type} (f : α → List T) (l : List α) (z : List T) {i : Nat} (hi : i < l.length) : ((l.take i).map f ++ List.replicate (l.length - i) z).set i (f l[i]) = (l.take (i + 1)).map f ++ List.replicate (l.length - (i + 1)) z := by
  rw [List.set_append_right _ _ (by simp; omega), List.take_succ_eq_append_getElem hi, List.map_append, List.append_assoc]
  congr 1
  have e : l.length - i = (l.length - (i + 1)) + 1 := by omega
  rw [e, List.replicate_succ]
  have : i - ((l.take i).map f).length = 0 := by simp; omega
  rw [this]
  rfl
theorem fill_len {α : Type} (f : α → List T) (l : List α) (z : List T) {i : Nat} (hi : i ≤ l.length) : ((l.take i).map f ++ List.replicate (l.length - i) z).length = l.length := by simp; omega
theorem fill_end {α : Type} (f : α → List T) (l : List α) (z : List T) : (l.take l.length).map f ++ List.replicate (l.length - l.length) z = l.map f := by simp
/-- As far as i they are the same. -/
theorem same_step {α : Type} {l m : List α} {i : Nat} (hl : i < l.length) (hm : i < m.length) (h : l.take i = m.take i) (he : l[i] = m[i]) : l.take (i + 1) = m.take (i + 1) := by
  rw [List.take_succ_eq_append_getElem hl, List.take_succ_eq_append_getElem hm, h, he]
theorem same_end {α : Type} {l m : List α} {i : Nat} (hl : l.length ≤ i) (hm : m.length ≤ i) (h : l.take i = m.take i) : l = m := by
  rwa [List.take_of_length_le hl, List.take_of_length_le hm] at h
theorem all_step {α : Type} {l : List α} {p : α → Bool} {i : Nat} (hi : i < l.length) (h : (l.take i).all p = true) (h2 : p l[i] = true) : (l.take (i + 1)).all p = true := by
  rw [List.take_succ_eq_append_getElem hi, List.all_append, h, List.all_cons, h2]; rfl
theorem all_not {α : Type} {l : List α} {p : α → Bool} {i : Nat} (hi : i < l.length) (h2 : p l[i] = false) : l.all p = false := by
  rw [List.all_eq_false]; exact ⟨l[i], List.getElem_mem hi, by simp [h2]⟩
theorem all_end {α : Type} {l : List α} {p : α → Bool} {i : Nat} (hi : l.length ≤ i) (h : (l.take i).all p = true) : l.all p = true := by
  rwa [List.take_of_length_le hi] at h
/-- The marks of n things from k on, w to each. -/
def marks {α : Type} (w : Nat) (mk : Int → α) (n : Nat) (k : Int) : List α := (List.range n).map fun i => mk (k + (w * i : Nat))
theorem marks_length {α : Type} (w : Nat) (mk : Int → α) (n : Nat) (k : Int) : (marks w mk n k).length = n := by simp [marks]
theorem marks_succ {α : Type} (w : Nat) (mk : Int → α) (n : Nat) (k : Int) : marks w mk (n + 1) k = marks w mk n k ++ [mk (k + (w * n : Nat))] := by simp [marks, List.range_succ]
theorem marks_get {α : Type} (w : Nat) (mk : Int → α) {n i : Nat} (k : Int) (h : i < n) : (marks w mk n k)[i]? = some (mk (k + (w * i : Nat))) := by simp [marks, h]
theorem mark_get {α : Type} (f : α → List T) (w : Nat) (mk : Int → α) (l : List α) (k : Int) {i : Nat} (hi : i < l.length) : ((marks w mk i k).map f ++ (l.drop i).map f)[i]? = some (f l[i]) := by
  rw [List.getElem?_append_right (by simp [marks_length]), List.length_map, marks_length, Nat.sub_self, List.getElem?_map, List.getElem?_drop]
  simp [hi]
theorem mark_set {α : Type} (f : α → List T) (w : Nat) (mk : Int → α) (l : List α) (k : Int) {i : Nat} (hi : i < l.length) : ((marks w mk i k).map f ++ (l.drop i).map f).set i (f (mk (k + (w * i : Nat)))) = (marks w mk (i + 1) k).map f ++ (l.drop (i + 1)).map f := by
  rw [List.set_append_right _ _ (by simp [marks_length]), List.length_map, marks_length, Nat.sub_self, List.drop_eq_getElem_cons hi, List.map_cons, List.set_cons_zero, marks_succ, List.map_append, List.append_assoc]
  rfl
theorem mark_len {α : Type} (f : α → List T) (w : Nat) (mk : Int → α) (l : List α) (k : Int) {i : Nat} (hi : i ≤ l.length) : ((marks w mk i k).map f ++ (l.drop i).map f).length = l.length := by simp [marks_length]; omega
theorem mark_reget {α : Type} (f : α → List T) (w : Nat) (mk : Int → α) (l : List α) (k : Int) {i : Nat} (hi : i < l.length) (r : List T) : (((marks w mk i k).map f ++ (l.drop i).map f).set i r)[i]? = some r := by
  rw [List.getElem?_set_self (by rw [mark_len f w mk l k (by omega)]; exact hi)]
theorem mark_end {α : Type} (f : α → List T) (w : Nat) (mk : Int → α) (l : List α) (k : Int) : (marks w mk l.length k).map f ++ (l.drop l.length).map f = (marks w mk l.length k).map f := by simp
theorem marks_take {α β : Type} (f : α → β) (w : Nat) (mk : Int → α) (n : Nat) (k : Int) : ((marks w mk n k).map f).take n = (marks w mk n k).map f := by rw [List.take_of_length_le (by simp [marks_length])]
/-- Marks of things that are not of one size. -/
def markL {α : Type} (m : α → Int → α) (f : α → Int → Int) : List α → Int → List α
  | [], _ => []
  | x :: l, k => m x k :: markL m f l (f x k)
def farL {α : Type} (f : α → Int → Int) : List α → Int → Int
  | [], k => k
  | x :: l, k => farL f l (f x k)
theorem markL_length {α : Type} (m : α → Int → α) (f : α → Int → Int) : ∀ (l : List α) (k : Int), (markL m f l k).length = l.length
  | [], _ => rfl
  | x :: l, k => by simp only [markL, List.length_cons, markL_length m f l]
theorem farL_take {α : Type} (f : α → Int → Int) : ∀ (l : List α) (k : Int) {i : Nat} (h : i < l.length), farL f (l.take (i + 1)) k = f l[i] (farL f (l.take i) k)
  | x :: l, k, 0, h => by simp [farL]
  | x :: l, k, i + 1, h => by
    simp only [List.take_succ_cons, farL, List.getElem_cons_succ]
    exact farL_take f l _ (by simpa using h)
theorem markL_get {α : Type} (m : α → Int → α) (f : α → Int → Int) : ∀ (l : List α) (k : Int) {i : Nat} (h : i < l.length), (markL m f l k)[i]? = some (m l[i] (farL f (l.take i) k))
  | x :: l, k, 0, h => by simp [markL, farL]
  | x :: l, k, i + 1, h => by
    simp only [markL, List.getElem?_cons_succ, List.take_succ_cons, farL, List.getElem_cons_succ]
    exact markL_get m f l _ (by simpa using h)
theorem markL_take {α : Type} (m : α → Int → α) (f : α → Int → Int) : ∀ (l : List α) (k : Int) {i : Nat} (h : i < l.length), markL m f (l.take (i + 1)) k = markL m f (l.take i) k ++ [m l[i] (farL f (l.take i) k)]
  | x :: l, k, 0, h => by simp [markL, farL]
  | x :: l, k, i + 1, h => by
    simp only [List.take_succ_cons, markL, farL, List.cons_append, List.getElem_cons_succ]
    rw [markL_take m f l _ (by simpa using h)]
theorem farL_le {α : Type} {f : α → Int → Int} {p : α → Prop} {l : List α} {n c : Nat} {k : Int} (h : l.length ≤ n ∧ ∀ y ∈ l, p y) (hf : ∀ y, p y → ∀ k, k ≤ f y k ∧ f y k ≤ k + (c : Nat)) : k ≤ farL f l k ∧ farL f l k ≤ k + ((n * c : Nat) : Int) := by
  obtain ⟨h1, h2⟩ := h
  have key : ∀ (l : List α) (k : Int), (∀ y ∈ l, p y) → k ≤ farL f l k ∧ farL f l k ≤ k + ((l.length * c : Nat) : Int) := by
    intro l
    induction l with
    | nil => intro k _; simp [farL]
    | cons x l ih =>
      intro k hp
      have a := hf x (hp x (List.mem_cons_self ..)) k
      have b := ih (f x k) fun y hy => hp y (List.mem_cons_of_mem _ hy)
      simp only [farL, List.length_cons, Nat.add_mul, Nat.one_mul]
      omega
  have a := key l k h2
  have b := Nat.mul_le_mul_right c h1
  omega
theorem markL_len {α : Type} (R : α → List T) (m : α → Int → α) (f : α → Int → Int) (l : List α) (k : Int) {i : Nat} (hi : i ≤ l.length) : ((markL m f (l.take i) k).map R ++ (l.drop i).map R).length = l.length := by simp [markL_length]; omega
theorem markL_at {α : Type} (R : α → List T) (m : α → Int → α) (f : α → Int → Int) (l : List α) (k : Int) {i : Nat} (hi : i < l.length) : ((markL m f (l.take i) k).map R ++ (l.drop i).map R)[i]? = some (R l[i]) := by
  rw [List.getElem?_append_right (by simp [markL_length]; omega), List.length_map, markL_length, List.length_take, Nat.min_eq_left (by omega), Nat.sub_self, List.getElem?_map, List.getElem?_drop]
  simp [hi]
theorem markL_reat {α : Type} (R : α → List T) (m : α → Int → α) (f : α → Int → Int) (l : List α) (k : Int) {i : Nat} (hi : i < l.length) (r : List T) : (((markL m f (l.take i) k).map R ++ (l.drop i).map R).set i r)[i]? = some r := by
  rw [List.getElem?_set_self (by rw [markL_len R m f l k (by omega)]; exact hi)]
theorem markL_set {α : Type} (R : α → List T) (m : α → Int → α) (f : α → Int → Int) (l : List α) (k : Int) {i : Nat} (hi : i < l.length) : ((markL m f (l.take i) k).map R ++ (l.drop i).map R).set i (R (m l[i] (farL f (l.take i) k))) = (markL m f (l.take (i + 1)) k).map R ++ (l.drop (i + 1)).map R := by
  have e : ((markL m f (l.take i) k).map R).length = i := by rw [List.length_map, markL_length, List.length_take]; omega
  rw [List.set_append_right _ _ (by omega), e, Nat.sub_self, List.drop_eq_getElem_cons hi, List.map_cons, List.set_cons_zero, markL_take m f l k hi, List.map_append, List.append_assoc]
  rfl
def mkB (k : Int) : Bool := k.tmod 3 == 0
theorem byte_neq (a b : UInt8) : binV .neq (.int .u8 a.toNat) (.int .u8 b.toNat) = some (.bool (!decide (a = b))) := by
  have : ((a.toNat : Int) = b.toNat) ↔ a = b := by rw [Int.ofNat_inj]; exact UInt8.toNat_inj
  rw [bI_neq]
  by_cases h : a = b
  · subst h; simp
  · have h2 : ¬ ((a.toNat : Int) = b.toNat) := fun e => h (this.1 e)
    simp [h, bne, h2]
def digs (n : Nat) (out : ByteArray) : ByteArray := if h : n = 0 then out else digs (n / 10) (⟨#[UInt8.ofNat (48 + n % 10)]⟩ ++ out)
termination_by n
decreasing_by omega
def mkS (k : Int) : ByteArray := if k ≤ 0 then ⟨#[109, 48]⟩ else ⟨#[109]⟩ ++ digs k.toNat ⟨#[]⟩
def mkI (k : Int) : Int := k
def mkU (k : Int) : UInt8 := UInt8.ofNat (k % 256).toNat
theorem mkU_wrap (k : Int) : IntKind.u8.wrap k = ((mkU k).toNat : Int) := by
  have h1 := Int.emod_nonneg k (show (256 : Int) ≠ 0 by decide)
  have h2 := Int.emod_lt_of_pos k (show (0 : Int) < 256 by decide)
  have h3 : (mkU k).toNat = (k % 256).toNat := by
    rw [mkU, UInt8.toNat_ofNat', Nat.mod_eq_of_lt (by omega)]
  rw [h3, IntKind.wrap_u8]
  omega
end Go.X

/- C -/
namespace Go.X
set_option maxRecDepth 100000
set_option maxHeartbeats 8000000
structure Msg where
  Kind : Int
  From : Int
  To : Int
  Seq : Int
  Key : ByteArray
  Text : ByteArray
  N : Int
  Code : Int
  deriving DecidableEq
abbrev Msg.row (x : Msg) : List Go.X.T := [iT x.Kind, iT x.From, iT x.To, iT x.Seq, sT x.Key, sT x.Text, iT x.N, iT x.Code]
def Msg.In (n : Nat) (x : Msg) : Prop := x.Key.size ≤ n ∧ x.Text.size ≤ n
theorem Msg.In.mono {x : Msg} {n m : Nat} (h : x.In n) (hn : n ≤ m) : x.In m := by
  simp only [Msg.In] at h ⊢
  exact ⟨Nat.le_trans h.1 hn, Nat.le_trans h.2 hn⟩
def szMsg (x : Msg) (k : Int) : Int := szAll [(fun k => k - (x.Key.size : Nat)), (fun k => k - (x.Text.size : Nat))] k
theorem szMsg_sane (x : Msg) : Sane (szMsg x) := Sane.all (.cons (Sane.sub _) (.cons (Sane.sub _) .nil))
theorem szMsg_in {x : Msg} {k : Int} {n : Nat} (hk : 0 ≤ k) (hn : k ≤ n) (h : 0 ≤ szMsg x k) : x.In n := by
  obtain ⟨⟨j0, a0, b0, c0⟩, ⟨j1, a1, b1, c1⟩, _⟩ := szAll_ex (.cons (Sane.sub _) (.cons (Sane.sub _) .nil)) hk hn h
  exact ⟨(by have q : (0 : Int) ≤ j0 - _ := c0; omega), (by have q : (0 : Int) ≤ j1 - _ := c1; omega)⟩
def mkMsg (k : Int) : Msg := ⟨k, k + 1, k + 1 + 1, k + 1 + 1 + 1, mkS (k + 1 + 1 + 1 + 1), mkS (k + 1 + 1 + 1 + 1 + 1), k + 1 + 1 + 1 + 1 + 1 + 1, k + 1 + 1 + 1 + 1 + 1 + 1 + 1⟩
end Go.X

/- D -/
namespace Go.X
set_option maxRecDepth 100000
set_option maxHeartbeats 8000000
structure Lead where
  Phase : Int
  Acked : List Bool
  Ended : List Bool
  At : List ByteArray
  deriving DecidableEq
abbrev Lead.enc (o : Bool) (x : Lead) : List Go.X.T := [iT x.Phase, slT o 1 bR x.Acked, slT o 1 bR x.Ended, slT o 1 sR x.At]
def Lead.In (n : Nat) (x : Lead) : Prop := x.Acked.length ≤ n ∧ x.Ended.length ≤ n ∧ (x.At.length ≤ n ∧ ∀ y ∈ x.At, y.size ≤ n)
theorem Lead.In.mono {x : Lead} {n m : Nat} (h : x.In n) (hn : n ≤ m) : x.In m := by
  simp only [Lead.In] at h ⊢
  exact ⟨Nat.le_trans h.1 hn, Nat.le_trans h.2.1 hn, ⟨Nat.le_trans h.2.2.1 hn, fun y hy => Nat.le_trans (h.2.2.2 y hy) hn⟩⟩
def szLead (x : Lead) (k : Int) : Int := szAll [(fun k => left (k - (x.Acked.length : Nat))), (fun k => left (k - (x.Ended.length : Nat))), (szSl szStr x.At)] k
theorem szLead_sane (x : Lead) : Sane (szLead x) := Sane.all (.cons (Sane.left _) (.cons (Sane.left _) (.cons (Sane.sl szStr_sane _) .nil)))
theorem szLead_in {x : Lead} {k : Int} {n : Nat} (hk : 0 ≤ k) (hn : k ≤ n) (h : 0 ≤ szLead x k) : x.In n := by
  obtain ⟨⟨j0, a0, b0, c0⟩, ⟨j1, a1, b1, c1⟩, ⟨j2, a2, b2, c2⟩, _⟩ := szAll_ex (.cons (Sane.left _) (.cons (Sane.left _) (.cons (Sane.sl szStr_sane _) .nil))) hk hn h
  exact ⟨(by have := left_in c0; omega), (by have := left_in c1; omega), (szSl_in szStr_sane (fun a j h0 hn h => by have := left_in h; omega) a2 b2 c2)⟩
def Lead.Len (x : Lead) : Prop := x.Acked.length ≤ 2 ^ 31 ∧ x.Ended.length ≤ 2 ^ 31 ∧ x.At.length ≤ 2 ^ 31
theorem Lead.In.len {x : Lead} {n : Nat} (h : x.In n) (hn : n ≤ 2 ^ 31) : x.Len := by
  obtain ⟨h0, h1, h2⟩ := h
  exact ⟨Nat.le_trans h0 hn, Nat.le_trans h1 hn, Nat.le_trans h2.1 hn⟩
def Lead.mark (x : Lead) (k : Int) : Lead := ⟨x.Phase, marks 1 mkB x.Acked.length (k), marks 1 mkB x.Ended.length (k + (1 * x.Acked.length : Nat)), marks 1 mkS x.At.length (k + (1 * x.Acked.length : Nat) + (1 * x.Ended.length : Nat))⟩
def Lead.far (x : Lead) (k : Int) : Int := k + (1 * x.Acked.length : Nat) + (1 * x.Ended.length : Nat) + (1 * x.At.length : Nat)
theorem Lead.mark_Acked (x : Lead) (k : Int) : (x.mark k).Acked.length = x.Acked.length := by simp [Lead.mark, marks_length, markL_length]
theorem Lead.take_Acked {β : Type} (f : Bool → β) (x : Lead) (k : Int) : ((x.mark k).Acked.map f).take x.Acked.length = (x.mark k).Acked.map f := by rw [← x.mark_Acked k, take_map]
theorem Lead.mark_Ended (x : Lead) (k : Int) : (x.mark k).Ended.length = x.Ended.length := by simp [Lead.mark, marks_length, markL_length]
theorem Lead.take_Ended {β : Type} (f : Bool → β) (x : Lead) (k : Int) : ((x.mark k).Ended.map f).take x.Ended.length = (x.mark k).Ended.map f := by rw [← x.mark_Ended k, take_map]
theorem Lead.mark_At (x : Lead) (k : Int) : (x.mark k).At.length = x.At.length := by simp [Lead.mark, marks_length, markL_length]
theorem Lead.take_At {β : Type} (f : ByteArray → β) (x : Lead) (k : Int) : ((x.mark k).At.map f).take x.At.length = (x.mark k).At.map f := by rw [← x.mark_At k, take_map]
end Go.X

/- E -/
namespace Go.X
set_option maxRecDepth 100000
set_option maxHeartbeats 8000000
structure DoneV where
  Seq : Int
  Kind : Int
  Key : ByteArray
  Text : ByteArray
  Code : Int
  deriving DecidableEq
abbrev DoneV.row (x : DoneV) : List Go.X.T := [iT x.Seq, iT x.Kind, sT x.Key, sT x.Text, iT x.Code]
def DoneV.In (n : Nat) (x : DoneV) : Prop := x.Key.size ≤ n ∧ x.Text.size ≤ n
theorem DoneV.In.mono {x : DoneV} {n m : Nat} (h : x.In n) (hn : n ≤ m) : x.In m := by
  simp only [DoneV.In] at h ⊢
  exact ⟨Nat.le_trans h.1 hn, Nat.le_trans h.2 hn⟩
def szDone (x : DoneV) (k : Int) : Int := szAll [(fun k => k - (x.Key.size : Nat)), (fun k => k - (x.Text.size : Nat))] k
theorem szDone_sane (x : DoneV) : Sane (szDone x) := Sane.all (.cons (Sane.sub _) (.cons (Sane.sub _) .nil))
theorem szDone_in {x : DoneV} {k : Int} {n : Nat} (hk : 0 ≤ k) (hn : k ≤ n) (h : 0 ≤ szDone x k) : x.In n := by
  obtain ⟨⟨j0, a0, b0, c0⟩, ⟨j1, a1, b1, c1⟩, _⟩ := szAll_ex (.cons (Sane.sub _) (.cons (Sane.sub _) .nil)) hk hn h
  exact ⟨(by have q : (0 : Int) ≤ j0 - _ := c0; omega), (by have q : (0 : Int) ≤ j1 - _ := c1; omega)⟩
def mkDone (k : Int) : DoneV := ⟨k, k + 1, mkS (k + 1 + 1), mkS (k + 1 + 1 + 1), k + 1 + 1 + 1 + 1⟩
structure ClientV where
  Id : Int
  Seq : Int
  Busy : Bool
  M : Msg
  Dones : List DoneV
  deriving DecidableEq
abbrev ClientV.enc (o : Bool) (x : ClientV) : List Go.X.T := [iT x.Id, iT x.Seq, bT x.Busy, iT x.M.Kind, iT x.M.From, iT x.M.To, iT x.M.Seq, sT x.M.Key, sT x.M.Text, iT x.M.N, iT x.M.Code, slT o 5 DoneV.row x.Dones]
def ClientV.In (n : Nat) (x : ClientV) : Prop := x.M.In (n) ∧ (x.Dones.length ≤ n ∧ ∀ y ∈ x.Dones, y.In (n))
theorem ClientV.In.mono {x : ClientV} {n m : Nat} (h : x.In n) (hn : n ≤ m) : x.In m := by
  simp only [ClientV.In] at h ⊢
  exact ⟨h.1.mono hn, ⟨Nat.le_trans h.2.1 hn, fun y hy => (h.2.2 y hy).mono hn⟩⟩
def szClient (x : ClientV) (k : Int) : Int := szAll [(szMsg x.M), (szSl szDone x.Dones)] k
theorem szClient_sane (x : ClientV) : Sane (szClient x) := Sane.all (.cons (szMsg_sane _) (.cons (Sane.sl szDone_sane _) .nil))
theorem szClient_in {x : ClientV} {k : Int} {n : Nat} (hk : 0 ≤ k) (hn : k ≤ n) (h : 0 ≤ szClient x k) : x.In n := by
  obtain ⟨⟨j0, a0, b0, c0⟩, ⟨j1, a1, b1, c1⟩, _⟩ := szAll_ex (.cons (szMsg_sane _) (.cons (Sane.sl szDone_sane _) .nil)) hk hn h
  exact ⟨(szMsg_in a0 b0 c0), (szSl_in szDone_sane (fun a j h0 hn h => szDone_in h0 hn h) a1 b1 c1)⟩
def ClientV.Len (x : ClientV) : Prop := x.Dones.length ≤ 2 ^ 31
theorem ClientV.In.len {x : ClientV} {n : Nat} (h : x.In n) (hn : n ≤ 2 ^ 31) : x.Len := by
  obtain ⟨h0, h1⟩ := h
  exact Nat.le_trans h1.1 hn
def ClientV.mark (x : ClientV) (k : Int) : ClientV := ⟨x.Id, x.Seq, x.Busy, x.M, marks 5 mkDone x.Dones.length (k)⟩
def ClientV.far (x : ClientV) (k : Int) : Int := k + (5 * x.Dones.length : Nat)
theorem ClientV.mark_Dones (x : ClientV) (k : Int) : (x.mark k).Dones.length = x.Dones.length := by simp [ClientV.mark, marks_length, markL_length]
theorem ClientV.take_Dones {β : Type} (f : DoneV → β) (x : ClientV) (k : Int) : ((x.mark k).Dones.map f).take x.Dones.length = (x.mark k).Dones.map f := by rw [← x.mark_Dones k, take_map]
end Go.X

/- Ea -/
namespace Go.X
set_option maxRecDepth 100000
set_option maxHeartbeats 8000000
theorem own_sl {τ : Type} {o : Bool} {z : Nat} {h : τ} {rows : List (List (Tr τ))} : Tr.own (.sl o z h rows) = o := rfl
theorem cellAt_sl {τ : Type} {o : Bool} {z : Nat} {h : τ} {rows : List (List (Tr τ))} {i j : Nat} : cellAt (.sl o z h rows) i j = (rows[i]?).bind (·[j]?) := rfl
theorem setCell_sl {τ : Type} {o : Bool} {z : Nat} {h : τ} {rows : List (List (Tr τ))} {i j : Nat} {u : Tr τ} : setCell (.sl o z h rows) i j u = .sl o z h (rows.set i ((rows[i]?.getD []).set j u)) := by
  simp only [setCell, setRows, Tr.rows, List.getD_eq_getElem?_getD]
attribute [go_sem] own_sl cellAt_sl setCell_sl
theorem back_bif {α : Type} {Te : Nat → List AV → Res → Prop} {c : Bool} {f : St → Bool} {p : Prg α} {st : St} {Q : α → St → Prop} (h : f st = true) (hp : runP Te p st Q) : runP Te (bif c then p else .all f p) st Q := by
  cases c
  · exact ⟨h, hp⟩
  · exact hp
structure CellV where
  Tag : Int
  B : List UInt8
  deriving DecidableEq
abbrev CellV.enc (o : Bool) (x : CellV) : List Go.X.T := [iT x.Tag, slT o 1 uR x.B]
def CellV.In (n : Nat) (x : CellV) : Prop := x.B.length ≤ n
theorem CellV.In.mono {x : CellV} {n m : Nat} (h : x.In n) (hn : n ≤ m) : x.In m := by
  simp only [CellV.In] at h ⊢
  exact Nat.le_trans h hn
def szCell (x : CellV) (k : Int) : Int := szAll [(fun k => left (k - (x.B.length : Nat)))] k
theorem szCell_sane (x : CellV) : Sane (szCell x) := Sane.all (.cons (Sane.left _) .nil)
theorem szCell_in {x : CellV} {k : Int} {n : Nat} (hk : 0 ≤ k) (hn : k ≤ n) (h : 0 ≤ szCell x k) : x.In n := by
  obtain ⟨⟨j0, a0, b0, c0⟩, _⟩ := szAll_ex (.cons (Sane.left _) .nil) hk hn h
  show x.B.length ≤ n
  exact (by have := left_in c0; omega)
def CellV.Len (x : CellV) : Prop := x.B.length ≤ 2 ^ 21
theorem CellV.In.len {x : CellV} {n : Nat} (h : x.In n) (hn : n ≤ 2 ^ 21) : x.Len := by
  have h0 : x.B.length ≤ n := h
  exact Nat.le_trans h0 hn
def CellV.mark (x : CellV) (k : Int) : CellV := ⟨x.Tag, marks 1 mkU x.B.length (k)⟩
def CellV.far (x : CellV) (k : Int) : Int := k + (1 * x.B.length : Nat)
theorem CellV.mark_B (x : CellV) (k : Int) : (x.mark k).B.length = x.B.length := by simp [CellV.mark, marks_length, markL_length]
theorem CellV.take_B {β : Type} (f : UInt8 → β) (x : CellV) (k : Int) : ((x.mark k).B.map f).take x.B.length = (x.mark k).B.map f := by rw [← x.mark_B k, take_map]
theorem CellV.far_le {x : CellV} (hx : x.Len) (k : Int) : k ≤ x.far k ∧ x.far k ≤ k + 2097152 := by
  have h0 : x.B.length ≤ 2 ^ 21 := hx
  simp only [CellV.far]
  omega
structure RowV where
  Key : ByteArray
  Old : CellV
  New : CellV
  Has : Int
  Aside : Bool
  deriving DecidableEq
abbrev RowV.enc (o : Bool) (x : RowV) : List Go.X.T := [sT x.Key, iT x.Old.Tag, slT o 1 uR x.Old.B, iT x.New.Tag, slT o 1 uR x.New.B, iT x.Has, bT x.Aside]
def RowV.In (n : Nat) (x : RowV) : Prop := x.Key.size ≤ n ∧ x.Old.In (n) ∧ x.New.In (n)
theorem RowV.In.mono {x : RowV} {n m : Nat} (h : x.In n) (hn : n ≤ m) : x.In m := by
  simp only [RowV.In] at h ⊢
  exact ⟨Nat.le_trans h.1 hn, h.2.1.mono hn, h.2.2.mono hn⟩
def szRow (x : RowV) (k : Int) : Int := szAll [(fun k => k - (x.Key.size : Nat)), (szCell x.Old), (szCell x.New)] k
theorem szRow_sane (x : RowV) : Sane (szRow x) := Sane.all (.cons (Sane.sub _) (.cons (szCell_sane _) (.cons (szCell_sane _) .nil)))
theorem szRow_in {x : RowV} {k : Int} {n : Nat} (hk : 0 ≤ k) (hn : k ≤ n) (h : 0 ≤ szRow x k) : x.In n := by
  obtain ⟨⟨j0, a0, b0, c0⟩, ⟨j1, a1, b1, c1⟩, ⟨j2, a2, b2, c2⟩, _⟩ := szAll_ex (.cons (Sane.sub _) (.cons (szCell_sane _) (.cons (szCell_sane _) .nil))) hk hn h
  exact ⟨(by have q : (0 : Int) ≤ j0 - _ := c0; omega), (szCell_in a1 b1 c1), (szCell_in a2 b2 c2)⟩
def RowV.Len (x : RowV) : Prop := x.Old.Len ∧ x.New.Len
theorem RowV.In.len {x : RowV} {n : Nat} (h : x.In n) (hn : n ≤ 2 ^ 21) : x.Len := by
  obtain ⟨h0, h1, h2⟩ := h
  exact ⟨(h1).len hn, (h2).len hn⟩
def RowV.mark (x : RowV) (k : Int) : RowV := ⟨x.Key, x.Old.mark (k), x.New.mark (x.Old.far (k)), x.Has, x.Aside⟩
def RowV.far (x : RowV) (k : Int) : Int := x.New.far (x.Old.far (k))
theorem RowV.mark_Old_B (x : RowV) (k : Int) : (x.mark k).Old.B.length = x.Old.B.length := by simp [RowV.mark, CellV.mark, marks_length, markL_length]
theorem RowV.take_Old_B {β : Type} (f : UInt8 → β) (x : RowV) (k : Int) : ((x.mark k).Old.B.map f).take x.Old.B.length = (x.mark k).Old.B.map f := by rw [← x.mark_Old_B k, take_map]
theorem RowV.mark_New_B (x : RowV) (k : Int) : (x.mark k).New.B.length = x.New.B.length := by simp [RowV.mark, CellV.mark, marks_length, markL_length]
theorem RowV.take_New_B {β : Type} (f : UInt8 → β) (x : RowV) (k : Int) : ((x.mark k).New.B.map f).take x.New.B.length = (x.mark k).New.B.map f := by rw [← x.mark_New_B k, take_map]
theorem RowV.far_le {x : RowV} (hx : x.Len) (k : Int) : k ≤ x.far k ∧ x.far k ≤ k + 4194304 := by
  obtain ⟨h0, h1⟩ := hx
  have w0 := CellV.far_le h0 k
  have w1 := CellV.far_le h1 (x.Old.far k)
  simp only [RowV.far]
  omega
def RowV.markE (x : RowV) (k : Int) : RowV := ⟨mkS (k), ⟨k + 1, marks 1 mkU x.Old.B.length (k + 1 + 1)⟩, ⟨k + 1 + 1 + (1 * x.Old.B.length : Nat), marks 1 mkU x.New.B.length (k + 1 + 1 + (1 * x.Old.B.length : Nat) + 1)⟩, k + 1 + 1 + (1 * x.Old.B.length : Nat) + 1 + (1 * x.New.B.length : Nat), mkB (k + 1 + 1 + (1 * x.Old.B.length : Nat) + 1 + (1 * x.New.B.length : Nat) + 1)⟩
def RowV.farE (x : RowV) (k : Int) : Int := k + 1 + 1 + (1 * x.Old.B.length : Nat) + 1 + (1 * x.New.B.length : Nat) + 1 + 1
theorem RowV.farE_le {x : RowV} (hx : x.Len) (k : Int) : k ≤ x.farE k ∧ x.farE k ≤ k + 4194309 := by
  obtain ⟨h0, h1⟩ := hx
  have h0' : x.Old.B.length ≤ 2 ^ 21 := h0
  have h1' : x.New.B.length ≤ 2 ^ 21 := h1
  simp only [RowV.farE]
  omega
structure WrV where
  N : Int
  B : List UInt8
  deriving DecidableEq
abbrev WrV.enc (o : Bool) (x : WrV) : List Go.X.T := [iT x.N, slT o 1 uR x.B]
def WrV.In (n : Nat) (x : WrV) : Prop := x.B.length ≤ n
theorem WrV.In.mono {x : WrV} {n m : Nat} (h : x.In n) (hn : n ≤ m) : x.In m := by
  simp only [WrV.In] at h ⊢
  exact Nat.le_trans h hn
def szWr (x : WrV) (k : Int) : Int := szAll [(fun k => left (k - (x.B.length : Nat)))] k
theorem szWr_sane (x : WrV) : Sane (szWr x) := Sane.all (.cons (Sane.left _) .nil)
theorem szWr_in {x : WrV} {k : Int} {n : Nat} (hk : 0 ≤ k) (hn : k ≤ n) (h : 0 ≤ szWr x k) : x.In n := by
  obtain ⟨⟨j0, a0, b0, c0⟩, _⟩ := szAll_ex (.cons (Sane.left _) .nil) hk hn h
  show x.B.length ≤ n
  exact (by have := left_in c0; omega)
def WrV.Len (x : WrV) : Prop := x.B.length ≤ 2 ^ 21
theorem WrV.In.len {x : WrV} {n : Nat} (h : x.In n) (hn : n ≤ 2 ^ 21) : x.Len := by
  have h0 : x.B.length ≤ n := h
  exact Nat.le_trans h0 hn
def WrV.mark (x : WrV) (k : Int) : WrV := ⟨x.N, marks 1 mkU x.B.length (k)⟩
def WrV.far (x : WrV) (k : Int) : Int := k + (1 * x.B.length : Nat)
theorem WrV.mark_B (x : WrV) (k : Int) : (x.mark k).B.length = x.B.length := by simp [WrV.mark, marks_length, markL_length]
theorem WrV.take_B {β : Type} (f : UInt8 → β) (x : WrV) (k : Int) : ((x.mark k).B.map f).take x.B.length = (x.mark k).B.map f := by rw [← x.mark_B k, take_map]
theorem WrV.far_le {x : WrV} (hx : x.Len) (k : Int) : k ≤ x.far k ∧ x.far k ≤ k + 2097152 := by
  have h0 : x.B.length ≤ 2 ^ 21 := hx
  simp only [WrV.far]
  omega
def WrV.markE (x : WrV) (k : Int) : WrV := ⟨k, marks 1 mkU x.B.length (k + 1)⟩
def WrV.farE (x : WrV) (k : Int) : Int := k + 1 + (1 * x.B.length : Nat)
theorem WrV.farE_le {x : WrV} (hx : x.Len) (k : Int) : k ≤ x.farE k ∧ x.farE k ≤ k + 2097153 := by
  have h0 : x.B.length ≤ 2 ^ 21 := hx
  simp only [WrV.farE]
  omega
structure DevV where
  Secs : List (List UInt8)
  Cache : List WrV
  Fuse : Int
  Down : Bool
  deriving DecidableEq
abbrev DevV.enc (o : Bool) (x : DevV) : List Go.X.T := [slT o 1 (fun y => [slT o 1 uR y]) x.Secs, slT o 2 (WrV.enc o) x.Cache, iT x.Fuse, bT x.Down]
def DevV.In (n : Nat) (x : DevV) : Prop := (x.Secs.length ≤ n ∧ ∀ y ∈ x.Secs, y.length ≤ n) ∧ (x.Cache.length ≤ n ∧ ∀ y ∈ x.Cache, y.In (n))
theorem DevV.In.mono {x : DevV} {n m : Nat} (h : x.In n) (hn : n ≤ m) : x.In m := by
  simp only [DevV.In] at h ⊢
  exact ⟨⟨Nat.le_trans h.1.1 hn, fun y hy => Nat.le_trans (h.1.2 y hy) hn⟩, ⟨Nat.le_trans h.2.1 hn, fun y hy => (h.2.2 y hy).mono hn⟩⟩
def szDev (x : DevV) (k : Int) : Int := szAll [(szSl (fun y k => left (k - y.length)) x.Secs), (szSl szWr x.Cache)] k
theorem szDev_sane (x : DevV) : Sane (szDev x) := Sane.all (.cons (Sane.sl (fun _ => Sane.left _) _) (.cons (Sane.sl szWr_sane _) .nil))
theorem szDev_in {x : DevV} {k : Int} {n : Nat} (hk : 0 ≤ k) (hn : k ≤ n) (h : 0 ≤ szDev x k) : x.In n := by
  obtain ⟨⟨j0, a0, b0, c0⟩, ⟨j1, a1, b1, c1⟩, _⟩ := szAll_ex (.cons (Sane.sl (fun _ => Sane.left _) _) (.cons (Sane.sl szWr_sane _) .nil)) hk hn h
  exact ⟨(szSl_in (fun _ => Sane.left _) (fun a j h0 hn h => by have := left_in h; omega) a0 b0 c0), (szSl_in szWr_sane (fun a j h0 hn h => szWr_in h0 hn h) a1 b1 c1)⟩
def DevV.Len (x : DevV) : Prop := (x.Secs.length ≤ 2 ^ 21 ∧ ∀ y ∈ x.Secs, y.length ≤ 2 ^ 21) ∧ (x.Cache.length ≤ 2 ^ 21 ∧ ∀ y ∈ x.Cache, y.Len)
theorem DevV.In.len {x : DevV} {n : Nat} (h : x.In n) (hn : n ≤ 2 ^ 21) : x.Len := by
  obtain ⟨h0, h1⟩ := h
  exact ⟨⟨Nat.le_trans h0.1 hn, fun y hy => Nat.le_trans (h0.2 y hy) hn⟩, ⟨Nat.le_trans h1.1 hn, fun y hy => ((h1.2 y hy)).len hn⟩⟩
def DevV.mark (x : DevV) (k : Int) : DevV := ⟨markL (fun y k => marks 1 mkU y.length k) (fun y k => k + (1 * y.length : Nat)) x.Secs (k), markL WrV.markE WrV.farE x.Cache (farL (fun y k => k + (1 * y.length : Nat)) x.Secs (k)), x.Fuse, x.Down⟩
def DevV.far (x : DevV) (k : Int) : Int := farL WrV.farE x.Cache (farL (fun y k => k + (1 * y.length : Nat)) x.Secs (k))
theorem DevV.mark_Secs (x : DevV) (k : Int) : (x.mark k).Secs.length = x.Secs.length := by simp [DevV.mark, marks_length, markL_length]
theorem DevV.take_Secs {β : Type} (f : List UInt8 → β) (x : DevV) (k : Int) : ((x.mark k).Secs.map f).take x.Secs.length = (x.mark k).Secs.map f := by rw [← x.mark_Secs k, take_map]
theorem DevV.mark_Cache (x : DevV) (k : Int) : (x.mark k).Cache.length = x.Cache.length := by simp [DevV.mark, marks_length, markL_length]
theorem DevV.take_Cache {β : Type} (f : WrV → β) (x : DevV) (k : Int) : ((x.mark k).Cache.map f).take x.Cache.length = (x.mark k).Cache.map f := by rw [← x.mark_Cache k, take_map]
theorem DevV.far_le {x : DevV} (hx : x.Len) (k : Int) : k ≤ x.far k ∧ x.far k ≤ k + 8796095119360 := by
  obtain ⟨h0, h1⟩ := hx
  have w0 := farL_le (k := k) (c := 2097152) h0 (fun (y : List UInt8) (hy : y.length ≤ 2 ^ 21) (k : Int) => ⟨by show k ≤ k + ((1 * y.length : Nat) : Int); omega, by show k + ((1 * y.length : Nat) : Int) ≤ _; omega⟩)
  have w1 := farL_le (k := (farL (fun y k => k + (1 * y.length : Nat)) x.Secs (k))) (c := 2097153) h1 (fun y hy k => WrV.farE_le hy k)
  simp only [DevV.far]
  omega
end Go.X

/- Eb -/
namespace Go.X
set_option maxRecDepth 100000
set_option maxHeartbeats 8000000
structure MarkV where
  Who : Int
  Seq : Int
  Code : Int
  deriving DecidableEq
abbrev MarkV.row (x : MarkV) : List Go.X.T := [iT x.Who, iT x.Seq, iT x.Code]
def mkMark (k : Int) : MarkV := ⟨k, k + 1, k + 1 + 1⟩
structure TabV where
  Rows : List RowV
  Phase : Int
  Marks : List MarkV
  deriving DecidableEq
abbrev TabV.enc (o : Bool) (x : TabV) : List Go.X.T := [slT o 7 (RowV.enc o) x.Rows, iT x.Phase, slT o 3 MarkV.row x.Marks]
def TabV.In (n : Nat) (x : TabV) : Prop := (x.Rows.length ≤ n ∧ ∀ y ∈ x.Rows, y.In (n)) ∧ x.Marks.length ≤ n
theorem TabV.In.mono {x : TabV} {n m : Nat} (h : x.In n) (hn : n ≤ m) : x.In m := by
  simp only [TabV.In] at h ⊢
  exact ⟨⟨Nat.le_trans h.1.1 hn, fun y hy => (h.1.2 y hy).mono hn⟩, Nat.le_trans h.2 hn⟩
def szTab (x : TabV) (k : Int) : Int := szAll [(szSl szRow x.Rows), (fun k => left (k - (x.Marks.length : Nat)))] k
theorem szTab_sane (x : TabV) : Sane (szTab x) := Sane.all (.cons (Sane.sl szRow_sane _) (.cons (Sane.left _) .nil))
theorem szTab_in {x : TabV} {k : Int} {n : Nat} (hk : 0 ≤ k) (hn : k ≤ n) (h : 0 ≤ szTab x k) : x.In n := by
  obtain ⟨⟨j0, a0, b0, c0⟩, ⟨j1, a1, b1, c1⟩, _⟩ := szAll_ex (.cons (Sane.sl szRow_sane _) (.cons (Sane.left _) .nil)) hk hn h
  exact ⟨(szSl_in szRow_sane (fun a j h0 hn h => szRow_in h0 hn h) a0 b0 c0), (by have := left_in c1; omega)⟩
def TabV.Len (x : TabV) : Prop := (x.Rows.length ≤ 2 ^ 21 ∧ ∀ y ∈ x.Rows, y.Len) ∧ x.Marks.length ≤ 2 ^ 21
theorem TabV.In.len {x : TabV} {n : Nat} (h : x.In n) (hn : n ≤ 2 ^ 21) : x.Len := by
  obtain ⟨h0, h1⟩ := h
  exact ⟨⟨Nat.le_trans h0.1 hn, fun y hy => ((h0.2 y hy)).len hn⟩, Nat.le_trans h1 hn⟩
def TabV.mark (x : TabV) (k : Int) : TabV := ⟨markL RowV.markE RowV.farE x.Rows (k), x.Phase, marks 3 mkMark x.Marks.length (farL RowV.farE x.Rows (k))⟩
def TabV.far (x : TabV) (k : Int) : Int := farL RowV.farE x.Rows (k) + (3 * x.Marks.length : Nat)
theorem TabV.mark_Rows (x : TabV) (k : Int) : (x.mark k).Rows.length = x.Rows.length := by simp [TabV.mark, marks_length, markL_length]
theorem TabV.take_Rows {β : Type} (f : RowV → β) (x : TabV) (k : Int) : ((x.mark k).Rows.map f).take x.Rows.length = (x.mark k).Rows.map f := by rw [← x.mark_Rows k, take_map]
theorem TabV.mark_Marks (x : TabV) (k : Int) : (x.mark k).Marks.length = x.Marks.length := by simp [TabV.mark, marks_length, markL_length]
theorem TabV.take_Marks {β : Type} (f : MarkV → β) (x : TabV) (k : Int) : ((x.mark k).Marks.map f).take x.Marks.length = (x.mark k).Marks.map f := by rw [← x.mark_Marks k, take_map]
theorem TabV.far_le {x : TabV} (hx : x.Len) (k : Int) : k ≤ x.far k ∧ x.far k ≤ k + 8796109799424 := by
  obtain ⟨h0, h1⟩ := hx
  have w0 := farL_le (k := k) (c := 4194309) h0 (fun y hy k => RowV.farE_le hy k)
  simp only [TabV.far]
  omega
structure StoreV where
  D : DevV
  T : TabV
  Gen : Int
  Place : Int
  deriving DecidableEq
abbrev StoreV.enc (o : Bool) (x : StoreV) : List Go.X.T := [slT o 1 (fun y => [slT o 1 uR y]) x.D.Secs, slT o 2 (WrV.enc o) x.D.Cache, iT x.D.Fuse, bT x.D.Down, slT o 7 (RowV.enc o) x.T.Rows, iT x.T.Phase, slT o 3 MarkV.row x.T.Marks, iT x.Gen, iT x.Place]
def StoreV.In (n : Nat) (x : StoreV) : Prop := x.D.In (n) ∧ x.T.In (n)
theorem StoreV.In.mono {x : StoreV} {n m : Nat} (h : x.In n) (hn : n ≤ m) : x.In m := by
  simp only [StoreV.In] at h ⊢
  exact ⟨h.1.mono hn, h.2.mono hn⟩
def szStore (x : StoreV) (k : Int) : Int := szAll [(szDev x.D), (szTab x.T)] k
theorem szStore_sane (x : StoreV) : Sane (szStore x) := Sane.all (.cons (szDev_sane _) (.cons (szTab_sane _) .nil))
theorem szStore_in {x : StoreV} {k : Int} {n : Nat} (hk : 0 ≤ k) (hn : k ≤ n) (h : 0 ≤ szStore x k) : x.In n := by
  obtain ⟨⟨j0, a0, b0, c0⟩, ⟨j1, a1, b1, c1⟩, _⟩ := szAll_ex (.cons (szDev_sane _) (.cons (szTab_sane _) .nil)) hk hn h
  exact ⟨(szDev_in a0 b0 c0), (szTab_in a1 b1 c1)⟩
def StoreV.Len (x : StoreV) : Prop := x.D.Len ∧ x.T.Len
theorem StoreV.In.len {x : StoreV} {n : Nat} (h : x.In n) (hn : n ≤ 2 ^ 21) : x.Len := by
  obtain ⟨h0, h1⟩ := h
  exact ⟨(h0).len hn, (h1).len hn⟩
def StoreV.mark (x : StoreV) (k : Int) : StoreV := ⟨x.D.mark (k), x.T.mark (x.D.far (k)), x.Gen, x.Place⟩
def StoreV.far (x : StoreV) (k : Int) : Int := x.T.far (x.D.far (k))
theorem StoreV.mark_D_Secs (x : StoreV) (k : Int) : (x.mark k).D.Secs.length = x.D.Secs.length := by simp [StoreV.mark, DevV.mark, TabV.mark, marks_length, markL_length]
theorem StoreV.take_D_Secs {β : Type} (f : List UInt8 → β) (x : StoreV) (k : Int) : ((x.mark k).D.Secs.map f).take x.D.Secs.length = (x.mark k).D.Secs.map f := by rw [← x.mark_D_Secs k, take_map]
theorem StoreV.mark_D_Cache (x : StoreV) (k : Int) : (x.mark k).D.Cache.length = x.D.Cache.length := by simp [StoreV.mark, DevV.mark, TabV.mark, marks_length, markL_length]
theorem StoreV.take_D_Cache {β : Type} (f : WrV → β) (x : StoreV) (k : Int) : ((x.mark k).D.Cache.map f).take x.D.Cache.length = (x.mark k).D.Cache.map f := by rw [← x.mark_D_Cache k, take_map]
theorem StoreV.mark_T_Rows (x : StoreV) (k : Int) : (x.mark k).T.Rows.length = x.T.Rows.length := by simp [StoreV.mark, DevV.mark, TabV.mark, marks_length, markL_length]
theorem StoreV.take_T_Rows {β : Type} (f : RowV → β) (x : StoreV) (k : Int) : ((x.mark k).T.Rows.map f).take x.T.Rows.length = (x.mark k).T.Rows.map f := by rw [← x.mark_T_Rows k, take_map]
theorem StoreV.mark_T_Marks (x : StoreV) (k : Int) : (x.mark k).T.Marks.length = x.T.Marks.length := by simp [StoreV.mark, DevV.mark, TabV.mark, marks_length, markL_length]
theorem StoreV.take_T_Marks {β : Type} (f : MarkV → β) (x : StoreV) (k : Int) : ((x.mark k).T.Marks.map f).take x.T.Marks.length = (x.mark k).T.Marks.map f := by rw [← x.mark_T_Marks k, take_map]
theorem StoreV.far_le {x : StoreV} (hx : x.Len) (k : Int) : k ≤ x.far k ∧ x.far k ≤ k + 17592204918784 := by
  obtain ⟨h0, h1⟩ := hx
  have w0 := DevV.far_le h0 k
  have w1 := TabV.far_le h1 (x.D.far k)
  simp only [StoreV.far]
  omega
structure NodeV where
  S : StoreV
  Cs : Int
  deriving DecidableEq
abbrev NodeV.enc (o : Bool) (x : NodeV) : List Go.X.T := [slT o 1 (fun y => [slT o 1 uR y]) x.S.D.Secs, slT o 2 (WrV.enc o) x.S.D.Cache, iT x.S.D.Fuse, bT x.S.D.Down, slT o 7 (RowV.enc o) x.S.T.Rows, iT x.S.T.Phase, slT o 3 MarkV.row x.S.T.Marks, iT x.S.Gen, iT x.S.Place, iT x.Cs]
def NodeV.In (n : Nat) (x : NodeV) : Prop := x.S.In (n)
theorem NodeV.In.mono {x : NodeV} {n m : Nat} (h : x.In n) (hn : n ≤ m) : x.In m := by
  simp only [NodeV.In] at h ⊢
  exact h.mono hn
def szNode (x : NodeV) (k : Int) : Int := szAll [(szStore x.S)] k
theorem szNode_sane (x : NodeV) : Sane (szNode x) := Sane.all (.cons (szStore_sane _) .nil)
theorem szNode_in {x : NodeV} {k : Int} {n : Nat} (hk : 0 ≤ k) (hn : k ≤ n) (h : 0 ≤ szNode x k) : x.In n := by
  obtain ⟨⟨j0, a0, b0, c0⟩, _⟩ := szAll_ex (.cons (szStore_sane _) .nil) hk hn h
  show x.S.In (n)
  exact (szStore_in a0 b0 c0)
def NodeV.Len (x : NodeV) : Prop := x.S.Len
theorem NodeV.In.len {x : NodeV} {n : Nat} (h : x.In n) (hn : n ≤ 2 ^ 21) : x.Len := by
  have h0 : x.S.In (n) := h
  exact (h0).len hn
def NodeV.mark (x : NodeV) (k : Int) : NodeV := ⟨x.S.mark (k), x.Cs⟩
def NodeV.far (x : NodeV) (k : Int) : Int := x.S.far (k)
theorem NodeV.mark_S_D_Secs (x : NodeV) (k : Int) : (x.mark k).S.D.Secs.length = x.S.D.Secs.length := by simp [NodeV.mark, StoreV.mark, DevV.mark, TabV.mark, marks_length, markL_length]
theorem NodeV.take_S_D_Secs {β : Type} (f : List UInt8 → β) (x : NodeV) (k : Int) : ((x.mark k).S.D.Secs.map f).take x.S.D.Secs.length = (x.mark k).S.D.Secs.map f := by rw [← x.mark_S_D_Secs k, take_map]
theorem NodeV.mark_S_D_Cache (x : NodeV) (k : Int) : (x.mark k).S.D.Cache.length = x.S.D.Cache.length := by simp [NodeV.mark, StoreV.mark, DevV.mark, TabV.mark, marks_length, markL_length]
theorem NodeV.take_S_D_Cache {β : Type} (f : WrV → β) (x : NodeV) (k : Int) : ((x.mark k).S.D.Cache.map f).take x.S.D.Cache.length = (x.mark k).S.D.Cache.map f := by rw [← x.mark_S_D_Cache k, take_map]
theorem NodeV.mark_S_T_Rows (x : NodeV) (k : Int) : (x.mark k).S.T.Rows.length = x.S.T.Rows.length := by simp [NodeV.mark, StoreV.mark, DevV.mark, TabV.mark, marks_length, markL_length]
theorem NodeV.take_S_T_Rows {β : Type} (f : RowV → β) (x : NodeV) (k : Int) : ((x.mark k).S.T.Rows.map f).take x.S.T.Rows.length = (x.mark k).S.T.Rows.map f := by rw [← x.mark_S_T_Rows k, take_map]
theorem NodeV.mark_S_T_Marks (x : NodeV) (k : Int) : (x.mark k).S.T.Marks.length = x.S.T.Marks.length := by simp [NodeV.mark, StoreV.mark, DevV.mark, TabV.mark, marks_length, markL_length]
theorem NodeV.take_S_T_Marks {β : Type} (f : MarkV → β) (x : NodeV) (k : Int) : ((x.mark k).S.T.Marks.map f).take x.S.T.Marks.length = (x.mark k).S.T.Marks.map f := by rw [← x.mark_S_T_Marks k, take_map]
theorem NodeV.far_le {x : NodeV} (hx : x.Len) (k : Int) : k ≤ x.far k ∧ x.far k ≤ k + 17592204918784 := by
  have h0 : x.S.Len := hx
  have w0 := StoreV.far_le h0 k
  simp only [NodeV.far]
  omega
structure RecV where
  Kind : Int
  R : RowV
  Key : ByteArray
  N : Int
  Who : Int
  Seq : Int
  Code : Int
  deriving DecidableEq
abbrev RecV.enc (o : Bool) (x : RecV) : List Go.X.T := [iT x.Kind, sT x.R.Key, iT x.R.Old.Tag, slT o 1 uR x.R.Old.B, iT x.R.New.Tag, slT o 1 uR x.R.New.B, iT x.R.Has, bT x.R.Aside, sT x.Key, iT x.N, iT x.Who, iT x.Seq, iT x.Code]
def RecV.In (n : Nat) (x : RecV) : Prop := x.R.In (n) ∧ x.Key.size ≤ n
theorem RecV.In.mono {x : RecV} {n m : Nat} (h : x.In n) (hn : n ≤ m) : x.In m := by
  simp only [RecV.In] at h ⊢
  exact ⟨h.1.mono hn, Nat.le_trans h.2 hn⟩
def szRec (x : RecV) (k : Int) : Int := szAll [(szRow x.R), (fun k => k - (x.Key.size : Nat))] k
theorem szRec_sane (x : RecV) : Sane (szRec x) := Sane.all (.cons (szRow_sane _) (.cons (Sane.sub _) .nil))
theorem szRec_in {x : RecV} {k : Int} {n : Nat} (hk : 0 ≤ k) (hn : k ≤ n) (h : 0 ≤ szRec x k) : x.In n := by
  obtain ⟨⟨j0, a0, b0, c0⟩, ⟨j1, a1, b1, c1⟩, _⟩ := szAll_ex (.cons (szRow_sane _) (.cons (Sane.sub _) .nil)) hk hn h
  exact ⟨(szRow_in a0 b0 c0), (by have q : (0 : Int) ≤ j1 - _ := c1; omega)⟩
def RecV.Len (x : RecV) : Prop := x.R.Len
theorem RecV.In.len {x : RecV} {n : Nat} (h : x.In n) (hn : n ≤ 2 ^ 21) : x.Len := by
  obtain ⟨h0, h1⟩ := h
  exact (h0).len hn
def RecV.mark (x : RecV) (k : Int) : RecV := ⟨x.Kind, x.R.mark (k), x.Key, x.N, x.Who, x.Seq, x.Code⟩
def RecV.far (x : RecV) (k : Int) : Int := x.R.far (k)
theorem RecV.mark_R_Old_B (x : RecV) (k : Int) : (x.mark k).R.Old.B.length = x.R.Old.B.length := by simp [RecV.mark, RowV.mark, CellV.mark, marks_length, markL_length]
theorem RecV.take_R_Old_B {β : Type} (f : UInt8 → β) (x : RecV) (k : Int) : ((x.mark k).R.Old.B.map f).take x.R.Old.B.length = (x.mark k).R.Old.B.map f := by rw [← x.mark_R_Old_B k, take_map]
theorem RecV.mark_R_New_B (x : RecV) (k : Int) : (x.mark k).R.New.B.length = x.R.New.B.length := by simp [RecV.mark, RowV.mark, CellV.mark, marks_length, markL_length]
theorem RecV.take_R_New_B {β : Type} (f : UInt8 → β) (x : RecV) (k : Int) : ((x.mark k).R.New.B.map f).take x.R.New.B.length = (x.mark k).R.New.B.map f := by rw [← x.mark_R_New_B k, take_map]
theorem RecV.far_le {x : RecV} (hx : x.Len) (k : Int) : k ≤ x.far k ∧ x.far k ≤ k + 4194304 := by
  have h0 : x.R.Len := hx
  have w0 := RowV.far_le h0 k
  simp only [RecV.far]
  omega
structure ActV where
  Kind : Int
  Who : Int
  Seq : Int
  Key : ByteArray
  Text : ByteArray
  Code : Int
  deriving DecidableEq
abbrev ActV.row (x : ActV) : List Go.X.T := [iT x.Kind, iT x.Who, iT x.Seq, sT x.Key, sT x.Text, iT x.Code]
def ActV.In (n : Nat) (x : ActV) : Prop := x.Key.size ≤ n ∧ x.Text.size ≤ n
theorem ActV.In.mono {x : ActV} {n m : Nat} (h : x.In n) (hn : n ≤ m) : x.In m := by
  simp only [ActV.In] at h ⊢
  exact ⟨Nat.le_trans h.1 hn, Nat.le_trans h.2 hn⟩
def szAct (x : ActV) (k : Int) : Int := szAll [(fun k => k - (x.Key.size : Nat)), (fun k => k - (x.Text.size : Nat))] k
theorem szAct_sane (x : ActV) : Sane (szAct x) := Sane.all (.cons (Sane.sub _) (.cons (Sane.sub _) .nil))
theorem szAct_in {x : ActV} {k : Int} {n : Nat} (hk : 0 ≤ k) (hn : k ≤ n) (h : 0 ≤ szAct x k) : x.In n := by
  obtain ⟨⟨j0, a0, b0, c0⟩, ⟨j1, a1, b1, c1⟩, _⟩ := szAll_ex (.cons (Sane.sub _) (.cons (Sane.sub _) .nil)) hk hn h
  exact ⟨(by have q : (0 : Int) ≤ j0 - _ := c0; omega), (by have q : (0 : Int) ≤ j1 - _ := c1; omega)⟩
def mkAct (k : Int) : ActV := ⟨k, k + 1, k + 1 + 1, mkS (k + 1 + 1 + 1), mkS (k + 1 + 1 + 1 + 1), k + 1 + 1 + 1 + 1 + 1⟩
end Go.X

/- F -/
namespace Go.X
set_option maxRecDepth 100000
set_option maxHeartbeats 8000000
/-- n lies between. -/
def win (n a b : Int) : Bool := decide (n ≥ a) && decide (n ≤ b)
def x_i_within : FnX := ⟨15, [.tmp 6],
  .seq (.reg [⟨none, some 6, 6, .mv (.k (.one (.pv (.bool false))))⟩])
 (.seq (.reg [⟨none, some 7, 7, .mv (.t 0)⟩,
   ⟨none, some 8, 8, .mv (.t 1)⟩,
   ⟨none, some 9, 9, .bin .geq (.t 7) (.t 8)⟩,
   ⟨none, some 10, 10, .mv (.t 9)⟩,
   ⟨(some (10, true)), some 11, 11, .mv (.t 0)⟩,
   ⟨(some (10, true)), some 12, 12, .mv (.t 2)⟩,
   ⟨(some (10, true)), some 13, 13, .bin .leq (.t 11) (.t 12)⟩,
   ⟨none, some 14, 14, .pick (.t 10) (.t 13) (.k (.one (.pv (.bool false))))⟩,
   ⟨none, some 6, 6, .mv (.t 14)⟩])
 (.ret))⟩
abbrev C_i_within (Te : Nat → List AV → Res → Prop) : Prop := ∀ (n a b : Int), Te 53 [.one (iT n), .one (iT a), .one (iT b)] ⟨[.one (bT (win n a b))], [[iT n], [iT a], [iT b]]⟩
theorem r_i_within {Te : Nat → List AV → Res → Prop} : ∀ (n a b : Int), RunFn Te x_i_within [.one (iT n), .one (iT a), .one (iT b)] ⟨[.one (bT (win n a b))], [[iT n], [iT a], [iT b]]⟩ := by
  intro n a b
  refine ⟨by simp -implicitDefEqProofs (maxSteps := 1000000) only [x_i_within, go_sem], ?_⟩
  simp -implicitDefEqProofs (maxSteps := 1000000) only [x_i_within, go_sem]
  refine bif_cases (fun h => ?_) (fun h => ?_) <;> simp -implicitDefEqProofs (maxSteps := 1000000) only [h, go_sem, win]
def x_s_l1In : FnX := ⟨15, [.tmp 6],
  .seq (.reg [⟨none, some 6, 6, .mv (.k (.one (.pv (.bool false))))⟩])
 (.seq (.reg [⟨none, some 7, 7, .mv (.t 0)⟩,
   ⟨none, some 8, 8, .mv (.t 1)⟩,
   ⟨none, some 9, 9, .bin .geq (.t 7) (.t 8)⟩,
   ⟨none, some 10, 10, .mv (.t 9)⟩,
   ⟨(some (10, true)), some 11, 11, .mv (.t 0)⟩,
   ⟨(some (10, true)), some 12, 12, .mv (.t 2)⟩,
   ⟨(some (10, true)), some 13, 13, .bin .leq (.t 11) (.t 12)⟩,
   ⟨none, some 14, 14, .pick (.t 10) (.t 13) (.k (.one (.pv (.bool false))))⟩,
   ⟨none, some 6, 6, .mv (.t 14)⟩])
 (.ret))⟩
abbrev C_s_l1In (Te : Nat → List AV → Res → Prop) : Prop := ∀ (n a b : Int), Te 77 [.one (iT n), .one (iT a), .one (iT b)] ⟨[.one (bT (win n a b))], [[iT n], [iT a], [iT b]]⟩
theorem r_s_l1In {Te : Nat → List AV → Res → Prop} : ∀ (n a b : Int), RunFn Te x_s_l1In [.one (iT n), .one (iT a), .one (iT b)] ⟨[.one (bT (win n a b))], [[iT n], [iT a], [iT b]]⟩ := by
  intro n a b
  refine ⟨by simp -implicitDefEqProofs (maxSteps := 1000000) only [x_s_l1In, go_sem], ?_⟩
  simp -implicitDefEqProofs (maxSteps := 1000000) only [x_s_l1In, go_sem]
  refine bif_cases (fun h => ?_) (fun h => ?_) <;> simp -implicitDefEqProofs (maxSteps := 1000000) only [h, go_sem, win]
def x_i_isWord : FnX := ⟨5, [.tmp 2],
  .seq (.reg [⟨none, some 2, 2, .mv (.k (.one (.pv (.bool false))))⟩])
 (.seq (.reg [⟨none, some 3, 3, .mv (.t 0)⟩,
   ⟨none, some 4, 4, .call 53 [0, 0, 0] [(.t 3), (.k (.one (.pv (.int .i64 0)))), (.k (.one (.pv (.int .i64 65535))))]⟩,
   ⟨none, some 2, 2, .mv (.t 4)⟩])
 (.ret))⟩
abbrev C_i_isWord (Te : Nat → List AV → Res → Prop) : Prop := ∀ (n : Int), Te 54 [.one (iT n)] ⟨[.one (bT (win n 0 65535))], [[iT n]]⟩
theorem r_i_isWord {Te : Nat → List AV → Res → Prop} (c_i_within : C_i_within Te) : ∀ (n : Int), RunFn Te x_i_isWord [.one (iT n)] ⟨[.one (bT (win n 0 65535))], [[iT n]]⟩ := by
  intro n
  refine ⟨by simp -implicitDefEqProofs (maxSteps := 1000000) only [x_i_isWord, go_sem], ?_⟩
  simp -implicitDefEqProofs (maxSteps := 1000000) only [x_i_isWord, go_sem]
  refine .of (c_i_within _ _ _) ?_
  simp -implicitDefEqProofs (maxSteps := 1000000) only [go_sem]
def x_s_l1Word : FnX := ⟨5, [.tmp 2],
  .seq (.reg [⟨none, some 2, 2, .mv (.k (.one (.pv (.bool false))))⟩])
 (.seq (.reg [⟨none, some 3, 3, .mv (.t 0)⟩,
   ⟨none, some 4, 4, .call 77 [0, 0, 0] [(.t 3), (.k (.one (.pv (.int .i64 0)))), (.k (.one (.pv (.int .i64 65535))))]⟩,
   ⟨none, some 2, 2, .mv (.t 4)⟩])
 (.ret))⟩
abbrev C_s_l1Word (Te : Nat → List AV → Res → Prop) : Prop := ∀ (n : Int), Te 78 [.one (iT n)] ⟨[.one (bT (win n 0 65535))], [[iT n]]⟩
theorem r_s_l1Word {Te : Nat → List AV → Res → Prop} (c_s_l1In : C_s_l1In Te) : ∀ (n : Int), RunFn Te x_s_l1Word [.one (iT n)] ⟨[.one (bT (win n 0 65535))], [[iT n]]⟩ := by
  intro n
  refine ⟨by simp -implicitDefEqProofs (maxSteps := 1000000) only [x_s_l1Word, go_sem], ?_⟩
  simp -implicitDefEqProofs (maxSteps := 1000000) only [x_s_l1Word, go_sem]
  refine .of (c_s_l1In _ _ _) ?_
  simp -implicitDefEqProofs (maxSteps := 1000000) only [go_sem]
def Msg.ok (m : Msg) : Bool := win m.Kind 1 9 && win m.From 0 4 && win m.To 0 4 && (m.From != m.To) && win m.Seq 0 65535 && decide ((m.Key.size : Int) ≤ 60) && decide ((m.Text.size : Int) ≤ 60) && win m.N 0 255 && win m.Code 0 6
def x_i_MsgOk : FnX := ⟨50, [.tmp 2],
  .seq (.reg [⟨none, some 1, 1, .box (.t 0)⟩,
   ⟨none, some 2, 2, .mv (.k (.one (.pv (.bool false))))⟩])
 (.seq (.reg [⟨none, some 3, 3, .faddr (.t 1) 0⟩,
   ⟨none, some 4, 4, .load none (.t 3)⟩,
   ⟨none, some 5, 5, .call 53 [0, 0, 0] [(.t 4), (.k (.one (.pv (.int .i64 1)))), (.k (.one (.pv (.int .i64 9))))]⟩,
   ⟨none, some 6, 6, .mv (.t 5)⟩,
   ⟨(some (6, true)), some 7, 7, .faddr (.t 1) 1⟩,
   ⟨(some (6, true)), some 8, 8, .load none (.t 7)⟩,
   ⟨(some (6, true)), some 9, 9, .call 53 [0, 0, 0] [(.t 8), (.k (.one (.pv (.int .i64 0)))), (.k (.one (.pv (.int .i64 4))))]⟩,
   ⟨none, some 10, 10, .pick (.t 6) (.t 9) (.k (.one (.pv (.bool false))))⟩,
   ⟨none, some 11, 11, .mv (.t 10)⟩,
   ⟨(some (11, true)), some 12, 12, .faddr (.t 1) 2⟩,
   ⟨(some (11, true)), some 13, 13, .load none (.t 12)⟩,
   ⟨(some (11, true)), some 14, 14, .call 53 [0, 0, 0] [(.t 13), (.k (.one (.pv (.int .i64 0)))), (.k (.one (.pv (.int .i64 4))))]⟩,
   ⟨none, some 15, 15, .pick (.t 11) (.t 14) (.k (.one (.pv (.bool false))))⟩,
   ⟨none, some 16, 16, .mv (.t 15)⟩,
   ⟨(some (16, true)), some 17, 17, .faddr (.t 1) 1⟩,
   ⟨(some (16, true)), some 18, 18, .load none (.t 17)⟩,
   ⟨(some (16, true)), some 19, 19, .faddr (.t 1) 2⟩,
   ⟨(some (16, true)), some 20, 20, .load none (.t 19)⟩,
   ⟨(some (16, true)), some 21, 21, .bin .neq (.t 18) (.t 20)⟩,
   ⟨none, some 22, 22, .pick (.t 16) (.t 21) (.k (.one (.pv (.bool false))))⟩,
   ⟨none, some 23, 23, .mv (.t 22)⟩,
   ⟨(some (23, true)), some 24, 24, .faddr (.t 1) 3⟩,
   ⟨(some (23, true)), some 25, 25, .load none (.t 24)⟩,
   ⟨(some (23, true)), some 26, 26, .call 54 [0] [(.t 25)]⟩,
   ⟨none, some 27, 27, .pick (.t 23) (.t 26) (.k (.one (.pv (.bool false))))⟩,
   ⟨none, some 28, 28, .mv (.t 27)⟩,
   ⟨(some (28, true)), some 29, 29, .faddr (.t 1) 4⟩,
   ⟨(some (28, true)), some 30, 30, .load none (.t 29)⟩,
   ⟨(some (28, true)), some 31, 31, .slen (.t 30)⟩,
   ⟨(some (28, true)), some 32, 32, .bin .leq (.t 31) (.k (.one (.pv (.int .i64 60))))⟩,
   ⟨none, some 33, 33, .pick (.t 28) (.t 32) (.k (.one (.pv (.bool false))))⟩,
   ⟨none, some 34, 34, .mv (.t 33)⟩,
   ⟨(some (34, true)), some 35, 35, .faddr (.t 1) 5⟩,
   ⟨(some (34, true)), some 36, 36, .load none (.t 35)⟩,
   ⟨(some (34, true)), some 37, 37, .slen (.t 36)⟩,
   ⟨(some (34, true)), some 38, 38, .bin .leq (.t 37) (.k (.one (.pv (.int .i64 60))))⟩,
   ⟨none, some 39, 39, .pick (.t 34) (.t 38) (.k (.one (.pv (.bool false))))⟩,
   ⟨none, some 40, 40, .mv (.t 39)⟩,
   ⟨(some (40, true)), some 41, 41, .faddr (.t 1) 6⟩,
   ⟨(some (40, true)), some 42, 42, .load none (.t 41)⟩,
   ⟨(some (40, true)), some 43, 43, .call 53 [0, 0, 0] [(.t 42), (.k (.one (.pv (.int .i64 0)))), (.k (.one (.pv (.int .i64 255))))]⟩,
   ⟨none, some 44, 44, .pick (.t 40) (.t 43) (.k (.one (.pv (.bool false))))⟩,
   ⟨none, some 45, 45, .mv (.t 44)⟩,
   ⟨(some (45, true)), some 46, 46, .faddr (.t 1) 7⟩,
   ⟨(some (45, true)), some 47, 47, .load none (.t 46)⟩,
   ⟨(some (45, true)), some 48, 48, .call 53 [0, 0, 0] [(.t 47), (.k (.one (.pv (.int .i64 0)))), (.k (.one (.pv (.int .i64 6))))]⟩,
   ⟨none, some 49, 49, .pick (.t 45) (.t 48) (.k (.one (.pv (.bool false))))⟩,
   ⟨none, some 2, 2, .mv (.t 49)⟩])
 (.ret))⟩
abbrev C_i_MsgOk (Te : Nat → List AV → Res → Prop) : Prop := ∀ (m : Msg), Te 15 [.agg m.row] ⟨[.one (bT m.ok)], [m.row]⟩
theorem r_i_MsgOk {Te : Nat → List AV → Res → Prop} (c_i_within : C_i_within Te) (c_i_isWord : C_i_isWord Te) : ∀ (m : Msg), RunFn Te x_i_MsgOk [.agg m.row] ⟨[.one (bT m.ok)], [m.row]⟩ := by
  intro m
  refine ⟨by simp -implicitDefEqProofs (maxSteps := 1000000) only [x_i_MsgOk, go_sem], ?_⟩
  simp -implicitDefEqProofs (maxSteps := 1000000) only [x_i_MsgOk, go_sem, Msg.ok]
  refine .of (c_i_within _ _ _) ?_
  simp -implicitDefEqProofs (maxSteps := 1000000) only [go_sem]
  refine bif_cases (fun h1 => ?_) (fun h1 => ?_) <;> simp -implicitDefEqProofs (maxSteps := 1000000) only [h1, go_sem]
  refine .of (c_i_within _ _ _) ?_
  simp -implicitDefEqProofs (maxSteps := 1000000) only [go_sem]
  refine bif_cases (fun h2 => ?_) (fun h2 => ?_) <;> simp -implicitDefEqProofs (maxSteps := 1000000) only [h2, go_sem]
  refine .of (c_i_within _ _ _) ?_
  simp -implicitDefEqProofs (maxSteps := 1000000) only [go_sem]
  refine bif_cases (fun h3 => ?_) (fun h3 => ?_) <;> simp -implicitDefEqProofs (maxSteps := 1000000) only [h3, go_sem]
  refine bif_cases (fun h4 => ?_) (fun h4 => ?_) <;> simp -implicitDefEqProofs (maxSteps := 1000000) only [h4, go_sem]
  refine .of (c_i_isWord _) ?_
  simp -implicitDefEqProofs (maxSteps := 1000000) only [go_sem]
  refine bif_cases (fun h5 => ?_) (fun h5 => ?_) <;> simp -implicitDefEqProofs (maxSteps := 1000000) only [h5, go_sem]
  refine bif_cases (fun h6 => ?_) (fun h6 => ?_) <;> simp -implicitDefEqProofs (maxSteps := 1000000) only [h6, go_sem]
  refine bif_cases (fun h7 => ?_) (fun h7 => ?_) <;> simp -implicitDefEqProofs (maxSteps := 1000000) only [h7, go_sem]
  refine .of (c_i_within _ _ _) ?_
  simp -implicitDefEqProofs (maxSteps := 1000000) only [go_sem]
  refine bif_cases (fun h8 => ?_) (fun h8 => ?_) <;> simp -implicitDefEqProofs (maxSteps := 1000000) only [h8, go_sem]
  refine .of (c_i_within _ _ _) ?_
  simp -implicitDefEqProofs (maxSteps := 1000000) only [go_sem]
def x_s_MsgOk : FnX := ⟨50, [.tmp 2],
  .seq (.reg [⟨none, some 1, 1, .box (.t 0)⟩,
   ⟨none, some 2, 2, .mv (.k (.one (.pv (.bool false))))⟩])
 (.seq (.reg [⟨none, some 3, 3, .faddr (.t 1) 0⟩,
   ⟨none, some 4, 4, .load none (.t 3)⟩,
   ⟨none, some 5, 5, .call 77 [0, 0, 0] [(.t 4), (.k (.one (.pv (.int .i64 1)))), (.k (.one (.pv (.int .i64 9))))]⟩,
   ⟨none, some 6, 6, .mv (.t 5)⟩,
   ⟨(some (6, true)), some 7, 7, .faddr (.t 1) 1⟩,
   ⟨(some (6, true)), some 8, 8, .load none (.t 7)⟩,
   ⟨(some (6, true)), some 9, 9, .call 77 [0, 0, 0] [(.t 8), (.k (.one (.pv (.int .i64 0)))), (.k (.one (.pv (.int .i64 4))))]⟩,
   ⟨none, some 10, 10, .pick (.t 6) (.t 9) (.k (.one (.pv (.bool false))))⟩,
   ⟨none, some 11, 11, .mv (.t 10)⟩,
   ⟨(some (11, true)), some 12, 12, .faddr (.t 1) 2⟩,
   ⟨(some (11, true)), some 13, 13, .load none (.t 12)⟩,
   ⟨(some (11, true)), some 14, 14, .call 77 [0, 0, 0] [(.t 13), (.k (.one (.pv (.int .i64 0)))), (.k (.one (.pv (.int .i64 4))))]⟩,
   ⟨none, some 15, 15, .pick (.t 11) (.t 14) (.k (.one (.pv (.bool false))))⟩,
   ⟨none, some 16, 16, .mv (.t 15)⟩,
   ⟨(some (16, true)), some 17, 17, .faddr (.t 1) 1⟩,
   ⟨(some (16, true)), some 18, 18, .load none (.t 17)⟩,
   ⟨(some (16, true)), some 19, 19, .faddr (.t 1) 2⟩,
   ⟨(some (16, true)), some 20, 20, .load none (.t 19)⟩,
   ⟨(some (16, true)), some 21, 21, .bin .neq (.t 18) (.t 20)⟩,
   ⟨none, some 22, 22, .pick (.t 16) (.t 21) (.k (.one (.pv (.bool false))))⟩,
   ⟨none, some 23, 23, .mv (.t 22)⟩,
   ⟨(some (23, true)), some 24, 24, .faddr (.t 1) 3⟩,
   ⟨(some (23, true)), some 25, 25, .load none (.t 24)⟩,
   ⟨(some (23, true)), some 26, 26, .call 78 [0] [(.t 25)]⟩,
   ⟨none, some 27, 27, .pick (.t 23) (.t 26) (.k (.one (.pv (.bool false))))⟩,
   ⟨none, some 28, 28, .mv (.t 27)⟩,
   ⟨(some (28, true)), some 29, 29, .faddr (.t 1) 4⟩,
   ⟨(some (28, true)), some 30, 30, .load none (.t 29)⟩,
   ⟨(some (28, true)), some 31, 31, .slen (.t 30)⟩,
   ⟨(some (28, true)), some 32, 32, .bin .leq (.t 31) (.k (.one (.pv (.int .i64 60))))⟩,
   ⟨none, some 33, 33, .pick (.t 28) (.t 32) (.k (.one (.pv (.bool false))))⟩,
   ⟨none, some 34, 34, .mv (.t 33)⟩,
   ⟨(some (34, true)), some 35, 35, .faddr (.t 1) 5⟩,
   ⟨(some (34, true)), some 36, 36, .load none (.t 35)⟩,
   ⟨(some (34, true)), some 37, 37, .slen (.t 36)⟩,
   ⟨(some (34, true)), some 38, 38, .bin .leq (.t 37) (.k (.one (.pv (.int .i64 60))))⟩,
   ⟨none, some 39, 39, .pick (.t 34) (.t 38) (.k (.one (.pv (.bool false))))⟩,
   ⟨none, some 40, 40, .mv (.t 39)⟩,
   ⟨(some (40, true)), some 41, 41, .faddr (.t 1) 6⟩,
   ⟨(some (40, true)), some 42, 42, .load none (.t 41)⟩,
   ⟨(some (40, true)), some 43, 43, .call 77 [0, 0, 0] [(.t 42), (.k (.one (.pv (.int .i64 0)))), (.k (.one (.pv (.int .i64 255))))]⟩,
   ⟨none, some 44, 44, .pick (.t 40) (.t 43) (.k (.one (.pv (.bool false))))⟩,
   ⟨none, some 45, 45, .mv (.t 44)⟩,
   ⟨(some (45, true)), some 46, 46, .faddr (.t 1) 7⟩,
   ⟨(some (45, true)), some 47, 47, .load none (.t 46)⟩,
   ⟨(some (45, true)), some 48, 48, .call 77 [0, 0, 0] [(.t 47), (.k (.one (.pv (.int .i64 0)))), (.k (.one (.pv (.int .i64 6))))]⟩,
   ⟨none, some 49, 49, .pick (.t 45) (.t 48) (.k (.one (.pv (.bool false))))⟩,
   ⟨none, some 2, 2, .mv (.t 49)⟩])
 (.ret))⟩
abbrev C_s_MsgOk (Te : Nat → List AV → Res → Prop) : Prop := ∀ (m : Msg), Te 45 [.agg m.row] ⟨[.one (bT m.ok)], [m.row]⟩
theorem r_s_MsgOk {Te : Nat → List AV → Res → Prop} (c_s_l1In : C_s_l1In Te) (c_s_l1Word : C_s_l1Word Te) : ∀ (m : Msg), RunFn Te x_s_MsgOk [.agg m.row] ⟨[.one (bT m.ok)], [m.row]⟩ := by
  intro m
  refine ⟨by simp -implicitDefEqProofs (maxSteps := 1000000) only [x_s_MsgOk, go_sem], ?_⟩
  simp -implicitDefEqProofs (maxSteps := 1000000) only [x_s_MsgOk, go_sem, Msg.ok]
  refine .of (c_s_l1In _ _ _) ?_
  simp -implicitDefEqProofs (maxSteps := 1000000) only [go_sem]
  refine bif_cases (fun h1 => ?_) (fun h1 => ?_) <;> simp -implicitDefEqProofs (maxSteps := 1000000) only [h1, go_sem]
  refine .of (c_s_l1In _ _ _) ?_
  simp -implicitDefEqProofs (maxSteps := 1000000) only [go_sem]
  refine bif_cases (fun h2 => ?_) (fun h2 => ?_) <;> simp -implicitDefEqProofs (maxSteps := 1000000) only [h2, go_sem]
  refine .of (c_s_l1In _ _ _) ?_
  simp -implicitDefEqProofs (maxSteps := 1000000) only [go_sem]
  refine bif_cases (fun h3 => ?_) (fun h3 => ?_) <;> simp -implicitDefEqProofs (maxSteps := 1000000) only [h3, go_sem]
  refine bif_cases (fun h4 => ?_) (fun h4 => ?_) <;> simp -implicitDefEqProofs (maxSteps := 1000000) only [h4, go_sem]
  refine .of (c_s_l1Word _) ?_
  simp -implicitDefEqProofs (maxSteps := 1000000) only [go_sem]
  refine bif_cases (fun h5 => ?_) (fun h5 => ?_) <;> simp -implicitDefEqProofs (maxSteps := 1000000) only [h5, go_sem]
  refine bif_cases (fun h6 => ?_) (fun h6 => ?_) <;> simp -implicitDefEqProofs (maxSteps := 1000000) only [h6, go_sem]
  refine bif_cases (fun h7 => ?_) (fun h7 => ?_) <;> simp -implicitDefEqProofs (maxSteps := 1000000) only [h7, go_sem]
  refine .of (c_s_l1In _ _ _) ?_
  simp -implicitDefEqProofs (maxSteps := 1000000) only [go_sem]
  refine bif_cases (fun h8 => ?_) (fun h8 => ?_) <;> simp -implicitDefEqProofs (maxSteps := 1000000) only [h8, go_sem]
  refine .of (c_s_l1In _ _ _) ?_
  simp -implicitDefEqProofs (maxSteps := 1000000) only [go_sem]
end Go.X

/- K -/
namespace Go.X
set_option maxRecDepth 100000
set_option maxHeartbeats 8000000
abbrev bytesR (o : Bool) (l : List UInt8) : List T := [slT o 1 uR l]
theorem toNat_ofInt (a : Nat) (h : a < 2 ^ 62) : (BitVec.ofInt 64 (a : Int)).toNat = a := by
  rw [BitVec.toNat_ofInt]
  omega
theorem xor_nat (a b : Nat) (ha : a < 2 ^ 62) (hb : b < 2 ^ 62) : xorK .i64 (a : Int) (b : Int) = ((a ^^^ b : Nat) : Int) := by
  rw [xorK_def, show IntKind.i64.bits = 64 from rfl, BitVec.toNat_xor, toNat_ofInt a ha, toNat_ofInt b hb, IntWalk.i64_in]
  have := Nat.xor_lt_two_pow ha hb
  omega
theorem or_nat (a b : Nat) (ha : a < 2 ^ 62) (hb : b < 2 ^ 62) : orK .i64 (a : Int) (b : Int) = ((a ||| b : Nat) : Int) := by
  rw [orK_def, show IntKind.i64.bits = 64 from rfl, BitVec.toNat_or, toNat_ofInt a ha, toNat_ofInt b hb, IntWalk.i64_in]
  have := Nat.or_lt_two_pow ha hb
  omega
theorem and_nat (a b : Nat) (ha : a < 2 ^ 62) (hb : b < 2 ^ 62) : andK .i64 (a : Int) (b : Int) = ((a &&& b : Nat) : Int) := by
  rw [andK_def, show IntKind.i64.bits = 64 from rfl, BitVec.toNat_and, toNat_ofInt a ha, toNat_ofInt b hb, IntWalk.i64_in]
  have := Nat.and_lt_two_pow a hb
  omega
theorem min8 : Nat.min 8 64 = 8 := rfl
theorem and255 (a : Int) : mkU (andK .i64 a 255) = mkU a := by
  rw [andK_def]
  show mkU (IntKind.i64.wrap ((BitVec.ofInt 64 a &&& BitVec.ofInt 64 255).toNat)) = mkU a
  have e : (BitVec.ofInt 64 a &&& BitVec.ofInt 64 255).toNat = (a % 256).toNat := by
    rw [BitVec.toNat_and, BitVec.toNat_ofInt, show (BitVec.ofInt 64 255).toNat = 2 ^ 8 - 1 by decide, Nat.and_two_pow_sub_one_eq_mod]
    omega
  rw [e, IntWalk.i64_in _ (by omega)]
  simp only [mkU]
  congr 1
  omega
theorem ofBytes_eq (l : List UInt8) : ofBytes l = l.map uR := rfl
def hiB (n : Int) : UInt8 := mkU (n.fdiv 256)
def putW (b : List UInt8) (n : Int) : List UInt8 := b ++ [hiB n, mkU n]
def putText (b : List UInt8) (s : ByteArray) : List UInt8 := if (s.size : Int) > 60 then b else putW b s.size ++ s.data.toList
def sumBit (s : Nat) : Nat := if 2 * s > 65535 then 2 * s ^^^ 69665 else 2 * s
def sumBits : Nat → Nat → Nat
  | 0, s => s
  | n + 1, s => sumBit (sumBits n s)
def sumByte (s : Nat) (b : UInt8) : Nat := sumBits 8 (s ^^^ (256 * b.toNat))
def sum (l : List UInt8) : Nat := l.foldl sumByte 65535 &&& 65535
theorem sumBit_lt {s : Nat} (h : s < 65536) : sumBit s < 65536 := by
  unfold sumBit
  split
  · rename_i q
    have h1 : 2 * s < 2 ^ 17 := by omega
    refine Nat.lt_pow_two_of_testBit (n := 16) _ fun i hi => ?_
    rw [Nat.testBit_xor]
    by_cases h16 : i = 16
    · subst h16
      have : (2 * s).testBit 16 = true := by
        rw [Nat.testBit_eq_decide_div_mod_eq]
        have : 2 * s / 2 ^ 16 = 1 := by omega
        simp [this]
      rw [this]; decide
    · rw [Nat.testBit_lt_two_pow (Nat.lt_of_lt_of_le h1 (Nat.pow_le_pow_right (by decide) (by omega))), Nat.testBit_lt_two_pow (Nat.lt_of_lt_of_le (show 69665 < 2 ^ 17 by decide) (Nat.pow_le_pow_right (by decide) (by omega)))]
      rfl
  · omega
theorem sumBits_lt (n : Nat) {s : Nat} (h : s < 65536) : sumBits n s < 65536 := by
  induction n with
  | zero => exact h
  | succ n ih => exact sumBit_lt ih
theorem sumX_lt {s : Nat} (b : UInt8) (h : s < 65536) : s ^^^ (256 * b.toNat) < 65536 := Nat.xor_lt_two_pow (n := 16) h (by have := b.toNat_lt; omega)
theorem sumByte_lt {s : Nat} (b : UInt8) (h : s < 65536) : sumByte s b < 65536 := sumBits_lt 8 (sumX_lt b h)
def x_i_joined : FnX := ⟨18, [.tmp 2],
  .seq (.reg [⟨none, some 2, 2, .mv (.k (.one (.nils 1)))⟩])
 (.seq (.reg [⟨none, some 6, 6, .bslice 1 []⟩,
   ⟨none, some 3, 3, .mv (.t 6)⟩])
 (.seq (.seq (.reg [⟨none, some 7, 7, .mv (.t 0)⟩,
   ⟨none, some 8, 8, .len (.t 7)⟩,
   ⟨none, some 9, 9, .mv (.k (.one (.pv (.int .i64 0))))⟩])
 (.block 0 (.loop [3, 7, 8, 9] (.seq (.reg [⟨none, some 10, 10, .bin .lss (.t 9) (.t 8)⟩])
 (.seq (.cond 10 (.skip) (.exit 0))
 (.seq (.block 1 (.seq (.reg [⟨none, some 11, 11, .iaddr 1 (.t 7) (.t 9)⟩,
   ⟨none, some 12, 12, .load none (.t 11)⟩,
   ⟨none, some 5, 5, .mv (.t 12)⟩])
 (.reg [⟨none, some 13, 13, .mv (.t 3)⟩,
   ⟨none, some 14, 14, .mv (.t 5)⟩,
   ⟨none, some 15, 15, .app 1 1 (.t 13) (.t 14)⟩,
   ⟨none, some 3, 3, .mv (.t 15)⟩])))
 (.reg [⟨none, some 16, 16, .bin .add (.t 9) (.k (.one (.pv (.int .i64 1))))⟩,
   ⟨none, some 9, 9, .mv (.t 16)⟩])))))))
 (.norm [3] (.seq (.reg [⟨none, some 17, 17, .mv (.t 3)⟩,
   ⟨none, some 2, 2, .mv (.t 17)⟩])
 (.ret)))))⟩
abbrev C_i_joined (Te : Nat → List AV → Res → Prop) : Prop := ∀ (ps : List (List UInt8)) (h : ps.flatten.length ≤ 2 ^ 31) (h2 : ps.length ≤ 2 ^ 31), Te 85 [.one (slT false 1 (bytesR false) ps)] ⟨[.one (slT true 1 uR ps.flatten)], [[slT false 1 (bytesR false) ps]]⟩
theorem r_i_joined {Te : Nat → List AV → Res → Prop} : ∀ (ps : List (List UInt8)) (h : ps.flatten.length ≤ 2 ^ 31) (h2 : ps.length ≤ 2 ^ 31), RunFn Te x_i_joined [.one (slT false 1 (bytesR false) ps)] ⟨[.one (slT true 1 uR ps.flatten)], [[slT false 1 (bytesR false) ps]]⟩ := by
  intro ps h h2
  refine ⟨by simp -implicitDefEqProofs (maxSteps := 1000000) only [x_i_joined, go_sem], ?_⟩
  simp -implicitDefEqProofs (maxSteps := 1000000) only [x_i_joined, go_sem]
  refine loop_of (σ := Nat × List UInt8) (fun x => ⟨[(3, .one (.rf 19 0 [] 1 0 x.2.length)), (7, .one (.ro 1 (ps.map (bytesR false)))), (8, .one (.pv (.int .i64 ps.length))), (9, .one (.pv (.int .i64 x.1)))], [], [(0, [slT false 1 (bytesR false) ps]), (19, [slT true 1 uR x.2])]⟩) (fun x => x.1 ≤ ps.length ∧ x.2 = (ps.take x.1).flatten) (fun x => ps.length - x.1) (0, []) ?_ ⟨Nat.zero_le _, rfl⟩ ?_
  · simp -implicitDefEqProofs (maxSteps := 1000000) only [go_sem]; rfl
  · rintro ⟨i, a⟩ ⟨hi, he⟩
    simp only at hi he
    simp -implicitDefEqProofs (maxSteps := 1000000) only [go_sem]
    refine ⟨fun h => ?_, fun h => ?_⟩
    · have hi' : i < ps.length := by simp only [decide_eq_true_eq] at h; omega
      simp -implicitDefEqProofs (maxSteps := 1000000) only [go_sem, List.getElem?_eq_getElem hi']
      have hlen : a.length + ps[i].length ≤ ps.flatten.length := by
        rw [he, ← List.length_append]
        have e := List.take_succ_eq_append_getElem hi'
        have : (ps.take i).flatten ++ ps[i] = (ps.take (i + 1)).flatten := by rw [e, List.flatten_append]; simp
        rw [this]
        have h5 : ps.flatten = (ps.take (i + 1)).flatten ++ (ps.drop (i + 1)).flatten := by rw [← List.flatten_append, List.take_append_drop]
        rw [h5, List.length_append]
        omega
      refine ⟨⟨decide_eq_true (by omega), decide_eq_true (by omega)⟩, (i + 1, a ++ ps[i]), ?_, ⟨hi', ?_⟩, by simp only; omega⟩
      · rw [IntWalk.i64_in _ (by omega)]
        rw [show List.map uR a ++ List.map uR ps[i] = List.map uR (a ++ ps[i]) from List.map_append.symm, show a.length + ps[i].length = (a ++ ps[i]).length from List.length_append.symm]
        rfl
      · rw [he, List.take_succ_eq_append_getElem hi', List.flatten_append]
        simp
    · have hle : ps.length ≤ i := by simp only [decide_eq_false_iff_not] at h; omega
      rw [List.take_of_length_le hle] at he
      subst he
      simp -implicitDefEqProofs (maxSteps := 1000000) only [go_sem]
def x_i_Sum : FnX := ⟨29, [.tmp 2],
  .seq (.reg [⟨none, some 2, 2, .mv (.k (.one (.pv (.int .i64 0))))⟩])
 (.seq (.reg [⟨none, some 3, 3, .mv (.k (.one (.pv (.int .i64 65535))))⟩])
 (.seq (.seq (.reg [⟨none, some 6, 6, .mv (.t 0)⟩,
   ⟨none, some 7, 7, .len (.t 6)⟩,
   ⟨none, some 8, 8, .mv (.k (.one (.pv (.int .i64 0))))⟩])
 (.block 0 (.loop [3, 6, 7, 8] (.seq (.reg [⟨none, some 9, 9, .bin .lss (.t 8) (.t 7)⟩])
 (.seq (.cond 9 (.skip) (.exit 0))
 (.seq (.block 1 (.seq (.reg [⟨none, some 10, 10, .iaddr 1 (.t 6) (.t 8)⟩,
   ⟨none, some 11, 11, .load none (.t 10)⟩,
   ⟨none, some 5, 5, .mv (.t 11)⟩])
 (.seq (.reg [⟨none, some 12, 12, .mv (.t 3)⟩,
   ⟨none, some 13, 13, .mv (.t 5)⟩,
   ⟨none, some 14, 14, .conv (.int .i64) (.t 13)⟩,
   ⟨none, some 15, 15, .bin .mul (.k (.one (.pv (.int .i64 256)))) (.t 14)⟩,
   ⟨none, some 16, 16, .bin .xor (.t 12) (.t 15)⟩,
   ⟨none, some 3, 3, .mv (.t 16)⟩])
 (.seq (.reg [⟨none, some 17, 17, .mv (.k (.one (.pv (.int .i64 0))))⟩])
 (.block 2 (.loop [3, 6, 7, 8, 17] (.seq (.reg [⟨none, some 18, 18, .bin .lss (.t 17) (.k (.one (.pv (.int .i64 8))))⟩])
 (.seq (.cond 18 (.skip) (.exit 2))
 (.seq (.block 3 (.seq (.reg [⟨none, some 19, 19, .mv (.t 3)⟩,
   ⟨none, some 20, 20, .bin .mul (.t 19) (.k (.one (.pv (.int .i64 2))))⟩,
   ⟨none, some 3, 3, .mv (.t 20)⟩])
 (.seq (.reg [⟨none, some 21, 21, .mv (.t 3)⟩,
   ⟨none, some 22, 22, .bin .gtr (.t 21) (.k (.one (.pv (.int .i64 65535))))⟩])
 (.cond 22 (.reg [⟨none, some 23, 23, .mv (.t 3)⟩,
   ⟨none, some 24, 24, .bin .xor (.t 23) (.k (.one (.pv (.int .i64 69665))))⟩,
   ⟨none, some 3, 3, .mv (.t 24)⟩]) (.skip)))))
 (.reg [⟨none, some 25, 25, .bin .add (.t 17) (.k (.one (.pv (.int .i64 1))))⟩,
   ⟨none, some 17, 17, .mv (.t 25)⟩]))))))))))
 (.norm [3, 6, 7, 8] (.reg [⟨none, some 26, 26, .bin .add (.t 8) (.k (.one (.pv (.int .i64 1))))⟩,
   ⟨none, some 8, 8, .mv (.t 26)⟩]))))))))
 (.norm [3] (.seq (.reg [⟨none, some 27, 27, .mv (.t 3)⟩,
   ⟨none, some 28, 28, .bin .and (.t 27) (.k (.one (.pv (.int .i64 65535))))⟩,
   ⟨none, some 2, 2, .mv (.t 28)⟩])
 (.ret)))))⟩
abbrev C_i_Sum (Te : Nat → List AV → Res → Prop) : Prop := ∀ (l : List UInt8) (h : l.length ≤ 2 ^ 31), Te 69 [.one (slT false 1 uR l)] ⟨[.one (iT (sum l))], [[slT false 1 uR l]]⟩
theorem r_i_Sum {Te : Nat → List AV → Res → Prop} : ∀ (l : List UInt8) (h : l.length ≤ 2 ^ 31), RunFn Te x_i_Sum [.one (slT false 1 uR l)] ⟨[.one (iT (sum l))], [[slT false 1 uR l]]⟩ := by
  intro l h
  refine ⟨by simp -implicitDefEqProofs (maxSteps := 1000000) only [x_i_Sum, go_sem], ?_⟩
  simp -implicitDefEqProofs (maxSteps := 1000000) only [x_i_Sum, go_sem]
  refine loop_of (σ := Nat × Nat) (fun x => ⟨[(3, .one (.pv (.int .i64 x.2))), (6, .one (.ro 1 (l.map uR))), (7, .one (.pv (.int .i64 l.length))), (8, .one (.pv (.int .i64 x.1)))], [], [(0, [slT false 1 uR l])]⟩) (fun x => x.1 ≤ l.length ∧ x.2 < 65536 ∧ x.2 = (l.take x.1).foldl sumByte 65535) (fun x => l.length - x.1) (0, 65535) ?_ ⟨Nat.zero_le _, by decide, rfl⟩ ?_
  · simp -implicitDefEqProofs (maxSteps := 1000000) only [go_sem]; rfl
  · rintro ⟨i, s⟩ ⟨hi, hs, he⟩
    simp only at hi hs he
    simp -implicitDefEqProofs (maxSteps := 1000000) only [go_sem]
    refine ⟨fun h => ?_, fun h => ?_⟩
    · have hi' : i < l.length := by simp only [decide_eq_true_eq] at h; omega
      have hb := l[i].toNat_lt
      have e1 : IntKind.i64.wrap (l[i].toNat : Int) = (l[i].toNat : Int) := IntWalk.i64_in _ (by omega)
      have e2 : IntKind.i64.wrap (256 * (l[i].toNat : Int)) = ((256 * l[i].toNat : Nat) : Int) := by rw [IntWalk.i64_in _ (by omega)]; rfl
      simp -implicitDefEqProofs (maxSteps := 1000000) only [go_sem, List.getElem?_eq_getElem hi', e1, e2, xor_nat s (256 * l[i].toNat) (by omega) (by omega)]
      have hx := sumX_lt l[i] hs
      have e9 : sumByte s l[i] = sumBits 8 (s ^^^ (256 * l[i].toNat)) := rfl
      generalize s ^^^ (256 * l[i].toNat) = S at *
      refine loop_of (σ := Nat × Nat) (fun x => ⟨[(3, .one (.pv (.int .i64 x.2))), (6, .one (.ro 1 (l.map uR))), (7, .one (.pv (.int .i64 l.length))), (8, .one (.pv (.int .i64 i))), (17, .one (.pv (.int .i64 x.1)))], [], [(0, [slT false 1 uR l])]⟩) (fun x => x.1 ≤ 8 ∧ x.2 = sumBits x.1 S) (fun x => 8 - x.1) (0, S) ?_ ⟨Nat.zero_le _, rfl⟩ ?_
      · simp -implicitDefEqProofs (maxSteps := 1000000) only [go_sem]; rfl
      · rintro ⟨j, v⟩ ⟨hj, hv⟩
        simp only at hj hv
        have hz : v < 65536 := by rw [hv]; exact sumBits_lt j hx
        have e3 : IntKind.i64.wrap ((v : Int) * 2) = ((2 * v : Nat) : Int) := by rw [IntWalk.i64_in _ (by omega)]; omega
        have e4 := xor_nat (2 * v) 69665 (by omega) (by decide)
        have e5 : ((69665 : Nat) : Int) = 69665 := rfl
        rw [e5] at e4
        have e6 : sumBits (j + 1) S = sumBit v := by rw [hv]; rfl
        simp -implicitDefEqProofs (maxSteps := 1000000) only [go_sem]
        refine ⟨fun h => ?_, fun h => ?_⟩
        · have hj' : j < 8 := by simp only [decide_eq_true_eq] at h; omega
          simp -implicitDefEqProofs (maxSteps := 1000000) only [go_sem, e3]
          refine ⟨fun h6 => ?_, fun h6 => ?_⟩
          · simp -implicitDefEqProofs (maxSteps := 1000000) only [go_sem, e4]
            refine ⟨(j + 1, 2 * v ^^^ 69665), by rw [IntWalk.i64_in _ (by omega)]; rfl, ⟨hj', ?_⟩, by simp only; omega⟩
            rw [e6, sumBit, if_pos (by simp only [decide_eq_true_eq] at h6; omega)]
          · refine ⟨(j + 1, 2 * v), by rw [IntWalk.i64_in _ (by omega)]; rfl, ⟨hj', ?_⟩, by simp only; omega⟩
            rw [e6, sumBit, if_neg (by simp only [decide_eq_false_iff_not] at h6; omega)]
        · have hj' : j = 8 := by simp only [decide_eq_false_iff_not] at h; omega
          subst hj'
          rw [← e9] at hv
          refine ⟨(i + 1, v), by rw [IntWalk.i64_in _ (by omega)]; rfl, ⟨hi', hz, ?_⟩, by simp only; omega⟩
          simp only
          rw [List.take_succ_eq_append_getElem hi', List.foldl_append, ← he, hv, List.foldl_cons, List.foldl_nil]
    · have hle : l.length ≤ i := by simp only [decide_eq_false_iff_not] at h; omega
      rw [List.take_of_length_le hle] at he
      have e7 := and_nat s 65535 (by omega) (by decide)
      have e8 : ((65535 : Nat) : Int) = 65535 := rfl
      rw [e8] at e7
      simp -implicitDefEqProofs (maxSteps := 1000000) only [go_sem, e7, sum, ← he]
def x_s_Sum : FnX := ⟨32, [.tmp 2],
  .seq (.reg [⟨none, some 2, 2, .mv (.k (.one (.pv (.int .i64 0))))⟩])
 (.seq (.reg [⟨none, some 3, 3, .mv (.k (.one (.pv (.int .i64 65535))))⟩])
 (.seq (.seq (.reg [⟨none, some 4, 4, .mv (.k (.one (.pv (.int .i64 0))))⟩])
 (.block 0 (.loop [0, 3, 4] (.seq (.seq (.reg [⟨none, some 6, 6, .mv (.t 4)⟩,
   ⟨none, some 7, 7, .mv (.t 0)⟩,
   ⟨none, some 8, 8, .len (.t 7)⟩,
   ⟨none, some 9, 9, .bin .lss (.t 6) (.t 8)⟩])
 (.cond 9 (.skip) (.exit 0)))
 (.seq (.block 1 (.seq (.reg [⟨none, some 12, 12, .mv (.t 3)⟩,
   ⟨none, some 13, 13, .mv (.t 0)⟩,
   ⟨none, some 14, 14, .mv (.t 4)⟩,
   ⟨none, some 15, 15, .iaddr 1 (.t 13) (.t 14)⟩,
   ⟨none, some 16, 16, .load none (.t 15)⟩,
   ⟨none, some 17, 17, .conv (.int .i64) (.t 16)⟩,
   ⟨none, some 18, 18, .bin .shl (.t 17) (.k (.one (.pv (.int .u64 8))))⟩,
   ⟨none, some 19, 19, .bin .xor (.t 12) (.t 18)⟩,
   ⟨none, some 3, 3, .mv (.t 19)⟩])
 (.seq (.reg [⟨none, some 5, 5, .mv (.k (.one (.pv (.int .i64 0))))⟩])
 (.block 2 (.loop [0, 3, 4, 5] (.seq (.seq (.reg [⟨none, some 20, 20, .mv (.t 5)⟩,
   ⟨none, some 21, 21, .bin .lss (.t 20) (.k (.one (.pv (.int .i64 8))))⟩])
 (.cond 21 (.skip) (.exit 2)))
 (.seq (.block 3 (.seq (.reg [⟨none, some 24, 24, .mv (.t 3)⟩,
   ⟨none, some 25, 25, .bin .shl (.t 24) (.k (.one (.pv (.int .u64 1))))⟩,
   ⟨none, some 3, 3, .mv (.t 25)⟩])
 (.seq (.reg [⟨none, some 26, 26, .mv (.t 3)⟩,
   ⟨none, some 27, 27, .bin .gtr (.t 26) (.k (.one (.pv (.int .i64 65535))))⟩])
 (.cond 27 (.reg [⟨none, some 28, 28, .mv (.t 3)⟩,
   ⟨none, some 29, 29, .bin .xor (.t 28) (.k (.one (.pv (.int .i64 69665))))⟩,
   ⟨none, some 3, 3, .mv (.t 29)⟩]) (.skip)))))
 (.reg [⟨none, some 22, 22, .mv (.t 5)⟩,
   ⟨none, some 23, 23, .bin .add (.t 22) (.k (.one (.pv (.int .i64 1))))⟩,
   ⟨none, some 5, 5, .mv (.t 23)⟩]))))))))
 (.norm [0, 3, 4] (.reg [⟨none, some 10, 10, .mv (.t 4)⟩,
   ⟨none, some 11, 11, .bin .add (.t 10) (.k (.one (.pv (.int .i64 1))))⟩,
   ⟨none, some 4, 4, .mv (.t 11)⟩])))))))
 (.norm [3] (.seq (.reg [⟨none, some 30, 30, .mv (.t 3)⟩,
   ⟨none, some 31, 31, .bin .and (.t 30) (.k (.one (.pv (.int .i64 65535))))⟩,
   ⟨none, some 2, 2, .mv (.t 31)⟩])
 (.ret)))))⟩
abbrev C_s_Sum (Te : Nat → List AV → Res → Prop) : Prop := ∀ (l : List UInt8) (h : l.length ≤ 2 ^ 31), Te 57 [.one (slT false 1 uR l)] ⟨[.one (iT (sum l))], [[slT false 1 uR l]]⟩
theorem r_s_Sum {Te : Nat → List AV → Res → Prop} : ∀ (l : List UInt8) (h : l.length ≤ 2 ^ 31), RunFn Te x_s_Sum [.one (slT false 1 uR l)] ⟨[.one (iT (sum l))], [[slT false 1 uR l]]⟩ := by
  intro l h
  refine ⟨by simp -implicitDefEqProofs (maxSteps := 1000000) only [x_s_Sum, go_sem], ?_⟩
  simp -implicitDefEqProofs (maxSteps := 1000000) only [x_s_Sum, go_sem]
  refine loop_of (σ := Nat × Nat) (fun x => ⟨[(0, .one (.ro 1 (l.map uR))), (3, .one (.pv (.int .i64 x.2))), (4, .one (.pv (.int .i64 x.1)))], [], [(0, [slT false 1 uR l])]⟩) (fun x => x.1 ≤ l.length ∧ x.2 < 65536 ∧ x.2 = (l.take x.1).foldl sumByte 65535) (fun x => l.length - x.1) (0, 65535) ?_ ⟨Nat.zero_le _, by decide, rfl⟩ ?_
  · simp -implicitDefEqProofs (maxSteps := 1000000) only [go_sem]; rfl
  · rintro ⟨i, s⟩ ⟨hi, hs, he⟩
    simp only at hi hs he
    simp -implicitDefEqProofs (maxSteps := 1000000) only [go_sem]
    refine ⟨fun h => ?_, fun h => ?_⟩
    · have hi' : i < l.length := by simp only [decide_eq_true_eq] at h; omega
      have hb := l[i].toNat_lt
      have e1 : IntKind.i64.wrap (l[i].toNat : Int) = (l[i].toNat : Int) := IntWalk.i64_in _ (by omega)
      have e2 : IntKind.i64.wrap ((l[i].toNat : Int) * 2 ^ 8) = ((256 * l[i].toNat : Nat) : Int) := by rw [IntWalk.i64_in _ (by omega)]; omega
      simp -implicitDefEqProofs (maxSteps := 1000000) only [go_sem, List.getElem?_eq_getElem hi', min8, e1, e2, xor_nat s (256 * l[i].toNat) (by omega) (by omega)]
      have hx := sumX_lt l[i] hs
      have e9 : sumByte s l[i] = sumBits 8 (s ^^^ (256 * l[i].toNat)) := rfl
      generalize s ^^^ (256 * l[i].toNat) = S at *
      refine loop_of (σ := Nat × Nat) (fun x => ⟨[(0, .one (.ro 1 (l.map uR))), (3, .one (.pv (.int .i64 x.2))), (4, .one (.pv (.int .i64 i))), (5, .one (.pv (.int .i64 x.1)))], [], [(0, [slT false 1 uR l])]⟩) (fun x => x.1 ≤ 8 ∧ x.2 = sumBits x.1 S) (fun x => 8 - x.1) (0, S) ?_ ⟨Nat.zero_le _, rfl⟩ ?_
      · simp -implicitDefEqProofs (maxSteps := 1000000) only [go_sem]; rfl
      · rintro ⟨j, v⟩ ⟨hj, hv⟩
        simp only at hj hv
        have hz : v < 65536 := by rw [hv]; exact sumBits_lt j hx
        have e3 : IntKind.i64.wrap ((v : Int) * 2 ^ 1) = ((2 * v : Nat) : Int) := by rw [IntWalk.i64_in _ (by omega)]; omega
        have e4 := xor_nat (2 * v) 69665 (by omega) (by decide)
        have e5 : ((69665 : Nat) : Int) = 69665 := rfl
        rw [e5] at e4
        have e6 : sumBits (j + 1) S = sumBit v := by rw [hv]; rfl
        simp -implicitDefEqProofs (maxSteps := 1000000) only [go_sem]
        refine ⟨fun h => ?_, fun h => ?_⟩
        · have hj' : j < 8 := by simp only [decide_eq_true_eq] at h; omega
          simp -implicitDefEqProofs (maxSteps := 1000000) only [go_sem, show Nat.min 1 64 = 1 from rfl, e3]
          refine ⟨fun h6 => ?_, fun h6 => ?_⟩
          · simp -implicitDefEqProofs (maxSteps := 1000000) only [go_sem, e4]
            refine ⟨(j + 1, 2 * v ^^^ 69665), by rw [IntWalk.i64_in _ (by omega)]; rfl, ⟨hj', ?_⟩, by simp only; omega⟩
            rw [e6, sumBit, if_pos (by simp only [decide_eq_true_eq] at h6; omega)]
          · refine ⟨(j + 1, 2 * v), by rw [IntWalk.i64_in _ (by omega)]; rfl, ⟨hj', ?_⟩, by simp only; omega⟩
            rw [e6, sumBit, if_neg (by simp only [decide_eq_false_iff_not] at h6; omega)]
        · have hj' : j = 8 := by simp only [decide_eq_false_iff_not] at h; omega
          subst hj'
          rw [← e9] at hv
          refine ⟨(i + 1, v), by rw [IntWalk.i64_in _ (by omega)]; rfl, ⟨hi', hz, ?_⟩, by simp only; omega⟩
          simp only
          rw [List.take_succ_eq_append_getElem hi', List.foldl_append, ← he, hv, List.foldl_cons, List.foldl_nil]
    · have hle : l.length ≤ i := by simp only [decide_eq_false_iff_not] at h; omega
      rw [List.take_of_length_le hle] at he
      have e7 := and_nat s 65535 (by omega) (by decide)
      have e8 : ((65535 : Nat) : Int) = 65535 := rfl
      rw [e8] at e7
      simp -implicitDefEqProofs (maxSteps := 1000000) only [go_sem, e7, sum, ← he]
def x_i_PutW : FnX := ⟨16, [.tmp 4],
  .seq (.reg [⟨none, some 4, 4, .mv (.k (.one (.nils 1)))⟩])
 (.seq (.reg [⟨none, some 5, 5, .mv (.t 0)⟩,
   ⟨none, some 6, 6, .mv (.t 1)⟩,
   ⟨none, some 7, 7, .bin .shr (.t 6) (.k (.one (.pv (.int .u64 8))))⟩,
   ⟨none, some 8, 8, .bin .and (.t 7) (.k (.one (.pv (.int .i64 255))))⟩,
   ⟨none, some 9, 9, .conv (.int .u8) (.t 8)⟩,
   ⟨none, some 10, 10, .mv (.t 1)⟩,
   ⟨none, some 11, 11, .bin .and (.t 10) (.k (.one (.pv (.int .i64 255))))⟩,
   ⟨none, some 12, 12, .conv (.int .u8) (.t 11)⟩,
   ⟨none, some 13, 13, .bslice 1 [(.t 9), (.t 12)]⟩,
   ⟨none, some 14, 14, .bslice 1 [(.t 5), (.t 13)]⟩,
   ⟨none, some 15, 15, .call 85 [0] [(.t 14)]⟩,
   ⟨none, some 4, 4, .mv (.t 15)⟩])
 (.ret))⟩
abbrev C_i_PutW (Te : Nat → List AV → Res → Prop) : Prop := ∀ (b : List UInt8) (n : Int) (h : b.length ≤ 2 ^ 30), Te 68 [.one (slT false 1 uR b), .one (iT n)] ⟨[.one (slT true 1 uR (putW b n))], [[slT false 1 uR b], [iT n]]⟩
theorem r_i_PutW {Te : Nat → List AV → Res → Prop} (c_i_joined : C_i_joined Te) : ∀ (b : List UInt8) (n : Int) (h : b.length ≤ 2 ^ 30), RunFn Te x_i_PutW [.one (slT false 1 uR b), .one (iT n)] ⟨[.one (slT true 1 uR (putW b n))], [[slT false 1 uR b], [iT n]]⟩ := by
  intro b n h
  refine ⟨by simp -implicitDefEqProofs (maxSteps := 1000000) only [x_i_PutW, go_sem], ?_⟩
  have e1 : mkU (n.fdiv (2 ^ 8)) = hiB n := rfl
  simp -implicitDefEqProofs (maxSteps := 1000000) only [x_i_PutW, go_sem, min8, mkU_wrap, and255, e1]
  refine .of (c_i_joined [b, [hiB n, mkU n]] (by simp; omega) (by simp)) ?_
  have e2 : [b, [hiB n, mkU n]].flatten = putW b n := by simp [putW]
  simp -implicitDefEqProofs (maxSteps := 1000000) only [go_sem, e2]
def x_s_PutW : FnX := ⟨17, [.tmp 4],
  .seq (.reg [⟨none, some 4, 4, .mv (.k (.one (.nils 1)))⟩])
 (.seq (.reg [⟨none, some 6, 6, .bslice 1 []⟩,
   ⟨none, some 7, 7, .mv (.t 0)⟩,
   ⟨none, some 8, 8, .app 1 1 (.t 6) (.t 7)⟩,
   ⟨none, some 5, 5, .mv (.t 8)⟩])
 (.seq (.reg [⟨none, some 9, 9, .mv (.t 5)⟩,
   ⟨none, some 10, 10, .mv (.t 1)⟩,
   ⟨none, some 11, 11, .bin .shr (.t 10) (.k (.one (.pv (.int .u64 8))))⟩,
   ⟨none, some 12, 12, .conv (.int .u8) (.t 11)⟩,
   ⟨none, some 13, 13, .mv (.t 1)⟩,
   ⟨none, some 14, 14, .conv (.int .u8) (.t 13)⟩,
   ⟨none, some 15, 15, .bslice 1 [(.t 12), (.t 14)]⟩,
   ⟨none, some 16, 16, .app 1 1 (.t 9) (.t 15)⟩,
   ⟨none, some 4, 4, .mv (.t 16)⟩])
 (.ret)))⟩
abbrev C_s_PutW (Te : Nat → List AV → Res → Prop) : Prop := ∀ (b : List UInt8) (n : Int) (h : b.length ≤ 2 ^ 30), Te 75 [.one (slT false 1 uR b), .one (iT n)] ⟨[.one (slT true 1 uR (putW b n))], [[slT false 1 uR b], [iT n]]⟩
theorem r_s_PutW {Te : Nat → List AV → Res → Prop} : ∀ (b : List UInt8) (n : Int) (h : b.length ≤ 2 ^ 30), RunFn Te x_s_PutW [.one (slT false 1 uR b), .one (iT n)] ⟨[.one (slT true 1 uR (putW b n))], [[slT false 1 uR b], [iT n]]⟩ := by
  intro b n h
  refine ⟨by simp -implicitDefEqProofs (maxSteps := 1000000) only [x_s_PutW, go_sem], ?_⟩
  have e1 : mkU (n.fdiv (2 ^ 8)) = hiB n := rfl
  have e2 : List.take (b.length + 2) (List.map uR b ++ [[uT (hiB n)], [uT (mkU n)]]) = List.map uR (putW b n) := by rw [List.take_of_length_le (by simp)]; simp [putW]
  simp -implicitDefEqProofs (maxSteps := 1000000) only [x_s_PutW, go_sem, min8, mkU_wrap, e1, e2]
  exact ⟨⟨decide_eq_true (by omega), decide_eq_true (by omega)⟩, decide_eq_true (by omega), decide_eq_true (by omega)⟩
theorem putW_len (b : List UInt8) (n : Int) : (putW b n).length = b.length + 2 := by simp only [putW, List.length_append]; rfl
theorem putText_len (b : List UInt8) (t : ByteArray) : (putText b t).length ≤ b.length + 62 := by
  unfold putText
  split
  · omega
  · have : t.data.toList.length = t.size := by rw [Array.length_toList]; rfl
    rw [List.length_append, putW_len]
    omega
theorem flat1 {α : Type} (a : List α) : [a].flatten = a := by rw [List.flatten_cons, List.flatten_nil, List.append_nil]
theorem flat2 {α : Type} (a b : List α) : [a, b].flatten = a ++ b := by rw [List.flatten_cons, flat1]
def x_s_PutText : FnX := ⟨17, [.tmp 4],
  .seq (.reg [⟨none, some 4, 4, .mv (.k (.one (.nils 1)))⟩])
 (.seq (.seq (.reg [⟨none, some 5, 5, .mv (.t 1)⟩,
   ⟨none, some 6, 6, .slen (.t 5)⟩,
   ⟨none, some 7, 7, .bin .gtr (.t 6) (.k (.one (.pv (.int .i64 60))))⟩])
 (.cond 7 (.seq (.reg [⟨none, some 8, 8, .bslice 1 []⟩,
   ⟨none, some 9, 9, .mv (.t 0)⟩,
   ⟨none, some 10, 10, .app 1 1 (.t 8) (.t 9)⟩,
   ⟨none, some 4, 4, .mv (.t 10)⟩])
 (.ret)) (.skip)))
 (.seq (.reg [⟨none, some 11, 11, .mv (.t 0)⟩,
   ⟨none, some 12, 12, .mv (.t 1)⟩,
   ⟨none, some 13, 13, .slen (.t 12)⟩,
   ⟨none, some 14, 14, .call 75 [0, 0] [(.t 11), (.t 13)]⟩,
   ⟨none, some 15, 15, .mv (.t 1)⟩,
   ⟨none, some 16, 16, .apps 1 1 (.t 14) (.t 15)⟩,
   ⟨none, some 4, 4, .mv (.t 16)⟩])
 (.ret)))⟩
abbrev C_s_PutText (Te : Nat → List AV → Res → Prop) : Prop := ∀ (b : List UInt8) (t : ByteArray) (h : b.length ≤ 2 ^ 29) (ht : t.size ≤ 2 ^ 48), Te 86 [.one (slT false 1 uR b), .one (sT t)] ⟨[.one (slT true 1 uR (putText b t))], [[slT false 1 uR b], [sT t]]⟩
theorem r_s_PutText {Te : Nat → List AV → Res → Prop} (c_s_PutW : C_s_PutW Te) : ∀ (b : List UInt8) (t : ByteArray) (h : b.length ≤ 2 ^ 29) (ht : t.size ≤ 2 ^ 48), RunFn Te x_s_PutText [.one (slT false 1 uR b), .one (sT t)] ⟨[.one (slT true 1 uR (putText b t))], [[slT false 1 uR b], [sT t]]⟩ := by
  intro b t h ht
  refine ⟨by simp -implicitDefEqProofs (maxSteps := 1000000) only [x_s_PutText, go_sem], ?_⟩
  simp -implicitDefEqProofs (maxSteps := 1000000) only [x_s_PutText, go_sem]
  refine ⟨fun q => ?_, fun q => ?_⟩
  · have q' : (t.size : Int) > 60 := by simpa using q
    simp only [putText, if_pos q']
    exact ⟨⟨decide_eq_true (by omega), decide_eq_true (by omega)⟩, trivial⟩
  · have q' : ¬ ((t.size : Int) > 60) := by simpa using q
    have q3 : t.data.toList.length = t.size := by rw [Array.length_toList]; rfl
    have el := putW_len b t.size
    have e1 : List.take (b.length + 2) (List.map uR (putW b t.size)) = List.map uR (putW b t.size) := List.take_of_length_le (by rw [List.length_map, el]; exact Nat.le_refl _)
    have e2 : List.take (b.length + 2 + t.data.toList.length) (List.map uR (putW b t.size) ++ List.map uR t.data.toList) = List.map uR (putW b t.size ++ t.data.toList) := by
      rw [List.take_of_length_le (by rw [List.length_append, List.length_map, List.length_map, el]; exact Nat.le_refl _), List.map_append]
    simp only [putText, if_neg q']
    refine .of (c_s_PutW b _ (by omega)) ?_
    simp -implicitDefEqProofs (maxSteps := 1000000) only [go_sem, ofBytes_eq, el, e1, e2]
    repeat (first | refine ⟨rfl, ?_⟩ | refine ⟨by decide, ?_⟩ | refine ⟨decide_eq_true (by omega), ?_⟩ | refine ⟨⟨decide_eq_true (by omega), decide_eq_true (by omega)⟩, ?_⟩)
    exact decide_eq_true (Nat.le_refl _)
def x_i_PutText : FnX := ⟨19, [.tmp 4],
  .seq (.reg [⟨none, some 4, 4, .mv (.k (.one (.nils 1)))⟩])
 (.seq (.seq (.reg [⟨none, some 5, 5, .mv (.t 1)⟩,
   ⟨none, some 6, 6, .slen (.t 5)⟩,
   ⟨none, some 7, 7, .bin .gtr (.t 6) (.k (.one (.pv (.int .i64 60))))⟩])
 (.cond 7 (.seq (.reg [⟨none, some 8, 8, .mv (.t 0)⟩,
   ⟨none, some 9, 9, .bslice 1 [(.t 8)]⟩,
   ⟨none, some 10, 10, .call 85 [0] [(.t 9)]⟩,
   ⟨none, some 4, 4, .mv (.t 10)⟩])
 (.ret)) (.skip)))
 (.seq (.reg [⟨none, some 11, 11, .mv (.t 0)⟩,
   ⟨none, some 12, 12, .mv (.t 1)⟩,
   ⟨none, some 13, 13, .slen (.t 12)⟩,
   ⟨none, some 14, 14, .call 68 [0, 0] [(.t 11), (.t 13)]⟩,
   ⟨none, some 15, 15, .mv (.t 1)⟩,
   ⟨none, some 16, 16, .conv .s2b (.t 15)⟩,
   ⟨none, some 17, 17, .bslice 1 [(.t 14), (.t 16)]⟩,
   ⟨none, some 18, 18, .call 85 [0] [(.t 17)]⟩,
   ⟨none, some 4, 4, .mv (.t 18)⟩])
 (.ret)))⟩
abbrev C_i_PutText (Te : Nat → List AV → Res → Prop) : Prop := ∀ (b : List UInt8) (t : ByteArray) (h : b.length ≤ 2 ^ 29) (ht : t.size ≤ 2 ^ 48), Te 67 [.one (slT false 1 uR b), .one (sT t)] ⟨[.one (slT true 1 uR (putText b t))], [[slT false 1 uR b], [sT t]]⟩
theorem r_i_PutText {Te : Nat → List AV → Res → Prop} (c_i_joined : C_i_joined Te) (c_i_PutW : C_i_PutW Te) : ∀ (b : List UInt8) (t : ByteArray) (h : b.length ≤ 2 ^ 29) (ht : t.size ≤ 2 ^ 48), RunFn Te x_i_PutText [.one (slT false 1 uR b), .one (sT t)] ⟨[.one (slT true 1 uR (putText b t))], [[slT false 1 uR b], [sT t]]⟩ := by
  intro b t h ht
  refine ⟨by simp -implicitDefEqProofs (maxSteps := 1000000) only [x_i_PutText, go_sem], ?_⟩
  simp -implicitDefEqProofs (maxSteps := 1000000) only [x_i_PutText, go_sem]
  refine ⟨fun q => ?_, fun q => ?_⟩
  · have q' : (t.size : Int) > 60 := by simpa using q
    simp only [putText, if_pos q']
    refine .of (c_i_joined [b] (by rw [flat1]; omega) (by show 1 ≤ 2 ^ 31; decide)) ?_
    simp -implicitDefEqProofs (maxSteps := 1000000) only [go_sem, flat1]
  · have q' : ¬ ((t.size : Int) > 60) := by simpa using q
    have q3 : t.data.toList.length = t.size := by rw [Array.length_toList]; rfl
    have el := putW_len b t.size
    simp only [putText, if_neg q']
    refine .of (c_i_PutW b _ (by omega)) ?_
    simp -implicitDefEqProofs (maxSteps := 1000000) only [go_sem, ofBytes_eq]
    repeat (first | refine ⟨rfl, ?_⟩ | refine ⟨by decide, ?_⟩ | refine ⟨decide_eq_true (by omega), ?_⟩ | refine ⟨⟨decide_eq_true (by omega), decide_eq_true (by omega)⟩, ?_⟩)
    refine .of (c_i_joined [putW b t.size, t.data.toList] (by rw [flat2, List.length_append, el]; omega) (by show 2 ≤ 2 ^ 31; decide)) ?_
    simp -implicitDefEqProofs (maxSteps := 1000000) only [go_sem, flat2]
    refine ⟨decide_eq_true (Nat.le_refl _), ?_⟩
    rw [List.take_of_length_le (by rw [List.length_map, List.length_append]; exact Nat.le_refl _)]
def msgBytes (m : Msg) : List UInt8 := putText (putText (putW [mkU m.Kind, mkU m.From, mkU m.To, mkU m.N, mkU m.Code] m.Seq) m.Key) m.Text
def putMsg (m : Msg) : List UInt8 := if m.ok = true then putW (msgBytes m) (sum (msgBytes m)) else []
theorem msgBytes_len (m : Msg) : (msgBytes m).length ≤ 200 := by
  have h1 := putText_len (putText (putW [mkU m.Kind, mkU m.From, mkU m.To, mkU m.N, mkU m.Code] m.Seq) m.Key) m.Text
  have h2 := putText_len (putW [mkU m.Kind, mkU m.From, mkU m.To, mkU m.N, mkU m.Code] m.Seq) m.Key
  have h3 := putW_len [mkU m.Kind, mkU m.From, mkU m.To, mkU m.N, mkU m.Code] m.Seq
  simp only [List.length_cons, List.length_nil] at h3
  unfold msgBytes
  omega
theorem putMsg_len (m : Msg) : (putMsg m).length ≤ 202 := by
  unfold putMsg
  split
  · rw [putW_len]; have := msgBytes_len m; omega
  · exact Nat.zero_le _
def x_i_PutMsg : FnX := ⟨37, [.tmp 2],
  .seq (.reg [⟨none, some 1, 1, .box (.t 0)⟩,
   ⟨none, some 2, 2, .mv (.k (.one (.nils 1)))⟩])
 (.seq (.seq (.reg [⟨none, some 4, 4, .load (some 8) (.t 1)⟩,
   ⟨none, some 5, 5, .call 15 [0] [(.t 4)]⟩,
   ⟨none, some 6, 6, .not (.t 5)⟩])
 (.cond 6 (.seq (.reg [⟨none, some 2, 2, .mv (.k (.one (.nils 1)))⟩])
 (.ret)) (.skip)))
 (.seq (.reg [⟨none, some 7, 7, .faddr (.t 1) 0⟩,
   ⟨none, some 8, 8, .load none (.t 7)⟩,
   ⟨none, some 9, 9, .conv (.int .u8) (.t 8)⟩,
   ⟨none, some 10, 10, .faddr (.t 1) 1⟩,
   ⟨none, some 11, 11, .load none (.t 10)⟩,
   ⟨none, some 12, 12, .conv (.int .u8) (.t 11)⟩,
   ⟨none, some 13, 13, .faddr (.t 1) 2⟩,
   ⟨none, some 14, 14, .load none (.t 13)⟩,
   ⟨none, some 15, 15, .conv (.int .u8) (.t 14)⟩,
   ⟨none, some 16, 16, .faddr (.t 1) 6⟩,
   ⟨none, some 17, 17, .load none (.t 16)⟩,
   ⟨none, some 18, 18, .conv (.int .u8) (.t 17)⟩,
   ⟨none, some 19, 19, .faddr (.t 1) 7⟩,
   ⟨none, some 20, 20, .load none (.t 19)⟩,
   ⟨none, some 21, 21, .conv (.int .u8) (.t 20)⟩,
   ⟨none, some 22, 22, .bslice 1 [(.t 9), (.t 12), (.t 15), (.t 18), (.t 21)]⟩,
   ⟨none, some 3, 3, .mv (.t 22)⟩])
 (.seq (.draw [⟨none, some 23, 23, .mv (.t 3)⟩,
   ⟨none, some 24, 24, .faddr (.t 1) 3⟩,
   ⟨none, some 25, 25, .load none (.t 24)⟩,
   ⟨none, some 26, 26, .call 68 [0, 0] [(.t 23), (.t 25)]⟩,
   ⟨none, some 27, 27, .faddr (.t 1) 4⟩,
   ⟨none, some 28, 28, .load none (.t 27)⟩,
   ⟨none, some 29, 29, .call 67 [0, 0] [(.t 26), (.t 28)]⟩,
   ⟨none, some 30, 30, .faddr (.t 1) 5⟩,
   ⟨none, some 31, 31, .load none (.t 30)⟩,
   ⟨none, some 32, 32, .call 67 [0, 0] [(.t 29), (.t 31)]⟩,
   ⟨none, some 3, 3, .mv (.t 32)⟩] [[], [], [1], [0, 2], [], [4], [3, 5, 3], [], [7], [6, 8, 6], [9, 9, 0, 1, 2, 3, 4, 5, 6, 7, 8, 9]])
 (.seq (.reg [⟨none, some 33, 33, .mv (.t 3)⟩,
   ⟨none, some 34, 34, .mv (.t 3)⟩,
   ⟨none, some 35, 35, .call 69 [0] [(.t 34)]⟩,
   ⟨none, some 36, 36, .call 68 [0, 0] [(.t 33), (.t 35)]⟩,
   ⟨none, some 2, 2, .mv (.t 36)⟩])
 (.ret)))))⟩
abbrev C_i_PutMsg (Te : Nat → List AV → Res → Prop) : Prop := ∀ (m : Msg) (h : m.In (2 ^ 48)), Te 40 [.agg m.row] ⟨[.one (slT true 1 uR (putMsg m))], [m.row]⟩
theorem r_i_PutMsg {Te : Nat → List AV → Res → Prop} (c_i_MsgOk : C_i_MsgOk Te) (c_i_PutW : C_i_PutW Te) (c_i_PutText : C_i_PutText Te) (c_i_Sum : C_i_Sum Te) : ∀ (m : Msg) (h : m.In (2 ^ 48)), RunFn Te x_i_PutMsg [.agg m.row] ⟨[.one (slT true 1 uR (putMsg m))], [m.row]⟩ := by
  intro m h
  refine ⟨by simp -implicitDefEqProofs (maxSteps := 1000000) only [x_i_PutMsg, go_sem], ?_⟩
  obtain ⟨hk, ht⟩ := h
  simp -implicitDefEqProofs (maxSteps := 1000000) only [x_i_PutMsg, go_sem]
  refine .of (c_i_MsgOk _) ?_
  cases hm : m.ok
  · simp -implicitDefEqProofs (maxSteps := 1000000) only [go_sem, putMsg, hm, if_false]
    rfl
  · simp -implicitDefEqProofs (maxSteps := 1000000) only [go_sem, putMsg, hm, if_true, mkU_wrap]
    refine .of (c_i_PutW [mkU m.Kind, mkU m.From, mkU m.To, mkU m.N, mkU m.Code] m.Seq (by show 5 ≤ 2 ^ 30; decide)) ?_
    simp -implicitDefEqProofs (maxSteps := 1000000) only [go_sem]
    have h2 := putText_len (putW [mkU m.Kind, mkU m.From, mkU m.To, mkU m.N, mkU m.Code] m.Seq) m.Key
    have h3 := putW_len [mkU m.Kind, mkU m.From, mkU m.To, mkU m.N, mkU m.Code] m.Seq
    have h4 : (putW [mkU m.Kind, mkU m.From, mkU m.To, mkU m.N, mkU m.Code] m.Seq).length = 7 := h3
    refine .of (c_i_PutText (putW [mkU m.Kind, mkU m.From, mkU m.To, mkU m.N, mkU m.Code] m.Seq) m.Key (by omega) hk) ?_
    simp -implicitDefEqProofs (maxSteps := 1000000) only [go_sem]
    refine .of (c_i_PutText (putText (putW [mkU m.Kind, mkU m.From, mkU m.To, mkU m.N, mkU m.Code] m.Seq) m.Key) m.Text (by omega) ht) ?_
    have h5 := msgBytes_len m
    have e : putText (putText (putW [mkU m.Kind, mkU m.From, mkU m.To, mkU m.N, mkU m.Code] m.Seq) m.Key) m.Text = msgBytes m := rfl
    simp -implicitDefEqProofs (maxSteps := 1000000) only [go_sem, e]
    repeat (first | refine ⟨rfl, ?_⟩ | refine ⟨by decide, ?_⟩ | refine ⟨decide_eq_true (by omega), ?_⟩ | refine ⟨⟨decide_eq_true (by omega), decide_eq_true (by omega)⟩, ?_⟩)
    refine .of (c_i_Sum (msgBytes m) (by omega)) ?_
    simp -implicitDefEqProofs (maxSteps := 1000000) only [go_sem]
    refine .of (c_i_PutW (msgBytes m) _ (by omega)) ?_
    simp -implicitDefEqProofs (maxSteps := 1000000) only [go_sem]
def x_s_PutMsg : FnX := ⟨38, [.tmp 2],
  .seq (.reg [⟨none, some 1, 1, .box (.t 0)⟩,
   ⟨none, some 2, 2, .mv (.k (.one (.nils 1)))⟩])
 (.seq (.seq (.reg [⟨none, some 4, 4, .load (some 8) (.t 1)⟩,
   ⟨none, some 5, 5, .call 45 [0] [(.t 4)]⟩,
   ⟨none, some 6, 6, .not (.t 5)⟩])
 (.cond 6 (.seq (.reg [⟨none, some 7, 7, .bslice 1 []⟩,
   ⟨none, some 2, 2, .mv (.t 7)⟩])
 (.ret)) (.skip)))
 (.seq (.reg [⟨none, some 8, 8, .faddr (.t 1) 0⟩,
   ⟨none, some 9, 9, .load none (.t 8)⟩,
   ⟨none, some 10, 10, .conv (.int .u8) (.t 9)⟩,
   ⟨none, some 11, 11, .faddr (.t 1) 1⟩,
   ⟨none, some 12, 12, .load none (.t 11)⟩,
   ⟨none, some 13, 13, .conv (.int .u8) (.t 12)⟩,
   ⟨none, some 14, 14, .faddr (.t 1) 2⟩,
   ⟨none, some 15, 15, .load none (.t 14)⟩,
   ⟨none, some 16, 16, .conv (.int .u8) (.t 15)⟩,
   ⟨none, some 17, 17, .faddr (.t 1) 6⟩,
   ⟨none, some 18, 18, .load none (.t 17)⟩,
   ⟨none, some 19, 19, .conv (.int .u8) (.t 18)⟩,
   ⟨none, some 20, 20, .faddr (.t 1) 7⟩,
   ⟨none, some 21, 21, .load none (.t 20)⟩,
   ⟨none, some 22, 22, .conv (.int .u8) (.t 21)⟩,
   ⟨none, some 23, 23, .bslice 1 [(.t 10), (.t 13), (.t 16), (.t 19), (.t 22)]⟩,
   ⟨none, some 3, 3, .mv (.t 23)⟩])
 (.seq (.draw [⟨none, some 24, 24, .mv (.t 3)⟩,
   ⟨none, some 25, 25, .faddr (.t 1) 3⟩,
   ⟨none, some 26, 26, .load none (.t 25)⟩,
   ⟨none, some 27, 27, .call 75 [0, 0] [(.t 24), (.t 26)]⟩,
   ⟨none, some 28, 28, .faddr (.t 1) 4⟩,
   ⟨none, some 29, 29, .load none (.t 28)⟩,
   ⟨none, some 30, 30, .call 86 [0, 0] [(.t 27), (.t 29)]⟩,
   ⟨none, some 31, 31, .faddr (.t 1) 5⟩,
   ⟨none, some 32, 32, .load none (.t 31)⟩,
   ⟨none, some 33, 33, .call 86 [0, 0] [(.t 30), (.t 32)]⟩,
   ⟨none, some 3, 3, .mv (.t 33)⟩] [[], [], [1], [0, 2], [], [4], [3, 5, 3], [], [7], [6, 8, 6], [9, 9, 0, 1, 2, 3, 4, 5, 6, 7, 8, 9]])
 (.seq (.reg [⟨none, some 34, 34, .mv (.t 3)⟩,
   ⟨none, some 35, 35, .mv (.t 3)⟩,
   ⟨none, some 36, 36, .call 57 [0] [(.t 35)]⟩,
   ⟨none, some 37, 37, .call 75 [0, 0] [(.t 34), (.t 36)]⟩,
   ⟨none, some 2, 2, .mv (.t 37)⟩])
 (.ret)))))⟩
abbrev C_s_PutMsg (Te : Nat → List AV → Res → Prop) : Prop := ∀ (m : Msg) (h : m.In (2 ^ 48)), Te 71 [.agg m.row] ⟨[.one (slT true 1 uR (putMsg m))], [m.row]⟩
theorem r_s_PutMsg {Te : Nat → List AV → Res → Prop} (c_s_MsgOk : C_s_MsgOk Te) (c_s_PutW : C_s_PutW Te) (c_s_PutText : C_s_PutText Te) (c_s_Sum : C_s_Sum Te) : ∀ (m : Msg) (h : m.In (2 ^ 48)), RunFn Te x_s_PutMsg [.agg m.row] ⟨[.one (slT true 1 uR (putMsg m))], [m.row]⟩ := by
  intro m h
  refine ⟨by simp -implicitDefEqProofs (maxSteps := 1000000) only [x_s_PutMsg, go_sem], ?_⟩
  obtain ⟨hk, ht⟩ := h
  simp -implicitDefEqProofs (maxSteps := 1000000) only [x_s_PutMsg, go_sem]
  refine .of (c_s_MsgOk _) ?_
  cases hm : m.ok
  · simp -implicitDefEqProofs (maxSteps := 1000000) only [go_sem, putMsg, hm, if_false]
    rfl
  · simp -implicitDefEqProofs (maxSteps := 1000000) only [go_sem, putMsg, hm, if_true, mkU_wrap]
    refine .of (c_s_PutW [mkU m.Kind, mkU m.From, mkU m.To, mkU m.N, mkU m.Code] m.Seq (by show 5 ≤ 2 ^ 30; decide)) ?_
    simp -implicitDefEqProofs (maxSteps := 1000000) only [go_sem]
    have h2 := putText_len (putW [mkU m.Kind, mkU m.From, mkU m.To, mkU m.N, mkU m.Code] m.Seq) m.Key
    have h3 := putW_len [mkU m.Kind, mkU m.From, mkU m.To, mkU m.N, mkU m.Code] m.Seq
    have h4 : (putW [mkU m.Kind, mkU m.From, mkU m.To, mkU m.N, mkU m.Code] m.Seq).length = 7 := h3
    refine .of (c_s_PutText (putW [mkU m.Kind, mkU m.From, mkU m.To, mkU m.N, mkU m.Code] m.Seq) m.Key (by omega) hk) ?_
    simp -implicitDefEqProofs (maxSteps := 1000000) only [go_sem]
    refine .of (c_s_PutText (putText (putW [mkU m.Kind, mkU m.From, mkU m.To, mkU m.N, mkU m.Code] m.Seq) m.Key) m.Text (by omega) ht) ?_
    have h5 := msgBytes_len m
    have e : putText (putText (putW [mkU m.Kind, mkU m.From, mkU m.To, mkU m.N, mkU m.Code] m.Seq) m.Key) m.Text = msgBytes m := rfl
    simp -implicitDefEqProofs (maxSteps := 1000000) only [go_sem, e]
    repeat (first | refine ⟨rfl, ?_⟩ | refine ⟨by decide, ?_⟩ | refine ⟨decide_eq_true (by omega), ?_⟩ | refine ⟨⟨decide_eq_true (by omega), decide_eq_true (by omega)⟩, ?_⟩)
    refine .of (c_s_Sum (msgBytes m) (by omega)) ?_
    simp -implicitDefEqProofs (maxSteps := 1000000) only [go_sem]
    refine .of (c_s_PutW (msgBytes m) _ (by omega)) ?_
    simp -implicitDefEqProofs (maxSteps := 1000000) only [go_sem]
end Go.X

/- Ka -/
namespace Go.X
set_option maxRecDepth 100000
set_option maxHeartbeats 8000000
def byteZ (l : List UInt8) (k : Nat) : Nat := (l.getD k 0).toNat
theorem byteZ_lt (l : List UInt8) (k : Nat) : byteZ l k < 256 := (l.getD k 0).toNat_lt
theorem byteZ_get {l : List UInt8} {k : Nat} (h : k < l.length) : l[k].toNat = byteZ l k := by
  simp only [byteZ, List.getD_eq_getElem?_getD, List.getElem?_eq_getElem h, Option.getD_some]
def getW (b : List UInt8) (i : Int) : Int × Int × Bool := if win i 0 ((b.length : Int) - 2) = true then (((256 * byteZ b i.toNat + byteZ b (i.toNat + 1) : Nat) : Int), i + 2, true) else (0, 0, false)
theorem or_w (a x : Nat) (ha : a < 256) (hx : x < 256) : orK .i64 ((256 * a : Nat) : Int) (x : Int) = ((256 * a + x : Nat) : Int) := by
  rw [or_nat _ _ (by omega) (by omega), show 256 * a = 2 ^ 8 * a from rfl, Nat.two_pow_add_eq_or_of_lt (i := 8) (by omega)]
theorem getW_no {b : List UInt8} {i : Int} (h : win i 0 ((b.length : Int) - 2) = false) : getW b i = (0, 0, false) := by
  unfold getW
  rw [h]
  rfl
theorem getW_yes {b : List UInt8} {i : Int} (h : win i 0 ((b.length : Int) - 2) = true) : getW b i = (((256 * byteZ b i.toNat + byteZ b (i.toNat + 1) : Nat) : Int), i + 2, true) := by
  unfold getW
  rw [h]
  rfl
theorem shl8 {a : Nat} (h : a < 256) : IntKind.i64.wrap ((a : Int) * 2 ^ 8) = ((256 * a : Nat) : Int) := by rw [IntWalk.i64_in _ (by omega)]; omega
theorem wrapB {a : Nat} (h : a < 256) : IntKind.i64.wrap (a : Int) = (a : Int) := IntWalk.i64_in _ (by omega)
def x_i_GetW : FnX := ⟨31, [.tmp 4, .tmp 5, .tmp 6],
  .seq (.reg [⟨none, some 4, 4, .mv (.k (.one (.pv (.int .i64 0))))⟩,
   ⟨none, some 5, 5, .mv (.k (.one (.pv (.int .i64 0))))⟩,
   ⟨none, some 6, 6, .mv (.k (.one (.pv (.bool false))))⟩])
 (.seq (.seq (.reg [⟨none, some 7, 7, .mv (.t 1)⟩,
   ⟨none, some 8, 8, .bin .lss (.t 7) (.k (.one (.pv (.int .i64 0))))⟩,
   ⟨none, some 9, 9, .mv (.t 8)⟩,
   ⟨(some (9, false)), some 10, 10, .mv (.t 1)⟩,
   ⟨(some (9, false)), some 11, 11, .mv (.t 0)⟩,
   ⟨(some (9, false)), some 12, 12, .len (.t 11)⟩,
   ⟨(some (9, false)), some 13, 13, .bin .sub (.t 12) (.k (.one (.pv (.int .i64 2))))⟩,
   ⟨(some (9, false)), some 14, 14, .bin .gtr (.t 10) (.t 13)⟩,
   ⟨none, some 15, 15, .pick (.t 9) (.k (.one (.pv (.bool true)))) (.t 14)⟩])
 (.cond 15 (.seq (.reg [⟨none, some 4, 4, .mv (.k (.one (.pv (.int .i64 0))))⟩,
   ⟨none, some 5, 5, .mv (.k (.one (.pv (.int .i64 0))))⟩,
   ⟨none, some 6, 6, .mv (.k (.one (.pv (.bool false))))⟩])
 (.ret)) (.skip)))
 (.seq (.draw [⟨none, some 16, 16, .mv (.t 0)⟩,
   ⟨none, some 17, 17, .mv (.t 1)⟩,
   ⟨none, some 18, 18, .iaddr 1 (.t 16) (.t 17)⟩,
   ⟨none, some 19, 19, .load none (.t 18)⟩,
   ⟨none, some 20, 20, .conv (.int .i64) (.t 19)⟩,
   ⟨none, some 21, 21, .bin .shl (.t 20) (.k (.one (.pv (.int .u64 8))))⟩,
   ⟨none, some 22, 22, .mv (.t 0)⟩,
   ⟨none, some 23, 23, .mv (.t 1)⟩,
   ⟨none, some 24, 24, .bin .add (.t 23) (.k (.one (.pv (.int .i64 1))))⟩,
   ⟨none, some 25, 25, .iaddr 1 (.t 22) (.t 24)⟩,
   ⟨none, some 26, 26, .load none (.t 25)⟩,
   ⟨none, some 27, 27, .conv (.int .i64) (.t 26)⟩,
   ⟨none, some 28, 28, .bin .or (.t 21) (.t 27)⟩,
   ⟨none, some 29, 29, .mv (.t 1)⟩,
   ⟨none, some 30, 30, .bin .add (.t 29) (.k (.one (.pv (.int .i64 2))))⟩,
   ⟨none, some 4, 4, .mv (.t 28)⟩,
   ⟨none, some 5, 5, .mv (.t 30)⟩,
   ⟨none, some 6, 6, .mv (.k (.one (.pv (.bool true))))⟩] [[], [], [0, 1], [2], [3], [4], [], [], [7], [6, 8], [9], [10], [5, 11], [], [13], [12, 0, 1, 2, 3, 4, 5, 6, 7, 8, 9, 10, 11, 12], [14, 15, 0, 1, 2, 3, 4, 5, 6, 7, 8, 9, 10, 11, 12, 13, 14, 15], [16, 0, 1, 2, 3, 4, 5, 6, 7, 8, 9, 10, 11, 12, 13, 14, 15, 16]])
 (.ret)))⟩
abbrev C_i_GetW (Te : Nat → List AV → Res → Prop) : Prop := ∀ (b : List UInt8) (i : Int) (h : b.length ≤ 2 ^ 31), Te 81 [.one (slT false 1 uR b), .one (iT i)] ⟨[.one (iT (getW b i).1), .one (iT (getW b i).2.1), .one (bT (getW b i).2.2)], [[slT false 1 uR b], [iT i]]⟩
theorem r_i_GetW {Te : Nat → List AV → Res → Prop} : ∀ (b : List UInt8) (i : Int) (h : b.length ≤ 2 ^ 31), RunFn Te x_i_GetW [.one (slT false 1 uR b), .one (iT i)] ⟨[.one (iT (getW b i).1), .one (iT (getW b i).2.1), .one (bT (getW b i).2.2)], [[slT false 1 uR b], [iT i]]⟩ := by
  intro b i h
  refine ⟨by simp -implicitDefEqProofs (maxSteps := 1000000) only [x_i_GetW, go_sem], ?_⟩
  have w1 : IntKind.i64.wrap ((b.length : Int) - 2) = (b.length : Int) - 2 := IntWalk.i64_in _ (by omega)
  cases g : win i 0 ((b.length : Int) - 2)
  · have e := getW_no g
    cases q : decide (i < 0)
    · have q2 : decide (i > (b.length : Int) - 2) = true := by
        simp only [decide_eq_false_iff_not] at q
        simp only [win, Bool.and_eq_false_iff, decide_eq_false_iff_not] at g
        simp only [decide_eq_true_eq]
        omega
      simp -implicitDefEqProofs (maxSteps := 1000000) only [x_i_GetW, go_sem, true_implies, false_implies, w1, q, q2, e]
      repeat (first | refine ⟨rfl, ?_⟩ | refine ⟨by decide, ?_⟩ | refine ⟨⟨by decide, by decide⟩, ?_⟩ | refine ⟨decide_eq_true (by omega), ?_⟩ | refine ⟨⟨decide_eq_true (by omega), decide_eq_true (by omega)⟩, ?_⟩)
      try (first | done | decide | exact decide_eq_true (by omega) | exact ⟨decide_eq_true (by omega), decide_eq_true (by omega)⟩)
    · simp -implicitDefEqProofs (maxSteps := 1000000) only [x_i_GetW, go_sem, true_implies, false_implies, w1, q, e]
      repeat (first | refine ⟨rfl, ?_⟩ | refine ⟨by decide, ?_⟩ | refine ⟨⟨by decide, by decide⟩, ?_⟩ | refine ⟨decide_eq_true (by omega), ?_⟩ | refine ⟨⟨decide_eq_true (by omega), decide_eq_true (by omega)⟩, ?_⟩)
      try (first | done | decide | exact decide_eq_true (by omega) | exact ⟨decide_eq_true (by omega), decide_eq_true (by omega)⟩)
  · have e := getW_yes g
    simp only [win, Bool.and_eq_true, decide_eq_true_eq] at g
    have q1 : decide (i < 0) = false := decide_eq_false (by omega)
    have q2 : decide (i > (b.length : Int) - 2) = false := decide_eq_false (by omega)
    have h1 : i.toNat < b.length := by omega
    have h2 : i.toNat + 1 < b.length := by omega
    have w2 : IntKind.i64.wrap (i + 1) = i + 1 := IntWalk.i64_in _ (by omega)
    have w3 : IntKind.i64.wrap (i + 2) = i + 2 := IntWalk.i64_in _ (by omega)
    have w4 : (i + 1).toNat = i.toNat + 1 := by omega
    have b1 := byteZ_lt b i.toNat
    have b2 := byteZ_lt b (i.toNat + 1)
    simp -implicitDefEqProofs (maxSteps := 1000000) only [x_i_GetW, go_sem, true_implies, false_implies, w1, q1, q2, w2, w3, w4, List.getElem?_eq_getElem h1, List.getElem?_eq_getElem h2, byteZ_get h1, byteZ_get h2, min8, shl8 b1, wrapB b1, wrapB b2, or_w _ _ b1 b2, e]
    repeat (first | refine ⟨rfl, ?_⟩ | refine ⟨by decide, ?_⟩ | refine ⟨⟨by decide, by decide⟩, ?_⟩ | refine ⟨decide_eq_true (by omega), ?_⟩ | refine ⟨⟨decide_eq_true (by omega), decide_eq_true (by omega)⟩, ?_⟩)
    try (first | done | decide | exact decide_eq_true (by omega) | exact ⟨decide_eq_true (by omega), decide_eq_true (by omega)⟩)
def x_s_GetW : FnX := ⟨28, [.tmp 4, .tmp 5, .tmp 6],
  .seq (.reg [⟨none, some 4, 4, .mv (.k (.one (.pv (.int .i64 0))))⟩,
   ⟨none, some 5, 5, .mv (.k (.one (.pv (.int .i64 0))))⟩,
   ⟨none, some 6, 6, .mv (.k (.one (.pv (.bool false))))⟩])
 (.seq (.seq (.reg [⟨none, some 7, 7, .mv (.t 1)⟩,
   ⟨none, some 8, 8, .mv (.t 0)⟩,
   ⟨none, some 9, 9, .len (.t 8)⟩,
   ⟨none, some 10, 10, .bin .sub (.t 9) (.k (.one (.pv (.int .i64 2))))⟩,
   ⟨none, some 11, 11, .call 77 [0, 0, 0] [(.t 7), (.k (.one (.pv (.int .i64 0)))), (.t 10)]⟩,
   ⟨none, some 12, 12, .not (.t 11)⟩])
 (.cond 12 (.seq (.reg [⟨none, some 4, 4, .mv (.k (.one (.pv (.int .i64 0))))⟩,
   ⟨none, some 5, 5, .mv (.k (.one (.pv (.int .i64 0))))⟩,
   ⟨none, some 6, 6, .mv (.k (.one (.pv (.bool false))))⟩])
 (.ret)) (.skip)))
 (.seq (.draw [⟨none, some 13, 13, .mv (.t 0)⟩,
   ⟨none, some 14, 14, .mv (.t 1)⟩,
   ⟨none, some 15, 15, .iaddr 1 (.t 13) (.t 14)⟩,
   ⟨none, some 16, 16, .load none (.t 15)⟩,
   ⟨none, some 17, 17, .conv (.int .i64) (.t 16)⟩,
   ⟨none, some 18, 18, .bin .shl (.t 17) (.k (.one (.pv (.int .u64 8))))⟩,
   ⟨none, some 19, 19, .mv (.t 0)⟩,
   ⟨none, some 20, 20, .mv (.t 1)⟩,
   ⟨none, some 21, 21, .bin .add (.t 20) (.k (.one (.pv (.int .i64 1))))⟩,
   ⟨none, some 22, 22, .iaddr 1 (.t 19) (.t 21)⟩,
   ⟨none, some 23, 23, .load none (.t 22)⟩,
   ⟨none, some 24, 24, .conv (.int .i64) (.t 23)⟩,
   ⟨none, some 25, 25, .bin .or (.t 18) (.t 24)⟩,
   ⟨none, some 26, 26, .mv (.t 1)⟩,
   ⟨none, some 27, 27, .bin .add (.t 26) (.k (.one (.pv (.int .i64 2))))⟩,
   ⟨none, some 4, 4, .mv (.t 25)⟩,
   ⟨none, some 5, 5, .mv (.t 27)⟩,
   ⟨none, some 6, 6, .mv (.k (.one (.pv (.bool true))))⟩] [[], [], [0, 1], [2], [3], [4], [], [], [7], [6, 8], [9], [10], [5, 11], [], [13], [12, 0, 1, 2, 3, 4, 5, 6, 7, 8, 9, 10, 11, 12], [14, 15, 0, 1, 2, 3, 4, 5, 6, 7, 8, 9, 10, 11, 12, 13, 14, 15], [16, 0, 1, 2, 3, 4, 5, 6, 7, 8, 9, 10, 11, 12, 13, 14, 15, 16]])
 (.ret)))⟩
abbrev C_s_GetW (Te : Nat → List AV → Res → Prop) : Prop := ∀ (b : List UInt8) (i : Int) (h : b.length ≤ 2 ^ 31), Te 55 [.one (slT false 1 uR b), .one (iT i)] ⟨[.one (iT (getW b i).1), .one (iT (getW b i).2.1), .one (bT (getW b i).2.2)], [[slT false 1 uR b], [iT i]]⟩
theorem r_s_GetW {Te : Nat → List AV → Res → Prop} (c_s_l1In : C_s_l1In Te) : ∀ (b : List UInt8) (i : Int) (h : b.length ≤ 2 ^ 31), RunFn Te x_s_GetW [.one (slT false 1 uR b), .one (iT i)] ⟨[.one (iT (getW b i).1), .one (iT (getW b i).2.1), .one (bT (getW b i).2.2)], [[slT false 1 uR b], [iT i]]⟩ := by
  intro b i h
  refine ⟨by simp -implicitDefEqProofs (maxSteps := 1000000) only [x_s_GetW, go_sem], ?_⟩
  have w1 : IntKind.i64.wrap ((b.length : Int) - 2) = (b.length : Int) - 2 := IntWalk.i64_in _ (by omega)
  simp -implicitDefEqProofs (maxSteps := 1000000) only [x_s_GetW, go_sem, true_implies, false_implies, w1]
  repeat (first | refine ⟨rfl, ?_⟩ | refine ⟨by decide, ?_⟩ | refine ⟨⟨by decide, by decide⟩, ?_⟩ | refine ⟨decide_eq_true (by omega), ?_⟩ | refine ⟨⟨decide_eq_true (by omega), decide_eq_true (by omega)⟩, ?_⟩)
  try (first | done | decide | exact decide_eq_true (by omega) | exact ⟨decide_eq_true (by omega), decide_eq_true (by omega)⟩)
  cases g : win i 0 ((b.length : Int) - 2)
  · have e := getW_no g
    refine .of (c_s_l1In _ _ _) ?_
    try simp -implicitDefEqProofs (maxSteps := 1000000) only [go_sem, true_implies, false_implies, g, e]
    repeat (first | refine ⟨rfl, ?_⟩ | refine ⟨by decide, ?_⟩ | refine ⟨⟨by decide, by decide⟩, ?_⟩ | refine ⟨decide_eq_true (by omega), ?_⟩ | refine ⟨⟨decide_eq_true (by omega), decide_eq_true (by omega)⟩, ?_⟩)
    try (first | done | decide | exact decide_eq_true (by omega) | exact ⟨decide_eq_true (by omega), decide_eq_true (by omega)⟩)
  · have e := getW_yes g
    have g' := g
    simp only [win, Bool.and_eq_true, decide_eq_true_eq] at g'
    have h1 : i.toNat < b.length := by omega
    have h2 : i.toNat + 1 < b.length := by omega
    have w2 : IntKind.i64.wrap (i + 1) = i + 1 := IntWalk.i64_in _ (by omega)
    have w3 : IntKind.i64.wrap (i + 2) = i + 2 := IntWalk.i64_in _ (by omega)
    have w4 : (i + 1).toNat = i.toNat + 1 := by omega
    have b1 := byteZ_lt b i.toNat
    have b2 := byteZ_lt b (i.toNat + 1)
    refine .of (c_s_l1In _ _ _) ?_
    try simp -implicitDefEqProofs (maxSteps := 1000000) only [go_sem, true_implies, false_implies, g, w2, w3, w4, List.getElem?_eq_getElem h1, List.getElem?_eq_getElem h2, byteZ_get h1, byteZ_get h2, min8, shl8 b1, wrapB b1, wrapB b2, or_w _ _ b1 b2, e]
    repeat (first | refine ⟨rfl, ?_⟩ | refine ⟨by decide, ?_⟩ | refine ⟨⟨by decide, by decide⟩, ?_⟩ | refine ⟨decide_eq_true (by omega), ?_⟩ | refine ⟨⟨decide_eq_true (by omega), decide_eq_true (by omega)⟩, ?_⟩)
    try (first | done | decide | exact decide_eq_true (by omega) | exact ⟨decide_eq_true (by omega), decide_eq_true (by omega)⟩)
theorem bytesOf_map (l : List UInt8) : bytesOf (l.map uR) = l := by
  simp only [bytesOf, List.map_map, Function.comp_def, List.headD_cons, byteOf]
  conv => rhs; rw [← List.map_id l]
  refine List.map_congr_left fun a _ => ?_
  simp
theorem areBytes_map : ∀ l : List UInt8, areBytes (l.map uR) = true
  | [] => rfl
  | a :: l => by simp only [List.map_cons, areBytes, isByte, areBytes_map l, Bool.and_true]
def cutS (b : List UInt8) (p n : Int) : ByteArray := ⟨((b.drop p.toNat).take n.toNat).toArray⟩
def getText (b : List UInt8) (i : Int) : ByteArray × Int × Bool :=
  if ((getW b i).2.2 && (decide ((getW b i).1 ≤ 60) && decide ((getW b i).1 ≤ b.length - (getW b i).2.1))) = true then (cutS b (getW b i).2.1 (getW b i).1, (getW b i).2.1 + (getW b i).1, true) else (⟨#[]⟩, 0, false)
theorem getW_bound (b : List UInt8) (i : Int) (h : (getW b i).2.2 = true) : 0 ≤ (getW b i).1 ∧ (getW b i).1 < 65536 ∧ (getW b i).2.1 = i + 2 ∧ 0 ≤ i ∧ i + 2 ≤ b.length := by
  cases g : win i 0 ((b.length : Int) - 2)
  · rw [getW_no g] at h
    cases h
  · rw [getW_yes g]
    simp only [win, Bool.and_eq_true, decide_eq_true_eq] at g
    have b1 := byteZ_lt b i.toNat
    have b2 := byteZ_lt b (i.toNat + 1)
    exact ⟨by show (0 : Int) ≤ ((256 * byteZ b i.toNat + byteZ b (i.toNat + 1) : Nat) : Int); omega, by show ((256 * byteZ b i.toNat + byteZ b (i.toNat + 1) : Nat) : Int) < 65536; omega, rfl, g.1, by omega⟩
theorem getText_no {b : List UInt8} {i : Int} (h : ((getW b i).2.2 && (decide ((getW b i).1 ≤ 60) && decide ((getW b i).1 ≤ b.length - (getW b i).2.1))) = false) : getText b i = (⟨#[]⟩, 0, false) := by
  unfold getText
  rw [h]
  rfl
theorem getText_yes {b : List UInt8} {i : Int} (h : ((getW b i).2.2 && (decide ((getW b i).1 ≤ 60) && decide ((getW b i).1 ≤ b.length - (getW b i).2.1))) = true) : getText b i = (cutS b (getW b i).2.1 (getW b i).1, (getW b i).2.1 + (getW b i).1, true) := by
  unfold getText
  rw [h]
  rfl
def x_i_GetText : FnX := ⟨41, [.tmp 4, .tmp 5, .tmp 6],
  .seq (.reg [⟨none, some 4, 4, .mv (.k (.one (.pv (.string ⟨#[]⟩))))⟩,
   ⟨none, some 5, 5, .mv (.k (.one (.pv (.int .i64 0))))⟩,
   ⟨none, some 6, 6, .mv (.k (.one (.pv (.bool false))))⟩])
 (.seq (.reg [⟨none, some 11, 11, .mv (.t 0)⟩,
   ⟨none, some 12, 12, .mv (.t 1)⟩,
   ⟨none, some 13, 13, .call 81 [0, 0] [(.t 11), (.t 12)]⟩,
   ⟨none, some 10, 10, .mv (.t 13)⟩,
   ⟨none, some 14, 14, .ext (.t 10) 0⟩,
   ⟨none, some 15, 15, .ext (.t 10) 1⟩,
   ⟨none, some 16, 16, .ext (.t 10) 2⟩,
   ⟨none, some 7, 7, .mv (.t 14)⟩,
   ⟨none, some 8, 8, .mv (.t 15)⟩,
   ⟨none, some 9, 9, .mv (.t 16)⟩])
 (.seq (.seq (.reg [⟨none, some 17, 17, .mv (.t 9)⟩,
   ⟨none, some 18, 18, .not (.t 17)⟩,
   ⟨none, some 19, 19, .mv (.t 18)⟩,
   ⟨(some (19, false)), some 20, 20, .mv (.t 7)⟩,
   ⟨(some (19, false)), some 21, 21, .bin .gtr (.t 20) (.k (.one (.pv (.int .i64 60))))⟩,
   ⟨none, some 22, 22, .pick (.t 19) (.k (.one (.pv (.bool true)))) (.t 21)⟩,
   ⟨none, some 23, 23, .mv (.t 22)⟩,
   ⟨(some (23, false)), some 24, 24, .mv (.t 7)⟩,
   ⟨(some (23, false)), some 25, 25, .mv (.t 0)⟩,
   ⟨(some (23, false)), some 26, 26, .len (.t 25)⟩,
   ⟨(some (23, false)), some 27, 27, .mv (.t 8)⟩,
   ⟨(some (23, false)), some 28, 28, .bin .sub (.t 26) (.t 27)⟩,
   ⟨(some (23, false)), some 29, 29, .bin .gtr (.t 24) (.t 28)⟩,
   ⟨none, some 30, 30, .pick (.t 23) (.k (.one (.pv (.bool true)))) (.t 29)⟩])
 (.cond 30 (.seq (.reg [⟨none, some 4, 4, .mv (.k (.one (.pv (.string ⟨#[]⟩))))⟩,
   ⟨none, some 5, 5, .mv (.k (.one (.pv (.int .i64 0))))⟩,
   ⟨none, some 6, 6, .mv (.k (.one (.pv (.bool false))))⟩])
 (.ret)) (.skip)))
 (.seq (.reg [⟨none, some 31, 31, .mv (.t 0)⟩,
   ⟨none, some 32, 32, .mv (.t 8)⟩,
   ⟨none, some 33, 33, .mv (.t 8)⟩,
   ⟨none, some 34, 34, .mv (.t 7)⟩,
   ⟨none, some 35, 35, .bin .add (.t 33) (.t 34)⟩,
   ⟨none, some 36, 36, .slice 1 (.t 31) (some (.t 32)) (some (.t 35))⟩,
   ⟨none, some 37, 37, .conv .b2s (.t 36)⟩,
   ⟨none, some 38, 38, .mv (.t 8)⟩,
   ⟨none, some 39, 39, .mv (.t 7)⟩,
   ⟨none, some 40, 40, .bin .add (.t 38) (.t 39)⟩,
   ⟨none, some 4, 4, .mv (.t 37)⟩,
   ⟨none, some 5, 5, .mv (.t 40)⟩,
   ⟨none, some 6, 6, .mv (.k (.one (.pv (.bool true))))⟩])
 (.ret))))⟩
abbrev C_i_GetText (Te : Nat → List AV → Res → Prop) : Prop := ∀ (b : List UInt8) (i : Int) (h : b.length ≤ 2 ^ 31), Te 82 [.one (slT false 1 uR b), .one (iT i)] ⟨[.one (sT (getText b i).1), .one (iT (getText b i).2.1), .one (bT (getText b i).2.2)], [[slT false 1 uR b], [iT i]]⟩
theorem r_i_GetText {Te : Nat → List AV → Res → Prop} (c_i_GetW : C_i_GetW Te) : ∀ (b : List UInt8) (i : Int) (h : b.length ≤ 2 ^ 31), RunFn Te x_i_GetText [.one (slT false 1 uR b), .one (iT i)] ⟨[.one (sT (getText b i).1), .one (iT (getText b i).2.1), .one (bT (getText b i).2.2)], [[slT false 1 uR b], [iT i]]⟩ := by
  intro b i h
  refine ⟨by simp -implicitDefEqProofs (maxSteps := 1000000) only [x_i_GetText, go_sem], ?_⟩
  simp -implicitDefEqProofs (maxSteps := 1000000) only [x_i_GetText, go_sem, true_implies, false_implies]
  repeat (first | refine ⟨rfl, ?_⟩ | refine ⟨by decide, ?_⟩ | refine ⟨⟨by decide, by decide⟩, ?_⟩ | refine ⟨decide_eq_true (by omega), ?_⟩ | refine ⟨⟨decide_eq_true (by omega), decide_eq_true (by omega)⟩, ?_⟩)
  try (first | done | decide | exact decide_eq_true (by omega) | exact ⟨decide_eq_true (by omega), decide_eq_true (by omega)⟩)
  cases g : (getW b i).2.2
  · have e := getText_no (b := b) (i := i) (by rw [g]; rfl)
    refine .of (c_i_GetW _ _ h) ?_
    try simp -implicitDefEqProofs (maxSteps := 1000000) only [go_sem, true_implies, false_implies, g, e]
    repeat (first | refine ⟨rfl, ?_⟩ | refine ⟨by decide, ?_⟩ | refine ⟨⟨by decide, by decide⟩, ?_⟩ | refine ⟨decide_eq_true (by omega), ?_⟩ | refine ⟨⟨decide_eq_true (by omega), decide_eq_true (by omega)⟩, ?_⟩)
    try (first | done | decide | exact decide_eq_true (by omega) | exact ⟨decide_eq_true (by omega), decide_eq_true (by omega)⟩)
  · obtain ⟨g1, g2, g3, g4, g5⟩ := getW_bound b i g
    have w1 : IntKind.i64.wrap ((b.length : Int) - (i + 2)) = (b.length : Int) - (i + 2) := IntWalk.i64_in _ (by omega)
    cases q : decide ((getW b i).1 > 60)
    · have q1 : (getW b i).1 ≤ 60 := by simp only [decide_eq_false_iff_not] at q; omega
      cases q2 : decide ((getW b i).1 > (b.length : Int) - (i + 2))
      · have q3 : (getW b i).1 ≤ (b.length : Int) - (i + 2) := by simp only [decide_eq_false_iff_not] at q2; omega
        have e := getText_yes (b := b) (i := i) (by rw [g, g3, decide_eq_true q1, decide_eq_true q3]; rfl)
        have w2 : IntKind.i64.wrap (i + 2 + (getW b i).1) = i + 2 + (getW b i).1 := IntWalk.i64_in _ (by omega)
        have e3 : List.take ((i + 2 + (getW b i).1).toNat - (i + 2).toNat) (List.drop (i + 2).toNat (b.map uR)) = ((b.drop (i + 2).toNat).take (getW b i).1.toNat).map uR := by
          rw [← List.map_drop, ← List.map_take, show (i + 2 + (getW b i).1).toNat - (i + 2).toNat = (getW b i).1.toNat by omega]
        refine .of (c_i_GetW _ _ h) ?_
        try simp -implicitDefEqProofs (maxSteps := 1000000) only [go_sem, true_implies, false_implies, g, g3, w1, q, q2, w2, e, e3, bytesOf_map, areBytes_map, cutS]
        repeat (first | refine ⟨rfl, ?_⟩ | refine ⟨by decide, ?_⟩ | refine ⟨⟨by decide, by decide⟩, ?_⟩ | refine ⟨decide_eq_true (by omega), ?_⟩ | refine ⟨⟨decide_eq_true (by omega), decide_eq_true (by omega)⟩, ?_⟩)
        try (first | done | decide | exact decide_eq_true (by omega) | exact ⟨decide_eq_true (by omega), decide_eq_true (by omega)⟩)
      · have q3 : ¬ (getW b i).1 ≤ (b.length : Int) - (i + 2) := by simp only [decide_eq_true_eq] at q2; omega
        have e := getText_no (b := b) (i := i) (by rw [g, g3, decide_eq_true q1, decide_eq_false q3]; rfl)
        refine .of (c_i_GetW _ _ h) ?_
        try simp -implicitDefEqProofs (maxSteps := 1000000) only [go_sem, true_implies, false_implies, g, g3, w1, q, q2, e]
        repeat (first | refine ⟨rfl, ?_⟩ | refine ⟨by decide, ?_⟩ | refine ⟨⟨by decide, by decide⟩, ?_⟩ | refine ⟨decide_eq_true (by omega), ?_⟩ | refine ⟨⟨decide_eq_true (by omega), decide_eq_true (by omega)⟩, ?_⟩)
        try (first | done | decide | exact decide_eq_true (by omega) | exact ⟨decide_eq_true (by omega), decide_eq_true (by omega)⟩)
    · have q3 : ¬ (getW b i).1 ≤ 60 := by simp only [decide_eq_true_eq] at q; omega
      have e := getText_no (b := b) (i := i) (by rw [g, decide_eq_false q3]; rfl)
      refine .of (c_i_GetW _ _ h) ?_
      try simp -implicitDefEqProofs (maxSteps := 1000000) only [go_sem, true_implies, false_implies, g, g3, w1, q, e]
      repeat (first | refine ⟨rfl, ?_⟩ | refine ⟨by decide, ?_⟩ | refine ⟨⟨by decide, by decide⟩, ?_⟩ | refine ⟨decide_eq_true (by omega), ?_⟩ | refine ⟨⟨decide_eq_true (by omega), decide_eq_true (by omega)⟩, ?_⟩)
      try (first | done | decide | exact decide_eq_true (by omega) | exact ⟨decide_eq_true (by omega), decide_eq_true (by omega)⟩)
def x_s_GetText : FnX := ⟨41, [.tmp 4, .tmp 5, .tmp 6],
  .seq (.reg [⟨none, some 4, 4, .mv (.k (.one (.pv (.string ⟨#[]⟩))))⟩,
   ⟨none, some 5, 5, .mv (.k (.one (.pv (.int .i64 0))))⟩,
   ⟨none, some 6, 6, .mv (.k (.one (.pv (.bool false))))⟩])
 (.seq (.reg [⟨none, some 11, 11, .mv (.t 0)⟩,
   ⟨none, some 12, 12, .mv (.t 1)⟩,
   ⟨none, some 13, 13, .call 55 [0, 0] [(.t 11), (.t 12)]⟩,
   ⟨none, some 10, 10, .mv (.t 13)⟩,
   ⟨none, some 14, 14, .ext (.t 10) 0⟩,
   ⟨none, some 15, 15, .ext (.t 10) 1⟩,
   ⟨none, some 16, 16, .ext (.t 10) 2⟩,
   ⟨none, some 7, 7, .mv (.t 14)⟩,
   ⟨none, some 8, 8, .mv (.t 15)⟩,
   ⟨none, some 9, 9, .mv (.t 16)⟩])
 (.seq (.seq (.reg [⟨none, some 17, 17, .mv (.t 9)⟩,
   ⟨none, some 18, 18, .not (.t 17)⟩,
   ⟨none, some 19, 19, .mv (.t 18)⟩,
   ⟨(some (19, false)), some 20, 20, .mv (.t 7)⟩,
   ⟨(some (19, false)), some 21, 21, .bin .gtr (.t 20) (.k (.one (.pv (.int .i64 60))))⟩,
   ⟨none, some 22, 22, .pick (.t 19) (.k (.one (.pv (.bool true)))) (.t 21)⟩,
   ⟨none, some 23, 23, .mv (.t 22)⟩,
   ⟨(some (23, false)), some 24, 24, .mv (.t 7)⟩,
   ⟨(some (23, false)), some 25, 25, .mv (.t 0)⟩,
   ⟨(some (23, false)), some 26, 26, .len (.t 25)⟩,
   ⟨(some (23, false)), some 27, 27, .mv (.t 8)⟩,
   ⟨(some (23, false)), some 28, 28, .bin .sub (.t 26) (.t 27)⟩,
   ⟨(some (23, false)), some 29, 29, .bin .gtr (.t 24) (.t 28)⟩,
   ⟨none, some 30, 30, .pick (.t 23) (.k (.one (.pv (.bool true)))) (.t 29)⟩])
 (.cond 30 (.seq (.reg [⟨none, some 4, 4, .mv (.k (.one (.pv (.string ⟨#[]⟩))))⟩,
   ⟨none, some 5, 5, .mv (.k (.one (.pv (.int .i64 0))))⟩,
   ⟨none, some 6, 6, .mv (.k (.one (.pv (.bool false))))⟩])
 (.ret)) (.skip)))
 (.seq (.reg [⟨none, some 31, 31, .mv (.t 0)⟩,
   ⟨none, some 32, 32, .mv (.t 8)⟩,
   ⟨none, some 33, 33, .mv (.t 8)⟩,
   ⟨none, some 34, 34, .mv (.t 7)⟩,
   ⟨none, some 35, 35, .bin .add (.t 33) (.t 34)⟩,
   ⟨none, some 36, 36, .slice 1 (.t 31) (some (.t 32)) (some (.t 35))⟩,
   ⟨none, some 37, 37, .conv .b2s (.t 36)⟩,
   ⟨none, some 38, 38, .mv (.t 8)⟩,
   ⟨none, some 39, 39, .mv (.t 7)⟩,
   ⟨none, some 40, 40, .bin .add (.t 38) (.t 39)⟩,
   ⟨none, some 4, 4, .mv (.t 37)⟩,
   ⟨none, some 5, 5, .mv (.t 40)⟩,
   ⟨none, some 6, 6, .mv (.k (.one (.pv (.bool true))))⟩])
 (.ret))))⟩
abbrev C_s_GetText (Te : Nat → List AV → Res → Prop) : Prop := ∀ (b : List UInt8) (i : Int) (h : b.length ≤ 2 ^ 31), Te 56 [.one (slT false 1 uR b), .one (iT i)] ⟨[.one (sT (getText b i).1), .one (iT (getText b i).2.1), .one (bT (getText b i).2.2)], [[slT false 1 uR b], [iT i]]⟩
theorem r_s_GetText {Te : Nat → List AV → Res → Prop} (c_s_GetW : C_s_GetW Te) : ∀ (b : List UInt8) (i : Int) (h : b.length ≤ 2 ^ 31), RunFn Te x_s_GetText [.one (slT false 1 uR b), .one (iT i)] ⟨[.one (sT (getText b i).1), .one (iT (getText b i).2.1), .one (bT (getText b i).2.2)], [[slT false 1 uR b], [iT i]]⟩ := by
  intro b i h
  refine ⟨by simp -implicitDefEqProofs (maxSteps := 1000000) only [x_s_GetText, go_sem], ?_⟩
  simp -implicitDefEqProofs (maxSteps := 1000000) only [x_s_GetText, go_sem, true_implies, false_implies]
  repeat (first | refine ⟨rfl, ?_⟩ | refine ⟨by decide, ?_⟩ | refine ⟨⟨by decide, by decide⟩, ?_⟩ | refine ⟨decide_eq_true (by omega), ?_⟩ | refine ⟨⟨decide_eq_true (by omega), decide_eq_true (by omega)⟩, ?_⟩)
  try (first | done | decide | exact decide_eq_true (by omega) | exact ⟨decide_eq_true (by omega), decide_eq_true (by omega)⟩)
  cases g : (getW b i).2.2
  · have e := getText_no (b := b) (i := i) (by rw [g]; rfl)
    refine .of (c_s_GetW _ _ h) ?_
    try simp -implicitDefEqProofs (maxSteps := 1000000) only [go_sem, true_implies, false_implies, g, e]
    repeat (first | refine ⟨rfl, ?_⟩ | refine ⟨by decide, ?_⟩ | refine ⟨⟨by decide, by decide⟩, ?_⟩ | refine ⟨decide_eq_true (by omega), ?_⟩ | refine ⟨⟨decide_eq_true (by omega), decide_eq_true (by omega)⟩, ?_⟩)
    try (first | done | decide | exact decide_eq_true (by omega) | exact ⟨decide_eq_true (by omega), decide_eq_true (by omega)⟩)
  · obtain ⟨g1, g2, g3, g4, g5⟩ := getW_bound b i g
    have w1 : IntKind.i64.wrap ((b.length : Int) - (i + 2)) = (b.length : Int) - (i + 2) := IntWalk.i64_in _ (by omega)
    cases q : decide ((getW b i).1 > 60)
    · have q1 : (getW b i).1 ≤ 60 := by simp only [decide_eq_false_iff_not] at q; omega
      cases q2 : decide ((getW b i).1 > (b.length : Int) - (i + 2))
      · have q3 : (getW b i).1 ≤ (b.length : Int) - (i + 2) := by simp only [decide_eq_false_iff_not] at q2; omega
        have e := getText_yes (b := b) (i := i) (by rw [g, g3, decide_eq_true q1, decide_eq_true q3]; rfl)
        have w2 : IntKind.i64.wrap (i + 2 + (getW b i).1) = i + 2 + (getW b i).1 := IntWalk.i64_in _ (by omega)
        have e3 : List.take ((i + 2 + (getW b i).1).toNat - (i + 2).toNat) (List.drop (i + 2).toNat (b.map uR)) = ((b.drop (i + 2).toNat).take (getW b i).1.toNat).map uR := by
          rw [← List.map_drop, ← List.map_take, show (i + 2 + (getW b i).1).toNat - (i + 2).toNat = (getW b i).1.toNat by omega]
        refine .of (c_s_GetW _ _ h) ?_
        try simp -implicitDefEqProofs (maxSteps := 1000000) only [go_sem, true_implies, false_implies, g, g3, w1, q, q2, w2, e, e3, bytesOf_map, areBytes_map, cutS]
        repeat (first | refine ⟨rfl, ?_⟩ | refine ⟨by decide, ?_⟩ | refine ⟨⟨by decide, by decide⟩, ?_⟩ | refine ⟨decide_eq_true (by omega), ?_⟩ | refine ⟨⟨decide_eq_true (by omega), decide_eq_true (by omega)⟩, ?_⟩)
        try (first | done | decide | exact decide_eq_true (by omega) | exact ⟨decide_eq_true (by omega), decide_eq_true (by omega)⟩)
      · have q3 : ¬ (getW b i).1 ≤ (b.length : Int) - (i + 2) := by simp only [decide_eq_true_eq] at q2; omega
        have e := getText_no (b := b) (i := i) (by rw [g, g3, decide_eq_true q1, decide_eq_false q3]; rfl)
        refine .of (c_s_GetW _ _ h) ?_
        try simp -implicitDefEqProofs (maxSteps := 1000000) only [go_sem, true_implies, false_implies, g, g3, w1, q, q2, e]
        repeat (first | refine ⟨rfl, ?_⟩ | refine ⟨by decide, ?_⟩ | refine ⟨⟨by decide, by decide⟩, ?_⟩ | refine ⟨decide_eq_true (by omega), ?_⟩ | refine ⟨⟨decide_eq_true (by omega), decide_eq_true (by omega)⟩, ?_⟩)
        try (first | done | decide | exact decide_eq_true (by omega) | exact ⟨decide_eq_true (by omega), decide_eq_true (by omega)⟩)
    · have q3 : ¬ (getW b i).1 ≤ 60 := by simp only [decide_eq_true_eq] at q; omega
      have e := getText_no (b := b) (i := i) (by rw [g, decide_eq_false q3]; rfl)
      refine .of (c_s_GetW _ _ h) ?_
      try simp -implicitDefEqProofs (maxSteps := 1000000) only [go_sem, true_implies, false_implies, g, g3, w1, q, e]
      repeat (first | refine ⟨rfl, ?_⟩ | refine ⟨by decide, ?_⟩ | refine ⟨⟨by decide, by decide⟩, ?_⟩ | refine ⟨decide_eq_true (by omega), ?_⟩ | refine ⟨⟨decide_eq_true (by omega), decide_eq_true (by omega)⟩, ?_⟩)
      try (first | done | decide | exact decide_eq_true (by omega) | exact ⟨decide_eq_true (by omega), decide_eq_true (by omega)⟩)
end Go.X

/- Kb -/
namespace Go.X
set_option maxRecDepth 100000
set_option maxHeartbeats 8000000
/-- What is read, where, and whether there was none. -/
structure ScanV where
  b : List UInt8
  i : Int
  bad : Bool
abbrev ScanV.enc (s : ScanV) : List Go.X.T := [slT false 1 uR s.b, iT s.i, bT s.bad]
def scanOne (s : ScanV) : Int × ScanV := if (s.bad || (decide (s.i < 0) || decide (s.i ≥ s.b.length))) = true then (0, ⟨s.b, s.i, true⟩) else ((byteZ s.b s.i.toNat : Nat), ⟨s.b, s.i + 1, s.bad⟩)
def scanWord (s : ScanV) : Int × ScanV := if (s.bad || !(getW s.b s.i).2.2) = true then (0, ⟨s.b, s.i, true⟩) else ((getW s.b s.i).1, ⟨s.b, (getW s.b s.i).2.1, s.bad⟩)
def scanText (s : ScanV) : ByteArray × ScanV := if (s.bad || !(getText s.b s.i).2.2) = true then (⟨#[]⟩, ⟨s.b, s.i, true⟩) else ((getText s.b s.i).1, ⟨s.b, (getText s.b s.i).2.1, s.bad⟩)
def scanSum (s : ScanV) : Bool × ScanV := (!(scanWord s).2.bad && ((scanWord s).1 == (sum (s.b.take s.i.toNat) : Nat) && ((scanWord s).2.i == s.b.length)), (scanWord s).2)
theorem scanOne_b (s : ScanV) : (scanOne s).2.b = s.b := by unfold scanOne; split <;> rfl
theorem scanWord_b (s : ScanV) : (scanWord s).2.b = s.b := by unfold scanWord; split <;> rfl
theorem scanText_b (s : ScanV) : (scanText s).2.b = s.b := by unfold scanText; split <;> rfl
def x_i_scanone : FnX := ⟨48, [.tmp 2],
  .seq (.reg [⟨none, some 2, 2, .mv (.k (.one (.pv (.int .i64 0))))⟩])
 (.seq (.seq (.draw [⟨none, some 3, 3, .mv (.t 0)⟩,
   ⟨none, some 4, 4, .nilc (.t 3)⟩,
   ⟨none, some 5, 5, .faddr (.t 4) 2⟩,
   ⟨none, some 6, 6, .load none (.t 5)⟩,
   ⟨none, some 7, 7, .mv (.t 6)⟩,
   ⟨(some (7, false)), some 8, 8, .mv (.t 0)⟩,
   ⟨(some (7, false)), some 9, 9, .nilc (.t 8)⟩,
   ⟨(some (7, false)), some 10, 10, .faddr (.t 9) 1⟩,
   ⟨(some (7, false)), some 11, 11, .load none (.t 10)⟩,
   ⟨(some (7, false)), some 12, 12, .bin .lss (.t 11) (.k (.one (.pv (.int .i64 0))))⟩,
   ⟨none, some 13, 13, .pick (.t 7) (.k (.one (.pv (.bool true)))) (.t 12)⟩,
   ⟨none, some 14, 14, .mv (.t 13)⟩,
   ⟨(some (14, false)), some 15, 15, .mv (.t 0)⟩,
   ⟨(some (14, false)), some 16, 16, .nilc (.t 15)⟩,
   ⟨(some (14, false)), some 17, 17, .faddr (.t 16) 1⟩,
   ⟨(some (14, false)), some 18, 18, .load none (.t 17)⟩,
   ⟨(some (14, false)), some 19, 19, .mv (.t 0)⟩,
   ⟨(some (14, false)), some 20, 20, .nilc (.t 19)⟩,
   ⟨(some (14, false)), some 21, 21, .faddr (.t 20) 0⟩,
   ⟨(some (14, false)), some 22, 22, .load none (.t 21)⟩,
   ⟨(some (14, false)), some 23, 23, .len (.t 22)⟩,
   ⟨(some (14, false)), some 24, 24, .bin .geq (.t 18) (.t 23)⟩,
   ⟨none, some 25, 25, .pick (.t 14) (.k (.one (.pv (.bool true)))) (.t 24)⟩] [[], [0], [1], [2], [3], [4], [5, 4], [6, 4], [7, 4], [8, 4], [4, 9], [10, 4], [11], [12, 11], [13, 11], [14, 11], [11], [16, 11], [17, 11], [18, 11], [19, 11], [15, 20, 11], [11, 21]])
 (.cond 25 (.seq (.reg [⟨none, some 26, 26, .mv (.t 0)⟩,
   ⟨none, some 27, 27, .nilc (.t 26)⟩,
   ⟨none, some 28, 28, .faddr (.t 27) 2⟩,
   ⟨none, none, 100001, .store 1 (.t 28) (.k (.one (.pv (.bool true))))⟩])
 (.seq (.reg [⟨none, some 2, 2, .mv (.k (.one (.pv (.int .i64 0))))⟩])
 (.ret))) (.skip)))
 (.seq (.reg [⟨none, some 29, 29, .mv (.t 0)⟩,
   ⟨none, some 30, 30, .nilc (.t 29)⟩,
   ⟨none, some 31, 31, .faddr (.t 30) 1⟩,
   ⟨none, some 32, 32, .load none (.t 31)⟩,
   ⟨none, some 33, 33, .bin .add (.t 32) (.k (.one (.pv (.int .i64 1))))⟩,
   ⟨none, some 34, 34, .nilc (.t 29)⟩,
   ⟨none, some 35, 35, .faddr (.t 34) 1⟩,
   ⟨none, none, 100002, .store 1 (.t 35) (.t 33)⟩])
 (.seq (.draw [⟨none, some 36, 36, .mv (.t 0)⟩,
   ⟨none, some 37, 37, .nilc (.t 36)⟩,
   ⟨none, some 38, 38, .faddr (.t 37) 0⟩,
   ⟨none, some 39, 39, .load none (.t 38)⟩,
   ⟨none, some 40, 40, .mv (.t 0)⟩,
   ⟨none, some 41, 41, .nilc (.t 40)⟩,
   ⟨none, some 42, 42, .faddr (.t 41) 1⟩,
   ⟨none, some 43, 43, .load none (.t 42)⟩,
   ⟨none, some 44, 44, .bin .sub (.t 43) (.k (.one (.pv (.int .i64 1))))⟩,
   ⟨none, some 45, 45, .iaddr 1 (.t 39) (.t 44)⟩,
   ⟨none, some 46, 46, .load none (.t 45)⟩,
   ⟨none, some 47, 47, .conv (.int .i64) (.t 46)⟩,
   ⟨none, some 2, 2, .mv (.t 47)⟩] [[], [0], [1], [2], [], [4], [5], [6], [7], [3, 8], [9], [10], [11, 0, 1, 2, 3, 4, 5, 6, 7, 8, 9, 10, 11]])
 (.ret))))⟩
abbrev C_i_scanone (Te : Nat → List AV → Res → Prop) : Prop := ∀ (s : ScanV) (h : s.b.length ≤ 2 ^ 31), Te 58 [.ptr s.enc] ⟨[.one (iT (scanOne s).1)], [(scanOne s).2.enc]⟩
theorem r_i_scanone {Te : Nat → List AV → Res → Prop} : ∀ (s : ScanV) (h : s.b.length ≤ 2 ^ 31), RunFn Te x_i_scanone [.ptr s.enc] ⟨[.one (iT (scanOne s).1)], [(scanOne s).2.enc]⟩ := by
  intro s h
  refine ⟨by simp -implicitDefEqProofs (maxSteps := 1000000) only [x_i_scanone, go_sem], ?_⟩
  cases g : (s.bad || (decide (s.i < 0) || decide (s.i ≥ s.b.length)))
  · have e : scanOne s = (((byteZ s.b s.i.toNat : Nat) : Int), ⟨s.b, s.i + 1, s.bad⟩) := if_neg (by rw [g]; decide)
    simp only [Bool.or_eq_false_iff] at g
    obtain ⟨g1, g2, g3⟩ := g
    have h1 : s.i.toNat < s.b.length := by simp only [decide_eq_false_iff_not] at g2 g3; omega
    have w1 : IntKind.i64.wrap (s.i + 1) = s.i + 1 := IntWalk.i64_in _ (by simp only [decide_eq_false_iff_not] at g2 g3; omega)
    have w2 : IntKind.i64.wrap (s.i + 1 - 1) = s.i := by rw [Int.add_sub_cancel]; exact IntWalk.i64_in _ (by simp only [decide_eq_false_iff_not] at g2 g3; omega)
    have b1 := byteZ_lt s.b s.i.toNat
    have g0 : decide (0 ≤ s.i) = true := decide_eq_true (by simp only [decide_eq_false_iff_not] at g2; omega)
    simp -implicitDefEqProofs (maxSteps := 1000000) only [x_i_scanone, go_sem, true_implies, false_implies, g1, g2, g3, w1, w2, List.getElem?_eq_getElem h1, byteZ_get h1, wrapB b1, e, g0]
    repeat (first | refine ⟨rfl, ?_⟩ | refine ⟨by decide, ?_⟩ | refine ⟨⟨by decide, by decide⟩, ?_⟩ | refine ⟨decide_eq_true (by omega), ?_⟩ | refine ⟨⟨decide_eq_true (by omega), decide_eq_true (by omega)⟩, ?_⟩)
    try (first | done | decide | exact decide_eq_true (by omega) | exact ⟨decide_eq_true (by omega), decide_eq_true (by omega)⟩)
  · have e : scanOne s = (0, ⟨s.b, s.i, true⟩) := if_pos g
    cases g1 : s.bad
    · rw [g1, Bool.false_or] at g
      cases g2 : decide (s.i < 0)
      · rw [g2, Bool.false_or] at g
        simp -implicitDefEqProofs (maxSteps := 1000000) only [x_i_scanone, go_sem, true_implies, false_implies, g1, g2, g, e]
        repeat (first | refine ⟨rfl, ?_⟩ | refine ⟨by decide, ?_⟩ | refine ⟨⟨by decide, by decide⟩, ?_⟩ | refine ⟨decide_eq_true (by omega), ?_⟩ | refine ⟨⟨decide_eq_true (by omega), decide_eq_true (by omega)⟩, ?_⟩)
        try (first | done | decide | exact decide_eq_true (by omega) | exact ⟨decide_eq_true (by omega), decide_eq_true (by omega)⟩)
      · simp -implicitDefEqProofs (maxSteps := 1000000) only [x_i_scanone, go_sem, true_implies, false_implies, g1, g2, e]
        repeat (first | refine ⟨rfl, ?_⟩ | refine ⟨by decide, ?_⟩ | refine ⟨⟨by decide, by decide⟩, ?_⟩ | refine ⟨decide_eq_true (by omega), ?_⟩ | refine ⟨⟨decide_eq_true (by omega), decide_eq_true (by omega)⟩, ?_⟩)
        try (first | done | decide | exact decide_eq_true (by omega) | exact ⟨decide_eq_true (by omega), decide_eq_true (by omega)⟩)
    · simp -implicitDefEqProofs (maxSteps := 1000000) only [x_i_scanone, go_sem, true_implies, false_implies, g1, e]
      repeat (first | refine ⟨rfl, ?_⟩ | refine ⟨by decide, ?_⟩ | refine ⟨⟨by decide, by decide⟩, ?_⟩ | refine ⟨decide_eq_true (by omega), ?_⟩ | refine ⟨⟨decide_eq_true (by omega), decide_eq_true (by omega)⟩, ?_⟩)
      try (first | done | decide | exact decide_eq_true (by omega) | exact ⟨decide_eq_true (by omega), decide_eq_true (by omega)⟩)
def x_i_scanword : FnX := ⟨35, [.tmp 2],
  .seq (.reg [⟨none, some 2, 2, .mv (.k (.one (.pv (.int .i64 0))))⟩])
 (.seq (.draw [⟨none, some 7, 7, .mv (.t 0)⟩,
   ⟨none, some 8, 8, .nilc (.t 7)⟩,
   ⟨none, some 9, 9, .faddr (.t 8) 0⟩,
   ⟨none, some 10, 10, .load none (.t 9)⟩,
   ⟨none, some 11, 11, .mv (.t 0)⟩,
   ⟨none, some 12, 12, .nilc (.t 11)⟩,
   ⟨none, some 13, 13, .faddr (.t 12) 1⟩,
   ⟨none, some 14, 14, .load none (.t 13)⟩,
   ⟨none, some 15, 15, .call 81 [0, 0] [(.t 10), (.t 14)]⟩,
   ⟨none, some 6, 6, .mv (.t 15)⟩,
   ⟨none, some 16, 16, .ext (.t 6) 0⟩,
   ⟨none, some 17, 17, .ext (.t 6) 1⟩,
   ⟨none, some 18, 18, .ext (.t 6) 2⟩,
   ⟨none, some 3, 3, .mv (.t 16)⟩,
   ⟨none, some 4, 4, .mv (.t 17)⟩,
   ⟨none, some 5, 5, .mv (.t 18)⟩] [[], [0], [1], [2], [], [4], [5], [6], [3, 7], [8], [9], [9], [9], [10, 8, 0, 1, 2, 3, 4, 5, 6, 7, 8, 9, 10], [11, 13, 0, 1, 2, 3, 4, 5, 6, 7, 8, 9, 10, 11, 13], [12, 14, 0, 1, 2, 3, 4, 5, 6, 7, 8, 9, 10, 11, 12, 13, 14]])
 (.seq (.seq (.reg [⟨none, some 19, 19, .mv (.t 0)⟩,
   ⟨none, some 20, 20, .nilc (.t 19)⟩,
   ⟨none, some 21, 21, .faddr (.t 20) 2⟩,
   ⟨none, some 22, 22, .load none (.t 21)⟩,
   ⟨none, some 23, 23, .mv (.t 22)⟩,
   ⟨(some (23, false)), some 24, 24, .mv (.t 5)⟩,
   ⟨(some (23, false)), some 25, 25, .not (.t 24)⟩,
   ⟨none, some 26, 26, .pick (.t 23) (.k (.one (.pv (.bool true)))) (.t 25)⟩])
 (.cond 26 (.seq (.reg [⟨none, some 27, 27, .mv (.t 0)⟩,
   ⟨none, some 28, 28, .nilc (.t 27)⟩,
   ⟨none, some 29, 29, .faddr (.t 28) 2⟩,
   ⟨none, none, 100001, .store 1 (.t 29) (.k (.one (.pv (.bool true))))⟩])
 (.seq (.reg [⟨none, some 2, 2, .mv (.k (.one (.pv (.int .i64 0))))⟩])
 (.ret))) (.skip)))
 (.seq (.reg [⟨none, some 30, 30, .mv (.t 0)⟩,
   ⟨none, some 31, 31, .mv (.t 4)⟩,
   ⟨none, some 32, 32, .nilc (.t 30)⟩,
   ⟨none, some 33, 33, .faddr (.t 32) 1⟩,
   ⟨none, none, 100002, .store 1 (.t 33) (.t 31)⟩])
 (.seq (.reg [⟨none, some 34, 34, .mv (.t 3)⟩,
   ⟨none, some 2, 2, .mv (.t 34)⟩])
 (.ret)))))⟩
abbrev C_i_scanword (Te : Nat → List AV → Res → Prop) : Prop := ∀ (s : ScanV) (h : s.b.length ≤ 2 ^ 31), Te 59 [.ptr s.enc] ⟨[.one (iT (scanWord s).1)], [(scanWord s).2.enc]⟩
theorem r_i_scanword {Te : Nat → List AV → Res → Prop} (c_i_GetW : C_i_GetW Te) : ∀ (s : ScanV) (h : s.b.length ≤ 2 ^ 31), RunFn Te x_i_scanword [.ptr s.enc] ⟨[.one (iT (scanWord s).1)], [(scanWord s).2.enc]⟩ := by
  intro s h
  refine ⟨by simp -implicitDefEqProofs (maxSteps := 1000000) only [x_i_scanword, go_sem], ?_⟩
  simp -implicitDefEqProofs (maxSteps := 1000000) only [x_i_scanword, go_sem, true_implies, false_implies]
  repeat (first | refine ⟨rfl, ?_⟩ | refine ⟨by decide, ?_⟩ | refine ⟨⟨by decide, by decide⟩, ?_⟩ | refine ⟨decide_eq_true (by omega), ?_⟩ | refine ⟨⟨decide_eq_true (by omega), decide_eq_true (by omega)⟩, ?_⟩)
  try (first | done | decide | exact decide_eq_true (by omega) | exact ⟨decide_eq_true (by omega), decide_eq_true (by omega)⟩)
  cases g : s.bad
  · cases g2 : (getW s.b s.i).2.2
    · have e : scanWord s = (0, ⟨s.b, s.i, true⟩) := if_pos (by rw [g, g2]; rfl)
      refine .of (c_i_GetW _ _ h) ?_
      try simp -implicitDefEqProofs (maxSteps := 1000000) only [go_sem, true_implies, false_implies, g, g2, e]
      repeat (first | refine ⟨rfl, ?_⟩ | refine ⟨by decide, ?_⟩ | refine ⟨⟨by decide, by decide⟩, ?_⟩ | refine ⟨decide_eq_true (by omega), ?_⟩ | refine ⟨⟨decide_eq_true (by omega), decide_eq_true (by omega)⟩, ?_⟩)
      try (first | done | decide | exact decide_eq_true (by omega) | exact ⟨decide_eq_true (by omega), decide_eq_true (by omega)⟩)
    · have e : scanWord s = ((getW s.b s.i).1, ⟨s.b, (getW s.b s.i).2.1, s.bad⟩) := if_neg (by rw [g, g2]; decide)
      refine .of (c_i_GetW _ _ h) ?_
      try simp -implicitDefEqProofs (maxSteps := 1000000) only [go_sem, true_implies, false_implies, g, g2, e]
      repeat (first | refine ⟨rfl, ?_⟩ | refine ⟨by decide, ?_⟩ | refine ⟨⟨by decide, by decide⟩, ?_⟩ | refine ⟨decide_eq_true (by omega), ?_⟩ | refine ⟨⟨decide_eq_true (by omega), decide_eq_true (by omega)⟩, ?_⟩)
      try (first | done | decide | exact decide_eq_true (by omega) | exact ⟨decide_eq_true (by omega), decide_eq_true (by omega)⟩)
  · have e : scanWord s = (0, ⟨s.b, s.i, true⟩) := if_pos (by rw [g]; rfl)
    refine .of (c_i_GetW _ _ h) ?_
    try simp -implicitDefEqProofs (maxSteps := 1000000) only [go_sem, true_implies, false_implies, g, e]
    repeat (first | refine ⟨rfl, ?_⟩ | refine ⟨by decide, ?_⟩ | refine ⟨⟨by decide, by decide⟩, ?_⟩ | refine ⟨decide_eq_true (by omega), ?_⟩ | refine ⟨⟨decide_eq_true (by omega), decide_eq_true (by omega)⟩, ?_⟩)
    try (first | done | decide | exact decide_eq_true (by omega) | exact ⟨decide_eq_true (by omega), decide_eq_true (by omega)⟩)
def x_i_scantext : FnX := ⟨35, [.tmp 2],
  .seq (.reg [⟨none, some 2, 2, .mv (.k (.one (.pv (.string ⟨#[]⟩))))⟩])
 (.seq (.draw [⟨none, some 7, 7, .mv (.t 0)⟩,
   ⟨none, some 8, 8, .nilc (.t 7)⟩,
   ⟨none, some 9, 9, .faddr (.t 8) 0⟩,
   ⟨none, some 10, 10, .load none (.t 9)⟩,
   ⟨none, some 11, 11, .mv (.t 0)⟩,
   ⟨none, some 12, 12, .nilc (.t 11)⟩,
   ⟨none, some 13, 13, .faddr (.t 12) 1⟩,
   ⟨none, some 14, 14, .load none (.t 13)⟩,
   ⟨none, some 15, 15, .call 82 [0, 0] [(.t 10), (.t 14)]⟩,
   ⟨none, some 6, 6, .mv (.t 15)⟩,
   ⟨none, some 16, 16, .ext (.t 6) 0⟩,
   ⟨none, some 17, 17, .ext (.t 6) 1⟩,
   ⟨none, some 18, 18, .ext (.t 6) 2⟩,
   ⟨none, some 3, 3, .mv (.t 16)⟩,
   ⟨none, some 4, 4, .mv (.t 17)⟩,
   ⟨none, some 5, 5, .mv (.t 18)⟩] [[], [0], [1], [2], [], [4], [5], [6], [3, 7], [8], [9], [9], [9], [10, 8, 0, 1, 2, 3, 4, 5, 6, 7, 8, 9, 10], [11, 13, 0, 1, 2, 3, 4, 5, 6, 7, 8, 9, 10, 11, 13], [12, 14, 0, 1, 2, 3, 4, 5, 6, 7, 8, 9, 10, 11, 12, 13, 14]])
 (.seq (.seq (.reg [⟨none, some 19, 19, .mv (.t 0)⟩,
   ⟨none, some 20, 20, .nilc (.t 19)⟩,
   ⟨none, some 21, 21, .faddr (.t 20) 2⟩,
   ⟨none, some 22, 22, .load none (.t 21)⟩,
   ⟨none, some 23, 23, .mv (.t 22)⟩,
   ⟨(some (23, false)), some 24, 24, .mv (.t 5)⟩,
   ⟨(some (23, false)), some 25, 25, .not (.t 24)⟩,
   ⟨none, some 26, 26, .pick (.t 23) (.k (.one (.pv (.bool true)))) (.t 25)⟩])
 (.cond 26 (.seq (.reg [⟨none, some 27, 27, .mv (.t 0)⟩,
   ⟨none, some 28, 28, .nilc (.t 27)⟩,
   ⟨none, some 29, 29, .faddr (.t 28) 2⟩,
   ⟨none, none, 100001, .store 1 (.t 29) (.k (.one (.pv (.bool true))))⟩])
 (.seq (.reg [⟨none, some 2, 2, .mv (.k (.one (.pv (.string ⟨#[]⟩))))⟩])
 (.ret))) (.skip)))
 (.seq (.reg [⟨none, some 30, 30, .mv (.t 0)⟩,
   ⟨none, some 31, 31, .mv (.t 4)⟩,
   ⟨none, some 32, 32, .nilc (.t 30)⟩,
   ⟨none, some 33, 33, .faddr (.t 32) 1⟩,
   ⟨none, none, 100002, .store 1 (.t 33) (.t 31)⟩])
 (.seq (.reg [⟨none, some 34, 34, .mv (.t 3)⟩,
   ⟨none, some 2, 2, .mv (.t 34)⟩])
 (.ret)))))⟩
abbrev C_i_scantext (Te : Nat → List AV → Res → Prop) : Prop := ∀ (s : ScanV) (h : s.b.length ≤ 2 ^ 31), Te 60 [.ptr s.enc] ⟨[.one (sT (scanText s).1)], [(scanText s).2.enc]⟩
theorem r_i_scantext {Te : Nat → List AV → Res → Prop} (c_i_GetText : C_i_GetText Te) : ∀ (s : ScanV) (h : s.b.length ≤ 2 ^ 31), RunFn Te x_i_scantext [.ptr s.enc] ⟨[.one (sT (scanText s).1)], [(scanText s).2.enc]⟩ := by
  intro s h
  refine ⟨by simp -implicitDefEqProofs (maxSteps := 1000000) only [x_i_scantext, go_sem], ?_⟩
  simp -implicitDefEqProofs (maxSteps := 1000000) only [x_i_scantext, go_sem, true_implies, false_implies]
  repeat (first | refine ⟨rfl, ?_⟩ | refine ⟨by decide, ?_⟩ | refine ⟨⟨by decide, by decide⟩, ?_⟩ | refine ⟨decide_eq_true (by omega), ?_⟩ | refine ⟨⟨decide_eq_true (by omega), decide_eq_true (by omega)⟩, ?_⟩)
  try (first | done | decide | exact decide_eq_true (by omega) | exact ⟨decide_eq_true (by omega), decide_eq_true (by omega)⟩)
  cases g : s.bad
  · cases g2 : (getText s.b s.i).2.2
    · have e : scanText s = (⟨#[]⟩, ⟨s.b, s.i, true⟩) := if_pos (by rw [g, g2]; rfl)
      refine .of (c_i_GetText _ _ h) ?_
      try simp -implicitDefEqProofs (maxSteps := 1000000) only [go_sem, true_implies, false_implies, g, g2, e]
      repeat (first | refine ⟨rfl, ?_⟩ | refine ⟨by decide, ?_⟩ | refine ⟨⟨by decide, by decide⟩, ?_⟩ | refine ⟨decide_eq_true (by omega), ?_⟩ | refine ⟨⟨decide_eq_true (by omega), decide_eq_true (by omega)⟩, ?_⟩)
      try (first | done | decide | exact decide_eq_true (by omega) | exact ⟨decide_eq_true (by omega), decide_eq_true (by omega)⟩)
    · have e : scanText s = ((getText s.b s.i).1, ⟨s.b, (getText s.b s.i).2.1, s.bad⟩) := if_neg (by rw [g, g2]; decide)
      refine .of (c_i_GetText _ _ h) ?_
      try simp -implicitDefEqProofs (maxSteps := 1000000) only [go_sem, true_implies, false_implies, g, g2, e]
      repeat (first | refine ⟨rfl, ?_⟩ | refine ⟨by decide, ?_⟩ | refine ⟨⟨by decide, by decide⟩, ?_⟩ | refine ⟨decide_eq_true (by omega), ?_⟩ | refine ⟨⟨decide_eq_true (by omega), decide_eq_true (by omega)⟩, ?_⟩)
      try (first | done | decide | exact decide_eq_true (by omega) | exact ⟨decide_eq_true (by omega), decide_eq_true (by omega)⟩)
  · have e : scanText s = (⟨#[]⟩, ⟨s.b, s.i, true⟩) := if_pos (by rw [g]; rfl)
    refine .of (c_i_GetText _ _ h) ?_
    try simp -implicitDefEqProofs (maxSteps := 1000000) only [go_sem, true_implies, false_implies, g, e]
    repeat (first | refine ⟨rfl, ?_⟩ | refine ⟨by decide, ?_⟩ | refine ⟨⟨by decide, by decide⟩, ?_⟩ | refine ⟨decide_eq_true (by omega), ?_⟩ | refine ⟨⟨decide_eq_true (by omega), decide_eq_true (by omega)⟩, ?_⟩)
    try (first | done | decide | exact decide_eq_true (by omega) | exact ⟨decide_eq_true (by omega), decide_eq_true (by omega)⟩)
def x_i_scansum : FnX := ⟨39, [.tmp 2],
  .seq (.reg [⟨none, some 2, 2, .mv (.k (.one (.pv (.bool false))))⟩])
 (.seq (.reg [⟨none, some 5, 5, .mv (.t 0)⟩,
   ⟨none, some 6, 6, .nilc (.t 5)⟩,
   ⟨none, some 7, 7, .faddr (.t 6) 1⟩,
   ⟨none, some 8, 8, .load none (.t 7)⟩,
   ⟨none, some 3, 3, .mv (.t 8)⟩])
 (.seq (.reg [⟨none, some 9, 9, .mv (.t 0)⟩,
   ⟨none, some 10, 10, .call 59 [5] [(.t 9)]⟩,
   ⟨none, some 4, 4, .mv (.t 10)⟩])
 (.seq (.draw [⟨none, some 11, 11, .mv (.t 0)⟩,
   ⟨none, some 12, 12, .nilc (.t 11)⟩,
   ⟨none, some 13, 13, .faddr (.t 12) 2⟩,
   ⟨none, some 14, 14, .load none (.t 13)⟩,
   ⟨none, some 15, 15, .not (.t 14)⟩,
   ⟨none, some 16, 16, .mv (.t 15)⟩,
   ⟨(some (16, true)), some 17, 17, .mv (.t 4)⟩,
   ⟨(some (16, true)), some 18, 18, .mv (.t 0)⟩,
   ⟨(some (16, true)), some 19, 19, .nilc (.t 18)⟩,
   ⟨(some (16, true)), some 20, 20, .faddr (.t 19) 0⟩,
   ⟨(some (16, true)), some 21, 21, .load none (.t 20)⟩,
   ⟨(some (16, true)), some 22, 22, .mv (.t 3)⟩,
   ⟨(some (16, true)), some 23, 23, .slice 1 (.t 21) none (some (.t 22))⟩,
   ⟨(some (16, true)), some 24, 24, .call 69 [0] [(.t 23)]⟩,
   ⟨(some (16, true)), some 25, 25, .bin .eql (.t 17) (.t 24)⟩,
   ⟨none, some 26, 26, .pick (.t 16) (.t 25) (.k (.one (.pv (.bool false))))⟩,
   ⟨none, some 27, 27, .mv (.t 26)⟩,
   ⟨(some (27, true)), some 28, 28, .mv (.t 0)⟩,
   ⟨(some (27, true)), some 29, 29, .nilc (.t 28)⟩,
   ⟨(some (27, true)), some 30, 30, .faddr (.t 29) 1⟩,
   ⟨(some (27, true)), some 31, 31, .load none (.t 30)⟩,
   ⟨(some (27, true)), some 32, 32, .mv (.t 0)⟩,
   ⟨(some (27, true)), some 33, 33, .nilc (.t 32)⟩,
   ⟨(some (27, true)), some 34, 34, .faddr (.t 33) 0⟩,
   ⟨(some (27, true)), some 35, 35, .load none (.t 34)⟩,
   ⟨(some (27, true)), some 36, 36, .len (.t 35)⟩,
   ⟨(some (27, true)), some 37, 37, .bin .eql (.t 31) (.t 36)⟩,
   ⟨none, some 38, 38, .pick (.t 27) (.t 37) (.k (.one (.pv (.bool false))))⟩,
   ⟨none, some 2, 2, .mv (.t 38)⟩] [[], [0], [1], [2], [3], [4], [5], [5], [7, 5], [8, 5], [9, 5], [5], [10, 11, 5], [12, 5, 5], [6, 13, 5], [5, 14], [15, 13], [16], [17, 16], [18, 16], [19, 16], [16], [21, 16], [22, 16], [23, 16], [24, 16], [20, 25, 16], [16, 26], [27, 16, 0, 1, 2, 3, 4, 5, 6, 7, 8, 9, 10, 11, 12, 13, 14, 15, 16, 17, 18, 19, 20, 21, 22, 23, 24, 25, 26, 27]])
 (.ret))))⟩
abbrev C_i_scansum (Te : Nat → List AV → Res → Prop) : Prop := ∀ (s : ScanV) (h : s.b.length ≤ 2 ^ 31), Te 61 [.ptr s.enc] ⟨[.one (bT (scanSum s).1)], [(scanSum s).2.enc]⟩
theorem r_i_scansum {Te : Nat → List AV → Res → Prop} (c_i_scanword : C_i_scanword Te) (c_i_Sum : C_i_Sum Te) : ∀ (s : ScanV) (h : s.b.length ≤ 2 ^ 31), RunFn Te x_i_scansum [.ptr s.enc] ⟨[.one (bT (scanSum s).1)], [(scanSum s).2.enc]⟩ := by
  intro s h
  refine ⟨by simp -implicitDefEqProofs (maxSteps := 1000000) only [x_i_scansum, go_sem], ?_⟩
  simp -implicitDefEqProofs (maxSteps := 1000000) only [x_i_scansum, go_sem, true_implies, false_implies]
  repeat (first | refine ⟨rfl, ?_⟩ | refine ⟨by decide, ?_⟩ | refine ⟨⟨by decide, by decide⟩, ?_⟩ | refine ⟨decide_eq_true (by omega), ?_⟩ | refine ⟨⟨decide_eq_true (by omega), decide_eq_true (by omega)⟩, ?_⟩)
  try (first | done | decide | exact decide_eq_true (by omega) | exact ⟨decide_eq_true (by omega), decide_eq_true (by omega)⟩)
  cases g : (scanWord s).2.bad
  · have hb := scanWord_b s
    have hw : (getW s.b s.i).2.2 = true := by
      unfold scanWord at g
      split at g
      · cases g
      · rename_i q
        simp only [Bool.or_eq_true, not_or, Bool.not_eq_true, Bool.not_eq_false'] at q
        exact q.2
    obtain ⟨g1, g2, g3, g4, g5⟩ := getW_bound s.b s.i hw
    have h0 : decide (0 ≤ s.i) = true := decide_eq_true g4
    have h1 : (s.b.take s.i.toNat).length ≤ 2 ^ 31 := by rw [List.length_take]; omega
    have e3 : List.take (s.i.toNat - 0) (s.b.map uR) = (s.b.take s.i.toNat).map uR := List.map_take.symm
    cases k : ((scanWord s).1 == ((sum (s.b.take s.i.toNat) : Nat) : Int))
    · have e : scanSum s = (false, (scanWord s).2) := by unfold scanSum; rw [g, k]; rfl
      refine .of (c_i_scanword s h) ?_
      try simp -implicitDefEqProofs (maxSteps := 1000000) only [go_sem, true_implies, false_implies, g, h0, hb, e3]
      repeat (first | refine ⟨rfl, ?_⟩ | refine ⟨by decide, ?_⟩ | refine ⟨⟨by decide, by decide⟩, ?_⟩ | refine ⟨decide_eq_true (by omega), ?_⟩ | refine ⟨⟨decide_eq_true (by omega), decide_eq_true (by omega)⟩, ?_⟩)
      try (first | done | decide | exact decide_eq_true (by omega) | exact ⟨decide_eq_true (by omega), decide_eq_true (by omega)⟩)
      refine .of (c_i_Sum _ h1) ?_
      try simp -implicitDefEqProofs (maxSteps := 1000000) only [go_sem, true_implies, false_implies, k, e, ScanV.enc, g, hb]
      repeat (first | refine ⟨rfl, ?_⟩ | refine ⟨by decide, ?_⟩ | refine ⟨⟨by decide, by decide⟩, ?_⟩ | refine ⟨decide_eq_true (by omega), ?_⟩ | refine ⟨⟨decide_eq_true (by omega), decide_eq_true (by omega)⟩, ?_⟩)
      try (first | done | decide | exact decide_eq_true (by omega) | exact ⟨decide_eq_true (by omega), decide_eq_true (by omega)⟩)
    · have e : scanSum s = (((scanWord s).2.i == s.b.length), (scanWord s).2) := by unfold scanSum; rw [g, k]; rfl
      refine .of (c_i_scanword s h) ?_
      try simp -implicitDefEqProofs (maxSteps := 1000000) only [go_sem, true_implies, false_implies, g, h0, hb, e3]
      repeat (first | refine ⟨rfl, ?_⟩ | refine ⟨by decide, ?_⟩ | refine ⟨⟨by decide, by decide⟩, ?_⟩ | refine ⟨decide_eq_true (by omega), ?_⟩ | refine ⟨⟨decide_eq_true (by omega), decide_eq_true (by omega)⟩, ?_⟩)
      try (first | done | decide | exact decide_eq_true (by omega) | exact ⟨decide_eq_true (by omega), decide_eq_true (by omega)⟩)
      refine .of (c_i_Sum _ h1) ?_
      try simp -implicitDefEqProofs (maxSteps := 1000000) only [go_sem, true_implies, false_implies, k, e, ScanV.enc, g, hb]
      repeat (first | refine ⟨rfl, ?_⟩ | refine ⟨by decide, ?_⟩ | refine ⟨⟨by decide, by decide⟩, ?_⟩ | refine ⟨decide_eq_true (by omega), ?_⟩ | refine ⟨⟨decide_eq_true (by omega), decide_eq_true (by omega)⟩, ?_⟩)
      try (first | done | decide | exact decide_eq_true (by omega) | exact ⟨decide_eq_true (by omega), decide_eq_true (by omega)⟩)
  · have e : scanSum s = (false, (scanWord s).2) := by unfold scanSum; rw [g]; rfl
    refine .of (c_i_scanword s h) ?_
    try simp -implicitDefEqProofs (maxSteps := 1000000) only [go_sem, true_implies, false_implies, g, e, ScanV.enc]
    repeat (first | refine ⟨rfl, ?_⟩ | refine ⟨by decide, ?_⟩ | refine ⟨⟨by decide, by decide⟩, ?_⟩ | refine ⟨decide_eq_true (by omega), ?_⟩ | refine ⟨⟨decide_eq_true (by omega), decide_eq_true (by omega)⟩, ?_⟩)
    try (first | done | decide | exact decide_eq_true (by omega) | exact ⟨decide_eq_true (by omega), decide_eq_true (by omega)⟩)
end Go.X

/- Kc -/
namespace Go.X
set_option maxRecDepth 100000
set_option maxHeartbeats 8000000
def msg0 : Msg := ⟨0, 0, 0, 0, ⟨#[]⟩, ⟨#[]⟩, 0, 0⟩
def getMsg (b : List UInt8) : Msg × Bool :=
  if (b.length : Int) - 2 < 5 then (msg0, false) else
  let c := b.take (b.length - 2)
  let w := getW c 5
  let k := getText c w.2.1
  let t := getText c k.2.1
  let m : Msg := ⟨byteZ b 0, byteZ b 1, byteZ b 2, w.1, k.1, t.1, byteZ b 3, byteZ b 4⟩
  if (w.2.2 && (k.2.2 && (t.2.2 && (t.2.1 == (b.length : Int) - 2 && ((getW b ((b.length : Int) - 2)).1 == (sum c : Nat) && m.ok))))) = true then (m, true) else (msg0, false)
section
variable (b : List UInt8)
def sc1 : Int × ScanV := scanOne ⟨b, 0, false⟩
def sc2 : Int × ScanV := scanOne (sc1 b).2
def sc3 : Int × ScanV := scanOne (sc2 b).2
def sc4 : Int × ScanV := scanOne (sc3 b).2
def sc5 : Int × ScanV := scanOne (sc4 b).2
def sc6 : Int × ScanV := scanWord (sc5 b).2
def sc7 : ByteArray × ScanV := scanText (sc6 b).2
def sc8 : ByteArray × ScanV := scanText (sc7 b).2
def scM : Msg := ⟨(sc1 b).1, (sc2 b).1, (sc3 b).1, (sc6 b).1, (sc7 b).1, (sc8 b).1, (sc4 b).1, (sc5 b).1⟩
def scGet : Msg × Bool := if ((scanSum (sc8 b).2).1 && (scM b).ok) = true then (scM b, true) else (msg0, false)
theorem sc1_b : (sc1 b).2.b = b := scanOne_b _
theorem sc2_b : (sc2 b).2.b = b := (scanOne_b _).trans (sc1_b b)
theorem sc3_b : (sc3 b).2.b = b := (scanOne_b _).trans (sc2_b b)
theorem sc4_b : (sc4 b).2.b = b := (scanOne_b _).trans (sc3_b b)
theorem sc5_b : (sc5 b).2.b = b := (scanOne_b _).trans (sc4_b b)
theorem sc6_b : (sc6 b).2.b = b := (scanWord_b _).trans (sc5_b b)
theorem sc7_b : (sc7 b).2.b = b := (scanText_b _).trans (sc6_b b)
theorem sc8_b : (sc8 b).2.b = b := (scanText_b _).trans (sc7_b b)
end
theorem byteZ_take {b : List UInt8} {e k : Nat} (h : k < e) : byteZ (b.take e) k = byteZ b k := by
  simp only [byteZ, List.getD_eq_getElem?_getD, List.getElem?_take, if_pos h]
theorem getW_take {b : List UInt8} {e : Nat} (he : e ≤ b.length) {i : Int} (h : 0 ≤ i ∧ i + 2 ≤ e) : getW (b.take e) i = getW b i := by
  have hl : (b.take e).length = e := by rw [List.length_take]; omega
  have g1 : win i 0 (((b.take e).length : Int) - 2) = true := by simp only [win, Bool.and_eq_true, decide_eq_true_eq]; omega
  have g2 : win i 0 ((b.length : Int) - 2) = true := by simp only [win, Bool.and_eq_true, decide_eq_true_eq]; omega
  rw [getW_yes g1, getW_yes g2, byteZ_take (by omega), byteZ_take (by omega)]
theorem getText_ok {b : List UInt8} {i : Int} (h : (getText b i).2.2 = true) : (getW b i).2.2 = true ∧ (getW b i).1 ≤ 60 ∧ (getW b i).1 ≤ b.length - (getW b i).2.1 ∧ getText b i = (cutS b (getW b i).2.1 (getW b i).1, (getW b i).2.1 + (getW b i).1, true) := by
  cases g : ((getW b i).2.2 && (decide ((getW b i).1 ≤ 60) && decide ((getW b i).1 ≤ b.length - (getW b i).2.1)))
  · rw [getText_no g] at h
    cases h
  · refine ⟨?_, ?_, ?_, getText_yes g⟩
    all_goals simp only [Bool.and_eq_true, decide_eq_true_eq] at g
    · exact g.1
    · exact g.2.1
    · exact g.2.2
theorem getText_take {b : List UInt8} {e : Nat} (he : e ≤ b.length) {i : Int} (h : 0 ≤ i ∧ i + 2 ≤ e) (h2 : (getW b i).1 ≤ 60 ∧ (getW b i).1 ≤ e - (i + 2)) : getText (b.take e) i = getText b i := by
  have hl : (b.take e).length = e := by rw [List.length_take]; omega
  have hw := getW_take he h
  have g2 : win i 0 ((b.length : Int) - 2) = true := by simp only [win, Bool.and_eq_true, decide_eq_true_eq]; omega
  have hy := getW_yes g2
  have h3 : (getW b i).2.1 = i + 2 := by rw [hy]
  have h4 : (getW b i).2.2 = true := by rw [hy]
  have h5 : 0 ≤ (getW b i).1 := (getW_bound b i h4).1
  rw [getText_yes (b := b) (by rw [h4, h3, decide_eq_true h2.1, decide_eq_true (by omega)]; rfl), getText_yes (by rw [hw, hl, h4, h3, decide_eq_true h2.1, decide_eq_true (by omega)]; rfl), hw]
  have : cutS (b.take e) (getW b i).2.1 (getW b i).1 = cutS b (getW b i).2.1 (getW b i).1 := by
    unfold cutS
    rw [h3, List.drop_take, List.take_take, Nat.min_eq_left (by omega)]
  rw [this]
theorem one_good {s : ScanV} (h : (scanOne s).2.bad = false) : s.bad = false ∧ 0 ≤ s.i ∧ s.i < s.b.length ∧ scanOne s = (((byteZ s.b s.i.toNat : Nat) : Int), ⟨s.b, s.i + 1, false⟩) := by
  unfold scanOne at h ⊢
  split at h
  · cases h
  · rename_i q
    rw [if_neg q]
    have h' : s.bad = false := h
    rw [h']
    rw [h'] at q
    simp only [Bool.false_or, Bool.or_eq_true, decide_eq_true_eq] at q
    exact ⟨rfl, by omega, by omega, rfl⟩
theorem one_is {s : ScanV} (h : s.bad = false) (h1 : 0 ≤ s.i) (h2 : s.i < s.b.length) : scanOne s = (((byteZ s.b s.i.toNat : Nat) : Int), ⟨s.b, s.i + 1, false⟩) := by
  unfold scanOne
  rw [h, decide_eq_false (by omega), decide_eq_false (by omega)]
  rfl
theorem word_good {s : ScanV} (h : (scanWord s).2.bad = false) : s.bad = false ∧ (getW s.b s.i).2.2 = true ∧ scanWord s = ((getW s.b s.i).1, ⟨s.b, (getW s.b s.i).2.1, false⟩) := by
  unfold scanWord at h ⊢
  split at h
  · cases h
  · rename_i q
    rw [if_neg q]
    have h' : s.bad = false := h
    rw [h']
    rw [h'] at q
    simp only [Bool.false_or, Bool.not_eq_true, Bool.not_eq_false'] at q
    exact ⟨rfl, q, rfl⟩
theorem word_is {s : ScanV} (h : s.bad = false) (h1 : (getW s.b s.i).2.2 = true) : scanWord s = ((getW s.b s.i).1, ⟨s.b, (getW s.b s.i).2.1, false⟩) := by
  unfold scanWord
  rw [h, h1]
  rfl
theorem text_good {s : ScanV} (h : (scanText s).2.bad = false) : s.bad = false ∧ (getText s.b s.i).2.2 = true ∧ scanText s = ((getText s.b s.i).1, ⟨s.b, (getText s.b s.i).2.1, false⟩) := by
  unfold scanText at h ⊢
  split at h
  · cases h
  · rename_i q
    rw [if_neg q]
    have h' : s.bad = false := h
    rw [h']
    rw [h'] at q
    simp only [Bool.false_or, Bool.not_eq_true, Bool.not_eq_false'] at q
    exact ⟨rfl, q, rfl⟩
theorem text_is {s : ScanV} (h : s.bad = false) (h1 : (getText s.b s.i).2.2 = true) : scanText s = ((getText s.b s.i).1, ⟨s.b, (getText s.b s.i).2.1, false⟩) := by
  unfold scanText
  rw [h, h1]
  rfl
theorem scGet_eq (b : List UInt8) : scGet b = getMsg b := by
  have e0 : ((0 : Int) + 1) = 1 := rfl
  by_cases hL : 7 ≤ b.length
  · have h1 : sc1 b = (((byteZ b 0 : Nat) : Int), ⟨b, 1, false⟩) := one_is rfl (Int.le_refl _) (by show (0 : Int) < b.length; omega)
    have h2 : sc2 b = (((byteZ b 1 : Nat) : Int), ⟨b, 2, false⟩) := by unfold sc2; rw [h1]; exact one_is rfl (by show (0 : Int) ≤ 1; omega) (by show (1 : Int) < b.length; omega)
    have h3 : sc3 b = (((byteZ b 2 : Nat) : Int), ⟨b, 3, false⟩) := by unfold sc3; rw [h2]; exact one_is rfl (by show (0 : Int) ≤ 2; omega) (by show (2 : Int) < b.length; omega)
    have h4 : sc4 b = (((byteZ b 3 : Nat) : Int), ⟨b, 4, false⟩) := by unfold sc4; rw [h3]; exact one_is rfl (by show (0 : Int) ≤ 3; omega) (by show (3 : Int) < b.length; omega)
    have h5 : sc5 b = (((byteZ b 4 : Nat) : Int), ⟨b, 5, false⟩) := by unfold sc5; rw [h4]; exact one_is rfl (by show (0 : Int) ≤ 4; omega) (by show (4 : Int) < b.length; omega)
    have hn : ¬ ((b.length : Int) - 2 < 5) := by omega
    have hc : b.length - 2 ≤ b.length := by omega
    have hc2 : ((b.length - 2 : Nat) : Int) = (b.length : Int) - 2 := by omega
    have hlc : (b.take (b.length - 2)).length = b.length - 2 := by rw [List.length_take]; omega
    cases G : (scanSum (sc8 b).2).1
    · have e : scGet b = (msg0, false) := by unfold scGet; rw [G]; rfl
      rw [e]
      symm
      unfold getMsg
      rw [if_neg hn]
      refine if_neg fun C => ?_
      simp only [Bool.and_eq_true, beq_iff_eq] at C
      obtain ⟨c1, c2, c3, c4, c5, c6⟩ := C
      obtain ⟨w1, w2, w3, w4, w5⟩ := getW_bound _ _ c1
      rw [hlc] at w5
      have ew := getW_take hc (i := 5) ⟨by omega, by omega⟩
      rw [w3] at c2 c3 c4
      obtain ⟨k1, k2, k3, k4⟩ := getText_ok c2
      obtain ⟨kw1, kw2, kw3, kw4, kw5⟩ := getW_bound _ _ k1
      rw [hlc, kw3] at k3
      rw [hlc] at kw5
      have ekw := getW_take hc (i := 5 + 2) ⟨by omega, by omega⟩
      have ek := getText_take hc (i := 5 + 2) ⟨by omega, by omega⟩ (by rw [← ekw]; exact ⟨k2, by omega⟩)
      have ek2 : (getText (b.take (b.length - 2)) (5 + 2)).2.1 = 5 + 2 + 2 + (getW (b.take (b.length - 2)) (5 + 2)).1 := by rw [k4, kw3]
      rw [ek2] at c3 c4
      obtain ⟨t1, t2, t3, t4⟩ := getText_ok c3
      obtain ⟨tw1, tw2, tw3, tw4, tw5⟩ := getW_bound _ _ t1
      rw [hlc, tw3] at t3
      rw [hlc] at tw5
      have etw := getW_take hc (i := 5 + 2 + 2 + (getW (b.take (b.length - 2)) (5 + 2)).1) ⟨by omega, by omega⟩
      have et := getText_take hc (i := 5 + 2 + 2 + (getW (b.take (b.length - 2)) (5 + 2)).1) ⟨by omega, by omega⟩ (by rw [← etw]; exact ⟨t2, by omega⟩)
      have h6 : sc6 b = ((getW b 5).1, ⟨b, (getW b 5).2.1, false⟩) := by unfold sc6; rw [h5]; exact word_is rfl (by show (getW b 5).2.2 = true; rw [← ew]; exact c1)
      have g6 : (getW b 5).2.1 = 5 + 2 := by rw [← ew]; exact w3
      have h7 : sc7 b = ((getText b (5 + 2)).1, ⟨b, (getText b (5 + 2)).2.1, false⟩) := by unfold sc7; rw [h6, g6]; exact text_is rfl (by show (getText b (5 + 2)).2.2 = true; rw [← ek]; exact c2)
      have g7 : (getText b (5 + 2)).2.1 = 5 + 2 + 2 + (getW (b.take (b.length - 2)) (5 + 2)).1 := by rw [← ek]; exact ek2
      have h8 : sc8 b = ((getText b (5 + 2 + 2 + (getW (b.take (b.length - 2)) (5 + 2)).1)).1, ⟨b, (getText b (5 + 2 + 2 + (getW (b.take (b.length - 2)) (5 + 2)).1)).2.1, false⟩) := by unfold sc8; rw [h7, g7]; exact text_is rfl (by show (getText b _).2.2 = true; rw [← et]; exact c3)
      have g8 : (getText b (5 + 2 + 2 + (getW (b.take (b.length - 2)) (5 + 2)).1)).2.1 = (b.length : Int) - 2 := by rw [← et]; exact c4
      have gs : (getW b ((b.length : Int) - 2)) = ((getW b ((b.length : Int) - 2)).1, (b.length : Int) - 2 + 2, true) := by
        rw [getW_yes (by simp only [win, Bool.and_eq_true, decide_eq_true_eq]; omega)]
      have hs : scanSum (sc8 b).2 = (true, (scanWord (sc8 b).2).2) := by
        have e9 : scanWord (sc8 b).2 = ((getW b ((b.length : Int) - 2)).1, ⟨b, (b.length : Int) - 2 + 2, false⟩) := by
          rw [h8, g8]
          rw [word_is (s := ⟨b, (b.length : Int) - 2, false⟩) rfl (by show (getW b _).2.2 = true; rw [gs])]
          show _ = _
          rw [show (getW b ((b.length : Int) - 2)).2.1 = (b.length : Int) - 2 + 2 by rw [gs]]
        unfold scanSum
        rw [e9, h8, g8]
        simp only [Bool.not_false, Bool.true_and]
        rw [show ((b.length : Int) - 2).toNat = b.length - 2 by omega, c5]
        simp only [beq_self_eq_true, Bool.true_and, Prod.mk.injEq, and_true, beq_iff_eq]
        omega
      rw [hs] at G
      cases G
    · have hg : (scanSum (sc8 b).2).1 = true := G
      simp only [scanSum, Bool.and_eq_true, Bool.not_eq_true', beq_iff_eq] at hg
      obtain ⟨q1, q2, q3⟩ := hg
      obtain ⟨a1, a2, a3⟩ := word_good q1
      have a1' : (scanText (sc7 b).2).2.bad = false := a1
      obtain ⟨b1, b2, b3⟩ := text_good a1'
      have b1' : (scanText (sc6 b).2).2.bad = false := b1
      obtain ⟨c1, c2, c3⟩ := text_good b1'
      have c1' : (scanWord (sc5 b).2).2.bad = false := c1
      obtain ⟨d1, d2, d3⟩ := word_good c1'
      rw [h5] at d2 d3
      simp only at d2 d3
      have h6 : sc6 b = ((getW b 5).1, ⟨b, (getW b 5).2.1, false⟩) := by unfold sc6; rw [h5]; exact d3
      obtain ⟨w1, w2, w3, w4, w5⟩ := getW_bound _ _ d2
      rw [w3] at h6
      rw [h6] at c2 c3
      simp only at c2 c3
      have h7 : sc7 b = ((getText b (5 + 2)).1, ⟨b, (getText b (5 + 2)).2.1, false⟩) := by unfold sc7; rw [h6]; exact c3
      obtain ⟨k1, k2, k3, k4⟩ := getText_ok c2
      obtain ⟨kw1, kw2, kw3, kw4, kw5⟩ := getW_bound _ _ k1
      rw [kw3] at k3
      have g7 : (getText b (5 + 2)).2.1 = 5 + 2 + 2 + (getW b (5 + 2)).1 := by rw [k4, kw3]
      rw [g7] at h7
      rw [h7] at b2 b3
      simp only at b2 b3
      have h8 : sc8 b = ((getText b (5 + 2 + 2 + (getW b (5 + 2)).1)).1, ⟨b, (getText b (5 + 2 + 2 + (getW b (5 + 2)).1)).2.1, false⟩) := by unfold sc8; rw [h7]; exact b3
      obtain ⟨t1, t2, t3, t4⟩ := getText_ok b2
      obtain ⟨tw1, tw2, tw3, tw4, tw5⟩ := getW_bound _ _ t1
      rw [tw3] at t3
      have g8 : (getText b (5 + 2 + 2 + (getW b (5 + 2)).1)).2.1 = 5 + 2 + 2 + (getW b (5 + 2)).1 + 2 + (getW b (5 + 2 + 2 + (getW b (5 + 2)).1)).1 := by rw [t4, tw3]
      rw [h8] at a2 a3 q2 q3
      simp only at a2 a3 q2 q3
      obtain ⟨s1, s2, s3, s4, s5⟩ := getW_bound _ _ a2
      rw [a3] at q2 q3
      simp only at q2 q3
      rw [s3] at q3
      have hend : (getText b (5 + 2 + 2 + (getW b (5 + 2)).1)).2.1 = (b.length : Int) - 2 := by omega
      have ew := getW_take hc (i := 5) ⟨by omega, by omega⟩
      have ek := getText_take hc (i := 5 + 2) ⟨by omega, by omega⟩ ⟨k2, by omega⟩
      have et := getText_take hc (i := 5 + 2 + 2 + (getW b (5 + 2)).1) ⟨by omega, by omega⟩ ⟨t2, by omega⟩
      rw [hend] at q2
      rw [show ((b.length : Int) - 2).toNat = b.length - 2 by omega] at q2
      have eM : scM b = ⟨byteZ b 0, byteZ b 1, byteZ b 2, (getW b 5).1, (getText b (5 + 2)).1, (getText b (5 + 2 + 2 + (getW b (5 + 2)).1)).1, byteZ b 3, byteZ b 4⟩ := by
        unfold scM
        rw [h1, h2, h3, h4, h5, h6, h7, h8]
      unfold getMsg
      rw [if_neg hn]
      simp only [ew, w3, ek, g7, et, hend, d2, c2, b2, q2, beq_self_eq_true, Bool.true_and, ← eM]
      unfold scGet
      rw [G, Bool.true_and]
  · have e : getMsg b = (msg0, false) := by
      unfold getMsg
      exact if_pos (by omega)
    rw [e]
    unfold scGet
    refine if_neg fun C => ?_
    simp only [scanSum, Bool.and_eq_true, Bool.not_eq_true', beq_iff_eq] at C
    obtain ⟨⟨q1, q2, q3⟩, q4⟩ := C
    obtain ⟨a1, a2, a3⟩ := word_good q1
    have a1' : (scanText (sc7 b).2).2.bad = false := a1
    obtain ⟨b1, b2, b3⟩ := text_good a1'
    have b1' : (scanText (sc6 b).2).2.bad = false := b1
    obtain ⟨c1, c2, c3⟩ := text_good b1'
    have c1' : (scanWord (sc5 b).2).2.bad = false := c1
    obtain ⟨d1, d2, d3⟩ := word_good c1'
    obtain ⟨w1, w2, w3, w4, w5⟩ := getW_bound _ _ d2
    rw [sc5_b] at w5
    obtain ⟨e1, e2, e3, e4⟩ := one_good d1
    obtain ⟨f1, f2, f3, f4⟩ := one_good e1
    obtain ⟨g1, g2, g3, g4⟩ := one_good f1
    obtain ⟨i1, i2, i3, i4⟩ := one_good g1
    obtain ⟨j1, j2, j3, j4⟩ := one_good i1
    have m1 : (sc1 b).2.i = 1 := congrArg (fun x => x.2.i) j4
    have m2 : (sc2 b).2.i = (sc1 b).2.i + 1 := congrArg (fun x => x.2.i) i4
    have m3 : (sc3 b).2.i = (sc2 b).2.i + 1 := congrArg (fun x => x.2.i) g4
    have m4 : (sc4 b).2.i = (sc3 b).2.i + 1 := congrArg (fun x => x.2.i) f4
    have m5 : (sc5 b).2.i = (sc4 b).2.i + 1 := congrArg (fun x => x.2.i) e4
    omega
def x_i_GetMsg : FnX := ⟨44, [.cell 2 (some 8), .tmp 3],
  .seq (.reg [⟨none, some 2, 2, .alloc [.pv (.int .i64 0), .pv (.int .i64 0), .pv (.int .i64 0), .pv (.int .i64 0), .pv (.string ⟨#[]⟩), .pv (.string ⟨#[]⟩), .pv (.int .i64 0), .pv (.int .i64 0)]⟩,
   ⟨none, some 3, 3, .mv (.k (.one (.pv (.bool false))))⟩])
 (.seq (.reg [⟨none, some 6, 6, .mv (.t 0)⟩,
   ⟨none, some 7, 7, .build [.nils 1, .pv (.int .i64 0), .pv (.bool false)] [(0, 1, (.t 6))]⟩,
   ⟨none, some 8, 8, .box (.t 7)⟩,
   ⟨none, some 4, 4, .mv (.t 8)⟩])
 (.seq (.reg [⟨none, some 9, 9, .build [.pv (.int .i64 0), .pv (.int .i64 0), .pv (.int .i64 0), .pv (.int .i64 0), .pv (.string ⟨#[]⟩), .pv (.string ⟨#[]⟩), .pv (.int .i64 0), .pv (.int .i64 0)] []⟩,
   ⟨none, some 5, 5, .alloc [.pv (.int .i64 0), .pv (.int .i64 0), .pv (.int .i64 0), .pv (.int .i64 0), .pv (.string ⟨#[]⟩), .pv (.string ⟨#[]⟩), .pv (.int .i64 0), .pv (.int .i64 0)]⟩,
   ⟨none, none, 100001, .store 8 (.t 5) (.t 9)⟩])
 (.seq (.reg [⟨none, some 10, 10, .mv (.t 4)⟩,
   ⟨none, some 11, 11, .call 58 [5] [(.t 10)]⟩,
   ⟨none, some 12, 12, .faddr (.t 5) 0⟩,
   ⟨none, none, 100002, .store 1 (.t 12) (.t 11)⟩])
 (.seq (.reg [⟨none, some 13, 13, .mv (.t 4)⟩,
   ⟨none, some 14, 14, .call 58 [5] [(.t 13)]⟩,
   ⟨none, some 15, 15, .faddr (.t 5) 1⟩,
   ⟨none, none, 100003, .store 1 (.t 15) (.t 14)⟩])
 (.seq (.reg [⟨none, some 16, 16, .mv (.t 4)⟩,
   ⟨none, some 17, 17, .call 58 [5] [(.t 16)]⟩,
   ⟨none, some 18, 18, .faddr (.t 5) 2⟩,
   ⟨none, none, 100004, .store 1 (.t 18) (.t 17)⟩])
 (.seq (.reg [⟨none, some 19, 19, .mv (.t 4)⟩,
   ⟨none, some 20, 20, .call 58 [5] [(.t 19)]⟩,
   ⟨none, some 21, 21, .faddr (.t 5) 6⟩,
   ⟨none, none, 100005, .store 1 (.t 21) (.t 20)⟩])
 (.seq (.reg [⟨none, some 22, 22, .mv (.t 4)⟩,
   ⟨none, some 23, 23, .call 58 [5] [(.t 22)]⟩,
   ⟨none, some 24, 24, .faddr (.t 5) 7⟩,
   ⟨none, none, 100006, .store 1 (.t 24) (.t 23)⟩])
 (.seq (.reg [⟨none, some 25, 25, .mv (.t 4)⟩,
   ⟨none, some 26, 26, .call 59 [5] [(.t 25)]⟩,
   ⟨none, some 27, 27, .faddr (.t 5) 3⟩,
   ⟨none, none, 100007, .store 1 (.t 27) (.t 26)⟩])
 (.seq (.reg [⟨none, some 28, 28, .mv (.t 4)⟩,
   ⟨none, some 29, 29, .call 60 [5] [(.t 28)]⟩,
   ⟨none, some 30, 30, .faddr (.t 5) 4⟩,
   ⟨none, none, 100008, .store 1 (.t 30) (.t 29)⟩])
 (.seq (.reg [⟨none, some 31, 31, .mv (.t 4)⟩,
   ⟨none, some 32, 32, .call 60 [5] [(.t 31)]⟩,
   ⟨none, some 33, 33, .faddr (.t 5) 5⟩,
   ⟨none, none, 100009, .store 1 (.t 33) (.t 32)⟩])
 (.seq (.seq (.reg [⟨none, some 34, 34, .mv (.t 4)⟩,
   ⟨none, some 35, 35, .call 61 [5] [(.t 34)]⟩,
   ⟨none, some 36, 36, .not (.t 35)⟩,
   ⟨none, some 37, 37, .mv (.t 36)⟩,
   ⟨(some (37, false)), some 38, 38, .load (some 8) (.t 5)⟩,
   ⟨(some (37, false)), some 39, 39, .call 15 [0] [(.t 38)]⟩,
   ⟨(some (37, false)), some 40, 40, .not (.t 39)⟩,
   ⟨none, some 41, 41, .pick (.t 37) (.k (.one (.pv (.bool true)))) (.t 40)⟩])
 (.cond 41 (.seq (.reg [⟨none, some 42, 42, .build [.pv (.int .i64 0), .pv (.int .i64 0), .pv (.int .i64 0), .pv (.int .i64 0), .pv (.string ⟨#[]⟩), .pv (.string ⟨#[]⟩), .pv (.int .i64 0), .pv (.int .i64 0)] []⟩,
   ⟨none, none, 100010, .store 8 (.t 2) (.t 42)⟩,
   ⟨none, some 3, 3, .mv (.k (.one (.pv (.bool false))))⟩])
 (.ret)) (.skip)))
 (.seq (.reg [⟨none, some 43, 43, .load (some 8) (.t 5)⟩,
   ⟨none, none, 100011, .store 8 (.t 2) (.t 43)⟩,
   ⟨none, some 3, 3, .mv (.k (.one (.pv (.bool true))))⟩])
 (.ret)))))))))))))⟩
abbrev C_i_GetMsg (Te : Nat → List AV → Res → Prop) : Prop := ∀ (b : List UInt8) (h : b.length ≤ 2 ^ 31), Te 20 [.one (slT false 1 uR b)] ⟨[.agg (getMsg b).1.row, .one (bT (getMsg b).2)], [[slT false 1 uR b]]⟩
theorem r_i_GetMsg {Te : Nat → List AV → Res → Prop} (c_i_scanone : C_i_scanone Te) (c_i_scanword : C_i_scanword Te) (c_i_scantext : C_i_scantext Te) (c_i_scansum : C_i_scansum Te) (c_i_MsgOk : C_i_MsgOk Te) : ∀ (b : List UInt8) (h : b.length ≤ 2 ^ 31), RunFn Te x_i_GetMsg [.one (slT false 1 uR b)] ⟨[.agg (getMsg b).1.row, .one (bT (getMsg b).2)], [[slT false 1 uR b]]⟩ := by
  intro b h
  refine ⟨by simp -implicitDefEqProofs (maxSteps := 1000000) only [x_i_GetMsg, go_sem], ?_⟩
  rw [← scGet_eq]
  have f1 : scanOne ⟨b, 0, false⟩ = sc1 b := rfl
  have f2 : scanOne (sc1 b).2 = sc2 b := rfl
  have f3 : scanOne (sc2 b).2 = sc3 b := rfl
  have f4 : scanOne (sc3 b).2 = sc4 b := rfl
  have f5 : scanOne (sc4 b).2 = sc5 b := rfl
  have f6 : scanWord (sc5 b).2 = sc6 b := rfl
  have f7 : scanText (sc6 b).2 = sc7 b := rfl
  have f8 : scanText (sc7 b).2 = sc8 b := rfl
  simp -implicitDefEqProofs (maxSteps := 1000000) only [x_i_GetMsg, go_sem, true_implies, false_implies]
  repeat (first | refine ⟨rfl, ?_⟩ | refine ⟨by decide, ?_⟩ | refine ⟨⟨by decide, by decide⟩, ?_⟩ | refine ⟨decide_eq_true (by omega), ?_⟩ | refine ⟨⟨decide_eq_true (by omega), decide_eq_true (by omega)⟩, ?_⟩)
  try (first | done | decide | exact decide_eq_true (by omega) | exact ⟨decide_eq_true (by omega), decide_eq_true (by omega)⟩)
  refine .of (c_i_scanone ⟨b, 0, false⟩ h) ?_
  try simp -implicitDefEqProofs (maxSteps := 1000000) only [go_sem, true_implies, false_implies, f1]
  repeat (first | refine ⟨rfl, ?_⟩ | refine ⟨by decide, ?_⟩ | refine ⟨⟨by decide, by decide⟩, ?_⟩ | refine ⟨decide_eq_true (by omega), ?_⟩ | refine ⟨⟨decide_eq_true (by omega), decide_eq_true (by omega)⟩, ?_⟩)
  try (first | done | decide | exact decide_eq_true (by omega) | exact ⟨decide_eq_true (by omega), decide_eq_true (by omega)⟩)
  refine .of (c_i_scanone (sc1 b).2 (by rw [sc1_b]; exact h)) ?_
  try simp -implicitDefEqProofs (maxSteps := 1000000) only [go_sem, true_implies, false_implies, f2]
  repeat (first | refine ⟨rfl, ?_⟩ | refine ⟨by decide, ?_⟩ | refine ⟨⟨by decide, by decide⟩, ?_⟩ | refine ⟨decide_eq_true (by omega), ?_⟩ | refine ⟨⟨decide_eq_true (by omega), decide_eq_true (by omega)⟩, ?_⟩)
  try (first | done | decide | exact decide_eq_true (by omega) | exact ⟨decide_eq_true (by omega), decide_eq_true (by omega)⟩)
  refine .of (c_i_scanone (sc2 b).2 (by rw [sc2_b]; exact h)) ?_
  try simp -implicitDefEqProofs (maxSteps := 1000000) only [go_sem, true_implies, false_implies, f3]
  repeat (first | refine ⟨rfl, ?_⟩ | refine ⟨by decide, ?_⟩ | refine ⟨⟨by decide, by decide⟩, ?_⟩ | refine ⟨decide_eq_true (by omega), ?_⟩ | refine ⟨⟨decide_eq_true (by omega), decide_eq_true (by omega)⟩, ?_⟩)
  try (first | done | decide | exact decide_eq_true (by omega) | exact ⟨decide_eq_true (by omega), decide_eq_true (by omega)⟩)
  refine .of (c_i_scanone (sc3 b).2 (by rw [sc3_b]; exact h)) ?_
  try simp -implicitDefEqProofs (maxSteps := 1000000) only [go_sem, true_implies, false_implies, f4]
  repeat (first | refine ⟨rfl, ?_⟩ | refine ⟨by decide, ?_⟩ | refine ⟨⟨by decide, by decide⟩, ?_⟩ | refine ⟨decide_eq_true (by omega), ?_⟩ | refine ⟨⟨decide_eq_true (by omega), decide_eq_true (by omega)⟩, ?_⟩)
  try (first | done | decide | exact decide_eq_true (by omega) | exact ⟨decide_eq_true (by omega), decide_eq_true (by omega)⟩)
  refine .of (c_i_scanone (sc4 b).2 (by rw [sc4_b]; exact h)) ?_
  try simp -implicitDefEqProofs (maxSteps := 1000000) only [go_sem, true_implies, false_implies, f5]
  repeat (first | refine ⟨rfl, ?_⟩ | refine ⟨by decide, ?_⟩ | refine ⟨⟨by decide, by decide⟩, ?_⟩ | refine ⟨decide_eq_true (by omega), ?_⟩ | refine ⟨⟨decide_eq_true (by omega), decide_eq_true (by omega)⟩, ?_⟩)
  try (first | done | decide | exact decide_eq_true (by omega) | exact ⟨decide_eq_true (by omega), decide_eq_true (by omega)⟩)
  refine .of (c_i_scanword (sc5 b).2 (by rw [sc5_b]; exact h)) ?_
  try simp -implicitDefEqProofs (maxSteps := 1000000) only [go_sem, true_implies, false_implies, f6]
  repeat (first | refine ⟨rfl, ?_⟩ | refine ⟨by decide, ?_⟩ | refine ⟨⟨by decide, by decide⟩, ?_⟩ | refine ⟨decide_eq_true (by omega), ?_⟩ | refine ⟨⟨decide_eq_true (by omega), decide_eq_true (by omega)⟩, ?_⟩)
  try (first | done | decide | exact decide_eq_true (by omega) | exact ⟨decide_eq_true (by omega), decide_eq_true (by omega)⟩)
  refine .of (c_i_scantext (sc6 b).2 (by rw [sc6_b]; exact h)) ?_
  try simp -implicitDefEqProofs (maxSteps := 1000000) only [go_sem, true_implies, false_implies, f7]
  repeat (first | refine ⟨rfl, ?_⟩ | refine ⟨by decide, ?_⟩ | refine ⟨⟨by decide, by decide⟩, ?_⟩ | refine ⟨decide_eq_true (by omega), ?_⟩ | refine ⟨⟨decide_eq_true (by omega), decide_eq_true (by omega)⟩, ?_⟩)
  try (first | done | decide | exact decide_eq_true (by omega) | exact ⟨decide_eq_true (by omega), decide_eq_true (by omega)⟩)
  refine .of (c_i_scantext (sc7 b).2 (by rw [sc7_b]; exact h)) ?_
  try simp -implicitDefEqProofs (maxSteps := 1000000) only [go_sem, true_implies, false_implies, f8]
  repeat (first | refine ⟨rfl, ?_⟩ | refine ⟨by decide, ?_⟩ | refine ⟨⟨by decide, by decide⟩, ?_⟩ | refine ⟨decide_eq_true (by omega), ?_⟩ | refine ⟨⟨decide_eq_true (by omega), decide_eq_true (by omega)⟩, ?_⟩)
  try (first | done | decide | exact decide_eq_true (by omega) | exact ⟨decide_eq_true (by omega), decide_eq_true (by omega)⟩)
  cases g : (scanSum (sc8 b).2).1
  · have e : scGet b = (msg0, false) := by unfold scGet; rw [g]; rfl
    refine .of (c_i_scansum (sc8 b).2 (by rw [sc8_b]; exact h)) ?_
    try simp -implicitDefEqProofs (maxSteps := 1000000) only [go_sem, true_implies, false_implies, g, e]
    repeat (first | refine ⟨rfl, ?_⟩ | refine ⟨by decide, ?_⟩ | refine ⟨⟨by decide, by decide⟩, ?_⟩ | refine ⟨decide_eq_true (by omega), ?_⟩ | refine ⟨⟨decide_eq_true (by omega), decide_eq_true (by omega)⟩, ?_⟩)
    try (first | done | decide | exact decide_eq_true (by omega) | exact ⟨decide_eq_true (by omega), decide_eq_true (by omega)⟩)
    try rfl
  · cases g2 : (scM b).ok
    · have e : scGet b = (msg0, false) := by unfold scGet; rw [g, g2]; rfl
      refine .of (c_i_scansum (sc8 b).2 (by rw [sc8_b]; exact h)) ?_
      try simp -implicitDefEqProofs (maxSteps := 1000000) only [go_sem, true_implies, false_implies, g, e]
      repeat (first | refine ⟨rfl, ?_⟩ | refine ⟨by decide, ?_⟩ | refine ⟨⟨by decide, by decide⟩, ?_⟩ | refine ⟨decide_eq_true (by omega), ?_⟩ | refine ⟨⟨decide_eq_true (by omega), decide_eq_true (by omega)⟩, ?_⟩)
      try (first | done | decide | exact decide_eq_true (by omega) | exact ⟨decide_eq_true (by omega), decide_eq_true (by omega)⟩)
      refine .of (c_i_MsgOk (scM b)) ?_
      try simp -implicitDefEqProofs (maxSteps := 1000000) only [go_sem, true_implies, false_implies, g2, e]
      repeat (first | refine ⟨rfl, ?_⟩ | refine ⟨by decide, ?_⟩ | refine ⟨⟨by decide, by decide⟩, ?_⟩ | refine ⟨decide_eq_true (by omega), ?_⟩ | refine ⟨⟨decide_eq_true (by omega), decide_eq_true (by omega)⟩, ?_⟩)
      try (first | done | decide | exact decide_eq_true (by omega) | exact ⟨decide_eq_true (by omega), decide_eq_true (by omega)⟩)
      try rfl
    · have e : scGet b = (scM b, true) := by unfold scGet; rw [g, g2]; rfl
      refine .of (c_i_scansum (sc8 b).2 (by rw [sc8_b]; exact h)) ?_
      try simp -implicitDefEqProofs (maxSteps := 1000000) only [go_sem, true_implies, false_implies, g, e]
      repeat (first | refine ⟨rfl, ?_⟩ | refine ⟨by decide, ?_⟩ | refine ⟨⟨by decide, by decide⟩, ?_⟩ | refine ⟨decide_eq_true (by omega), ?_⟩ | refine ⟨⟨decide_eq_true (by omega), decide_eq_true (by omega)⟩, ?_⟩)
      try (first | done | decide | exact decide_eq_true (by omega) | exact ⟨decide_eq_true (by omega), decide_eq_true (by omega)⟩)
      refine .of (c_i_MsgOk (scM b)) ?_
      try simp -implicitDefEqProofs (maxSteps := 1000000) only [go_sem, true_implies, false_implies, g2, e]
      repeat (first | refine ⟨rfl, ?_⟩ | refine ⟨by decide, ?_⟩ | refine ⟨⟨by decide, by decide⟩, ?_⟩ | refine ⟨decide_eq_true (by omega), ?_⟩ | refine ⟨⟨decide_eq_true (by omega), decide_eq_true (by omega)⟩, ?_⟩)
      try (first | done | decide | exact decide_eq_true (by omega) | exact ⟨decide_eq_true (by omega), decide_eq_true (by omega)⟩)
      try rfl
def gmC (b : List UInt8) : List UInt8 := b.take (b.length - 2)
def gmW (b : List UInt8) := getW (gmC b) 5
def gmK (b : List UInt8) := getText (gmC b) (gmW b).2.1
def gmT (b : List UInt8) := getText (gmC b) (gmK b).2.1
def gmM (b : List UInt8) : Msg := ⟨byteZ b 0, byteZ b 1, byteZ b 2, (gmW b).1, (gmK b).1, (gmT b).1, byteZ b 3, byteZ b 4⟩
def gmOk (b : List UInt8) : Bool := (gmW b).2.2 && ((gmK b).2.2 && ((gmT b).2.2 && ((gmT b).2.1 == (b.length : Int) - 2 && ((getW b ((b.length : Int) - 2)).1 == (sum (gmC b) : Nat) && (gmM b).ok))))
theorem getMsg_is (b : List UInt8) (hn : ¬ ((b.length : Int) - 2 < 5)) : getMsg b = if gmOk b = true then (gmM b, true) else (msg0, false) := if_neg hn
theorem getMsg_no {b : List UInt8} (hn : ¬ ((b.length : Int) - 2 < 5)) (h : gmOk b = false) : getMsg b = (msg0, false) := by rw [getMsg_is b hn, h]; rfl
theorem getMsg_yes {b : List UInt8} (hn : ¬ ((b.length : Int) - 2 < 5)) (h : gmOk b = true) : getMsg b = (gmM b, true) := by rw [getMsg_is b hn, h]; rfl
def x_s_GetMsg : FnX := ⟨114, [.cell 2 (some 8), .tmp 3],
  .seq (.reg [⟨none, some 2, 2, .alloc [.pv (.int .i64 0), .pv (.int .i64 0), .pv (.int .i64 0), .pv (.int .i64 0), .pv (.string ⟨#[]⟩), .pv (.string ⟨#[]⟩), .pv (.int .i64 0), .pv (.int .i64 0)]⟩,
   ⟨none, some 3, 3, .mv (.k (.one (.pv (.bool false))))⟩])
 (.seq (.reg [⟨none, some 18, 18, .mv (.t 0)⟩,
   ⟨none, some 19, 19, .len (.t 18)⟩,
   ⟨none, some 20, 20, .bin .sub (.t 19) (.k (.one (.pv (.int .i64 2))))⟩,
   ⟨none, some 4, 4, .mv (.t 20)⟩])
 (.seq (.seq (.reg [⟨none, some 21, 21, .mv (.t 4)⟩,
   ⟨none, some 22, 22, .bin .lss (.t 21) (.k (.one (.pv (.int .i64 5))))⟩])
 (.cond 22 (.seq (.reg [⟨none, some 23, 23, .build [.pv (.int .i64 0), .pv (.int .i64 0), .pv (.int .i64 0), .pv (.int .i64 0), .pv (.string ⟨#[]⟩), .pv (.string ⟨#[]⟩), .pv (.int .i64 0), .pv (.int .i64 0)] []⟩,
   ⟨none, none, 100001, .store 8 (.t 2) (.t 23)⟩,
   ⟨none, some 3, 3, .mv (.k (.one (.pv (.bool false))))⟩])
 (.ret)) (.skip)))
 (.seq (.draw [⟨none, some 24, 24, .mv (.t 0)⟩,
   ⟨none, some 25, 25, .iaddr 1 (.t 24) (.k (.one (.pv (.int .i64 0))))⟩,
   ⟨none, some 26, 26, .load none (.t 25)⟩,
   ⟨none, some 27, 27, .conv (.int .i64) (.t 26)⟩,
   ⟨none, some 28, 28, .mv (.t 0)⟩,
   ⟨none, some 29, 29, .iaddr 1 (.t 28) (.k (.one (.pv (.int .i64 1))))⟩,
   ⟨none, some 30, 30, .load none (.t 29)⟩,
   ⟨none, some 31, 31, .conv (.int .i64) (.t 30)⟩,
   ⟨none, some 32, 32, .mv (.t 0)⟩,
   ⟨none, some 33, 33, .iaddr 1 (.t 32) (.k (.one (.pv (.int .i64 2))))⟩,
   ⟨none, some 34, 34, .load none (.t 33)⟩,
   ⟨none, some 35, 35, .conv (.int .i64) (.t 34)⟩,
   ⟨none, some 36, 36, .mv (.t 0)⟩,
   ⟨none, some 37, 37, .iaddr 1 (.t 36) (.k (.one (.pv (.int .i64 3))))⟩,
   ⟨none, some 38, 38, .load none (.t 37)⟩,
   ⟨none, some 39, 39, .conv (.int .i64) (.t 38)⟩,
   ⟨none, some 40, 40, .mv (.t 0)⟩,
   ⟨none, some 41, 41, .iaddr 1 (.t 40) (.k (.one (.pv (.int .i64 4))))⟩,
   ⟨none, some 42, 42, .load none (.t 41)⟩,
   ⟨none, some 43, 43, .conv (.int .i64) (.t 42)⟩,
   ⟨none, some 44, 44, .build [.pv (.int .i64 0), .pv (.int .i64 0), .pv (.int .i64 0), .pv (.int .i64 0), .pv (.string ⟨#[]⟩), .pv (.string ⟨#[]⟩), .pv (.int .i64 0), .pv (.int .i64 0)] [(0, 1, (.t 27)), (1, 1, (.t 31)), (2, 1, (.t 35)), (6, 1, (.t 39)), (7, 1, (.t 43))]⟩,
   ⟨none, some 5, 5, .alloc [.pv (.int .i64 0), .pv (.int .i64 0), .pv (.int .i64 0), .pv (.int .i64 0), .pv (.string ⟨#[]⟩), .pv (.string ⟨#[]⟩), .pv (.int .i64 0), .pv (.int .i64 0)]⟩,
   ⟨none, none, 100002, .store 8 (.t 5) (.t 44)⟩] [[], [0], [1], [2], [], [4], [5], [6], [], [8], [9], [10], [], [12], [13], [14], [], [16], [17], [18], [3, 7, 11, 15, 19], [], [21, 20, 0, 1, 2, 3, 4, 5, 6, 7, 8, 9, 10, 11, 12, 13, 14, 15, 16, 17, 18, 19, 20, 21]])
 (.seq (.reg [⟨none, some 46, 46, .mv (.t 0)⟩,
   ⟨none, some 47, 47, .mv (.t 4)⟩,
   ⟨none, some 48, 48, .slice 1 (.t 46) none (some (.t 47))⟩,
   ⟨none, some 49, 49, .call 55 [0, 0] [(.t 48), (.k (.one (.pv (.int .i64 5))))]⟩,
   ⟨none, some 45, 45, .mv (.t 49)⟩,
   ⟨none, some 50, 50, .ext (.t 45) 0⟩,
   ⟨none, some 51, 51, .ext (.t 45) 1⟩,
   ⟨none, some 52, 52, .ext (.t 45) 2⟩,
   ⟨none, some 6, 6, .mv (.t 50)⟩,
   ⟨none, some 7, 7, .mv (.t 51)⟩,
   ⟨none, some 8, 8, .mv (.t 52)⟩])
 (.seq (.reg [⟨none, some 54, 54, .mv (.t 0)⟩,
   ⟨none, some 55, 55, .mv (.t 4)⟩,
   ⟨none, some 56, 56, .slice 1 (.t 54) none (some (.t 55))⟩,
   ⟨none, some 57, 57, .mv (.t 7)⟩,
   ⟨none, some 58, 58, .call 56 [0, 0] [(.t 56), (.t 57)]⟩,
   ⟨none, some 53, 53, .mv (.t 58)⟩,
   ⟨none, some 59, 59, .ext (.t 53) 0⟩,
   ⟨none, some 60, 60, .ext (.t 53) 1⟩,
   ⟨none, some 61, 61, .ext (.t 53) 2⟩,
   ⟨none, some 9, 9, .mv (.t 59)⟩,
   ⟨none, some 10, 10, .mv (.t 60)⟩,
   ⟨none, some 11, 11, .mv (.t 61)⟩])
 (.seq (.reg [⟨none, some 63, 63, .mv (.t 0)⟩,
   ⟨none, some 64, 64, .mv (.t 4)⟩,
   ⟨none, some 65, 65, .slice 1 (.t 63) none (some (.t 64))⟩,
   ⟨none, some 66, 66, .mv (.t 10)⟩,
   ⟨none, some 67, 67, .call 56 [0, 0] [(.t 65), (.t 66)]⟩,
   ⟨none, some 62, 62, .mv (.t 67)⟩,
   ⟨none, some 68, 68, .ext (.t 62) 0⟩,
   ⟨none, some 69, 69, .ext (.t 62) 1⟩,
   ⟨none, some 70, 70, .ext (.t 62) 2⟩,
   ⟨none, some 12, 12, .mv (.t 68)⟩,
   ⟨none, some 13, 13, .mv (.t 69)⟩,
   ⟨none, some 14, 14, .mv (.t 70)⟩])
 (.seq (.reg [⟨none, some 72, 72, .mv (.t 0)⟩,
   ⟨none, some 73, 73, .mv (.t 4)⟩,
   ⟨none, some 74, 74, .call 55 [0, 0] [(.t 72), (.t 73)]⟩,
   ⟨none, some 71, 71, .mv (.t 74)⟩,
   ⟨none, some 75, 75, .ext (.t 71) 0⟩,
   ⟨none, some 76, 76, .ext (.t 71) 1⟩,
   ⟨none, some 77, 77, .ext (.t 71) 2⟩,
   ⟨none, some 15, 15, .mv (.t 75)⟩,
   ⟨none, some 16, 16, .mv (.t 76)⟩,
   ⟨none, some 17, 17, .mv (.t 77)⟩])
 (.seq (.reg [⟨none, some 78, 78, .mv (.t 6)⟩,
   ⟨none, some 79, 79, .faddr (.t 5) 3⟩,
   ⟨none, none, 100003, .store 1 (.t 79) (.t 78)⟩])
 (.seq (.reg [⟨none, some 80, 80, .mv (.t 9)⟩,
   ⟨none, some 81, 81, .faddr (.t 5) 4⟩,
   ⟨none, none, 100004, .store 1 (.t 81) (.t 80)⟩])
 (.seq (.reg [⟨none, some 82, 82, .mv (.t 12)⟩,
   ⟨none, some 83, 83, .faddr (.t 5) 5⟩,
   ⟨none, none, 100005, .store 1 (.t 83) (.t 82)⟩])
 (.seq (.seq (.reg [⟨none, some 84, 84, .mv (.t 8)⟩,
   ⟨none, some 85, 85, .not (.t 84)⟩,
   ⟨none, some 86, 86, .mv (.t 85)⟩,
   ⟨(some (86, false)), some 87, 87, .mv (.t 11)⟩,
   ⟨(some (86, false)), some 88, 88, .not (.t 87)⟩,
   ⟨none, some 89, 89, .pick (.t 86) (.k (.one (.pv (.bool true)))) (.t 88)⟩,
   ⟨none, some 90, 90, .mv (.t 89)⟩,
   ⟨(some (90, false)), some 91, 91, .mv (.t 14)⟩,
   ⟨(some (90, false)), some 92, 92, .not (.t 91)⟩,
   ⟨none, some 93, 93, .pick (.t 90) (.k (.one (.pv (.bool true)))) (.t 92)⟩,
   ⟨none, some 94, 94, .mv (.t 93)⟩,
   ⟨(some (94, false)), some 95, 95, .mv (.t 13)⟩,
   ⟨(some (94, false)), some 96, 96, .mv (.t 4)⟩,
   ⟨(some (94, false)), some 97, 97, .bin .neq (.t 95) (.t 96)⟩,
   ⟨none, some 98, 98, .pick (.t 94) (.k (.one (.pv (.bool true)))) (.t 97)⟩,
   ⟨none, some 99, 99, .mv (.t 98)⟩,
   ⟨(some (99, false)), some 100, 100, .mv (.t 15)⟩,
   ⟨(some (99, false)), some 101, 101, .mv (.t 0)⟩,
   ⟨(some (99, false)), some 102, 102, .mv (.t 4)⟩,
   ⟨(some (99, false)), some 103, 103, .slice 1 (.t 101) none (some (.t 102))⟩,
   ⟨(some (99, false)), some 104, 104, .call 57 [0] [(.t 103)]⟩,
   ⟨(some (99, false)), some 105, 105, .bin .neq (.t 100) (.t 104)⟩,
   ⟨none, some 106, 106, .pick (.t 99) (.k (.one (.pv (.bool true)))) (.t 105)⟩,
   ⟨none, some 107, 107, .mv (.t 106)⟩,
   ⟨(some (107, false)), some 108, 108, .load (some 8) (.t 5)⟩,
   ⟨(some (107, false)), some 109, 109, .call 45 [0] [(.t 108)]⟩,
   ⟨(some (107, false)), some 110, 110, .not (.t 109)⟩,
   ⟨none, some 111, 111, .pick (.t 107) (.k (.one (.pv (.bool true)))) (.t 110)⟩])
 (.cond 111 (.seq (.reg [⟨none, some 112, 112, .build [.pv (.int .i64 0), .pv (.int .i64 0), .pv (.int .i64 0), .pv (.int .i64 0), .pv (.string ⟨#[]⟩), .pv (.string ⟨#[]⟩), .pv (.int .i64 0), .pv (.int .i64 0)] []⟩,
   ⟨none, none, 100006, .store 8 (.t 2) (.t 112)⟩,
   ⟨none, some 3, 3, .mv (.k (.one (.pv (.bool false))))⟩])
 (.ret)) (.skip)))
 (.seq (.reg [⟨none, some 113, 113, .load (some 8) (.t 5)⟩,
   ⟨none, none, 100007, .store 8 (.t 2) (.t 113)⟩,
   ⟨none, some 3, 3, .mv (.k (.one (.pv (.bool true))))⟩])
 (.ret)))))))))))))⟩
abbrev C_s_GetMsg (Te : Nat → List AV → Res → Prop) : Prop := ∀ (b : List UInt8) (h : b.length ≤ 2 ^ 31), Te 18 [.one (slT false 1 uR b)] ⟨[.agg (getMsg b).1.row, .one (bT (getMsg b).2)], [[slT false 1 uR b]]⟩
theorem r_s_GetMsg {Te : Nat → List AV → Res → Prop} (c_s_GetW : C_s_GetW Te) (c_s_GetText : C_s_GetText Te) (c_s_Sum : C_s_Sum Te) (c_s_MsgOk : C_s_MsgOk Te) : ∀ (b : List UInt8) (h : b.length ≤ 2 ^ 31), RunFn Te x_s_GetMsg [.one (slT false 1 uR b)] ⟨[.agg (getMsg b).1.row, .one (bT (getMsg b).2)], [[slT false 1 uR b]]⟩ := by
  intro b h
  refine ⟨by simp -implicitDefEqProofs (maxSteps := 1000000) only [x_s_GetMsg, go_sem], ?_⟩
  have w1 : IntKind.i64.wrap ((b.length : Int) - 2) = (b.length : Int) - 2 := IntWalk.i64_in _ (by omega)
  cases q : decide ((b.length : Int) - 2 < 5)
  · have hn : ¬ ((b.length : Int) - 2 < 5) := by simpa using q
    have a0 : 0 < b.length := by omega
    have a1 : 1 < b.length := by omega
    have a2 : 2 < b.length := by omega
    have a3 : 3 < b.length := by omega
    have a4 : 4 < b.length := by omega
    have e3 : List.take (((b.length : Int) - 2).toNat - 0) (b.map uR) = (gmC b).map uR := by unfold gmC; rw [← List.map_take, Nat.sub_zero, show ((b.length : Int) - 2).toNat = b.length - 2 by omega]
    have hc : (gmC b).length ≤ 2 ^ 31 := by unfold gmC; rw [List.length_take]; omega
    have f1 : getW (gmC b) 5 = gmW b := rfl
    have f2 : getText (gmC b) (gmW b).2.1 = gmK b := rfl
    have f3 : getText (gmC b) (gmK b).2.1 = gmT b := rfl
    simp -implicitDefEqProofs (maxSteps := 1000000) only [x_s_GetMsg, go_sem, true_implies, false_implies, w1, q, List.getElem?_eq_getElem a0, List.getElem?_eq_getElem a1, List.getElem?_eq_getElem a2, List.getElem?_eq_getElem a3, List.getElem?_eq_getElem a4, byteZ_get a0, byteZ_get a1, byteZ_get a2, byteZ_get a3, byteZ_get a4, wrapB (byteZ_lt b 0), wrapB (byteZ_lt b 1), wrapB (byteZ_lt b 2), wrapB (byteZ_lt b 3), wrapB (byteZ_lt b 4), e3]
    repeat (first | refine ⟨rfl, ?_⟩ | refine ⟨by decide, ?_⟩ | refine ⟨⟨by decide, by decide⟩, ?_⟩ | refine ⟨decide_eq_true (by omega), ?_⟩ | refine ⟨⟨decide_eq_true (by omega), decide_eq_true (by omega)⟩, ?_⟩)
    try (first | done | decide | exact decide_eq_true (by omega) | exact ⟨decide_eq_true (by omega), decide_eq_true (by omega)⟩)
    refine .of (c_s_GetW (gmC b) 5 hc) ?_
    try simp -implicitDefEqProofs (maxSteps := 1000000) only [go_sem, true_implies, false_implies, f1, e3]
    repeat (first | refine ⟨rfl, ?_⟩ | refine ⟨by decide, ?_⟩ | refine ⟨⟨by decide, by decide⟩, ?_⟩ | refine ⟨decide_eq_true (by omega), ?_⟩ | refine ⟨⟨decide_eq_true (by omega), decide_eq_true (by omega)⟩, ?_⟩)
    try (first | done | decide | exact decide_eq_true (by omega) | exact ⟨decide_eq_true (by omega), decide_eq_true (by omega)⟩)
    refine .of (c_s_GetText (gmC b) _ hc) ?_
    try simp -implicitDefEqProofs (maxSteps := 1000000) only [go_sem, true_implies, false_implies, f2, e3]
    repeat (first | refine ⟨rfl, ?_⟩ | refine ⟨by decide, ?_⟩ | refine ⟨⟨by decide, by decide⟩, ?_⟩ | refine ⟨decide_eq_true (by omega), ?_⟩ | refine ⟨⟨decide_eq_true (by omega), decide_eq_true (by omega)⟩, ?_⟩)
    try (first | done | decide | exact decide_eq_true (by omega) | exact ⟨decide_eq_true (by omega), decide_eq_true (by omega)⟩)
    refine .of (c_s_GetText (gmC b) _ hc) ?_
    try simp -implicitDefEqProofs (maxSteps := 1000000) only [go_sem, true_implies, false_implies, f3, e3]
    repeat (first | refine ⟨rfl, ?_⟩ | refine ⟨by decide, ?_⟩ | refine ⟨⟨by decide, by decide⟩, ?_⟩ | refine ⟨decide_eq_true (by omega), ?_⟩ | refine ⟨⟨decide_eq_true (by omega), decide_eq_true (by omega)⟩, ?_⟩)
    try (first | done | decide | exact decide_eq_true (by omega) | exact ⟨decide_eq_true (by omega), decide_eq_true (by omega)⟩)
    cases c1 : (gmW b).2.2
    · have e := getMsg_no hn (by unfold gmOk; rw [c1]; rfl)
      refine .of (c_s_GetW b _ h) ?_
      try simp -implicitDefEqProofs (maxSteps := 1000000) only [go_sem, true_implies, false_implies, e3, c1, e]
      repeat (first | refine ⟨rfl, ?_⟩ | refine ⟨by decide, ?_⟩ | refine ⟨⟨by decide, by decide⟩, ?_⟩ | refine ⟨decide_eq_true (by omega), ?_⟩ | refine ⟨⟨decide_eq_true (by omega), decide_eq_true (by omega)⟩, ?_⟩)
      try (first | done | decide | exact decide_eq_true (by omega) | exact ⟨decide_eq_true (by omega), decide_eq_true (by omega)⟩)
      try rfl
    · cases c2 : (gmK b).2.2
      · have e := getMsg_no hn (by unfold gmOk; rw [c1, c2]; rfl)
        refine .of (c_s_GetW b _ h) ?_
        try simp -implicitDefEqProofs (maxSteps := 1000000) only [go_sem, true_implies, false_implies, e3, c1, c2, e]
        repeat (first | refine ⟨rfl, ?_⟩ | refine ⟨by decide, ?_⟩ | refine ⟨⟨by decide, by decide⟩, ?_⟩ | refine ⟨decide_eq_true (by omega), ?_⟩ | refine ⟨⟨decide_eq_true (by omega), decide_eq_true (by omega)⟩, ?_⟩)
        try (first | done | decide | exact decide_eq_true (by omega) | exact ⟨decide_eq_true (by omega), decide_eq_true (by omega)⟩)
        try rfl
      · cases c3 : (gmT b).2.2
        · have e := getMsg_no hn (by unfold gmOk; rw [c1, c2, c3]; rfl)
          refine .of (c_s_GetW b _ h) ?_
          try simp -implicitDefEqProofs (maxSteps := 1000000) only [go_sem, true_implies, false_implies, e3, c1, c2, c3, e]
          repeat (first | refine ⟨rfl, ?_⟩ | refine ⟨by decide, ?_⟩ | refine ⟨⟨by decide, by decide⟩, ?_⟩ | refine ⟨decide_eq_true (by omega), ?_⟩ | refine ⟨⟨decide_eq_true (by omega), decide_eq_true (by omega)⟩, ?_⟩)
          try (first | done | decide | exact decide_eq_true (by omega) | exact ⟨decide_eq_true (by omega), decide_eq_true (by omega)⟩)
          try rfl
        · cases c4 : ((gmT b).2.1 == (b.length : Int) - 2)
          · have e := getMsg_no hn (by unfold gmOk; rw [c1, c2, c3, c4]; rfl)
            refine .of (c_s_GetW b _ h) ?_
            try simp -implicitDefEqProofs (maxSteps := 1000000) only [go_sem, true_implies, false_implies, e3, c1, c2, c3, bne, c4, e]
            repeat (first | refine ⟨rfl, ?_⟩ | refine ⟨by decide, ?_⟩ | refine ⟨⟨by decide, by decide⟩, ?_⟩ | refine ⟨decide_eq_true (by omega), ?_⟩ | refine ⟨⟨decide_eq_true (by omega), decide_eq_true (by omega)⟩, ?_⟩)
            try (first | done | decide | exact decide_eq_true (by omega) | exact ⟨decide_eq_true (by omega), decide_eq_true (by omega)⟩)
            try rfl
          · refine .of (c_s_GetW b _ h) ?_
            try simp -implicitDefEqProofs (maxSteps := 1000000) only [go_sem, true_implies, false_implies, e3, c1, c2, c3, bne, c4]
            repeat (first | refine ⟨rfl, ?_⟩ | refine ⟨by decide, ?_⟩ | refine ⟨⟨by decide, by decide⟩, ?_⟩ | refine ⟨decide_eq_true (by omega), ?_⟩ | refine ⟨⟨decide_eq_true (by omega), decide_eq_true (by omega)⟩, ?_⟩)
            try (first | done | decide | exact decide_eq_true (by omega) | exact ⟨decide_eq_true (by omega), decide_eq_true (by omega)⟩)
            cases c5 : ((getW b ((b.length : Int) - 2)).1 == ((sum (gmC b) : Nat) : Int))
            · have e := getMsg_no hn (by unfold gmOk; rw [c1, c2, c3, c4, c5]; rfl)
              refine .of (c_s_Sum (gmC b) hc) ?_
              try simp -implicitDefEqProofs (maxSteps := 1000000) only [go_sem, true_implies, false_implies, e3, bne, c5, e]
              repeat (first | refine ⟨rfl, ?_⟩ | refine ⟨by decide, ?_⟩ | refine ⟨⟨by decide, by decide⟩, ?_⟩ | refine ⟨decide_eq_true (by omega), ?_⟩ | refine ⟨⟨decide_eq_true (by omega), decide_eq_true (by omega)⟩, ?_⟩)
              try (first | done | decide | exact decide_eq_true (by omega) | exact ⟨decide_eq_true (by omega), decide_eq_true (by omega)⟩)
              try rfl
            · refine .of (c_s_Sum (gmC b) hc) ?_
              try simp -implicitDefEqProofs (maxSteps := 1000000) only [go_sem, true_implies, false_implies, e3, bne, c5]
              repeat (first | refine ⟨rfl, ?_⟩ | refine ⟨by decide, ?_⟩ | refine ⟨⟨by decide, by decide⟩, ?_⟩ | refine ⟨decide_eq_true (by omega), ?_⟩ | refine ⟨⟨decide_eq_true (by omega), decide_eq_true (by omega)⟩, ?_⟩)
              try (first | done | decide | exact decide_eq_true (by omega) | exact ⟨decide_eq_true (by omega), decide_eq_true (by omega)⟩)
              cases c6 : (gmM b).ok
              · have e := getMsg_no hn (by unfold gmOk; rw [c1, c2, c3, c4, c5, c6]; rfl)
                refine .of (c_s_MsgOk (gmM b)) ?_
                try simp -implicitDefEqProofs (maxSteps := 1000000) only [go_sem, true_implies, false_implies, c6, e]
                repeat (first | refine ⟨rfl, ?_⟩ | refine ⟨by decide, ?_⟩ | refine ⟨⟨by decide, by decide⟩, ?_⟩ | refine ⟨decide_eq_true (by omega), ?_⟩ | refine ⟨⟨decide_eq_true (by omega), decide_eq_true (by omega)⟩, ?_⟩)
                try (first | done | decide | exact decide_eq_true (by omega) | exact ⟨decide_eq_true (by omega), decide_eq_true (by omega)⟩)
                try rfl
              · have e := getMsg_yes hn (by unfold gmOk; rw [c1, c2, c3, c4, c5, c6]; rfl)
                refine .of (c_s_MsgOk (gmM b)) ?_
                try simp -implicitDefEqProofs (maxSteps := 1000000) only [go_sem, true_implies, false_implies, c6, e]
                repeat (first | refine ⟨rfl, ?_⟩ | refine ⟨by decide, ?_⟩ | refine ⟨⟨by decide, by decide⟩, ?_⟩ | refine ⟨decide_eq_true (by omega), ?_⟩ | refine ⟨⟨decide_eq_true (by omega), decide_eq_true (by omega)⟩, ?_⟩)
                try (first | done | decide | exact decide_eq_true (by omega) | exact ⟨decide_eq_true (by omega), decide_eq_true (by omega)⟩)
                try rfl
  · have e : getMsg b = (msg0, false) := if_pos (by simpa using q)
    simp -implicitDefEqProofs (maxSteps := 1000000) only [x_s_GetMsg, go_sem, true_implies, false_implies, w1, q, e]
    repeat (first | refine ⟨rfl, ?_⟩ | refine ⟨by decide, ?_⟩ | refine ⟨⟨by decide, by decide⟩, ?_⟩ | refine ⟨decide_eq_true (by omega), ?_⟩ | refine ⟨⟨decide_eq_true (by omega), decide_eq_true (by omega)⟩, ?_⟩)
    try (first | done | decide | exact decide_eq_true (by omega) | exact ⟨decide_eq_true (by omega), decide_eq_true (by omega)⟩)
    try rfl
end Go.X

/- L -/
namespace Go.X
set_option maxRecDepth 100000
set_option maxHeartbeats 8000000
def nodeOf (s : ByteArray) : Int := if s.size = 0 then 3 else 3 + ((s.data.toList.getD 0 0).toNat % 2 : Nat)
theorem nodeOf_rem (b : UInt8) : ((b.toNat : Int)).tmod 2 = ((b.toNat % 2 : Nat) : Int) := by
  rw [Int.tmod_eq_emod_of_nonneg (by omega)]
  rfl
def x_i_NodeOf : FnX := ⟨11, [.tmp 2],
  .seq (.reg [⟨none, some 2, 2, .mv (.k (.one (.pv (.int .i64 0))))⟩])
 (.seq (.seq (.reg [⟨none, some 3, 3, .mv (.t 0)⟩,
   ⟨none, some 4, 4, .bin .neq (.t 3) (.k (.one (.pv (.string ⟨#[]⟩))))⟩,
   ⟨none, some 5, 5, .mv (.t 4)⟩,
   ⟨(some (5, true)), some 6, 6, .mv (.t 0)⟩,
   ⟨(some (5, true)), some 7, 7, .sidx (.t 6) (.k (.one (.pv (.int .i64 0))))⟩,
   ⟨(some (5, true)), some 8, 8, .bin .rem (.t 7) (.k (.one (.pv (.int .u8 2))))⟩,
   ⟨(some (5, true)), some 9, 9, .bin .eql (.t 8) (.k (.one (.pv (.int .u8 1))))⟩,
   ⟨none, some 10, 10, .pick (.t 5) (.t 9) (.k (.one (.pv (.bool false))))⟩])
 (.cond 10 (.seq (.reg [⟨none, some 2, 2, .mv (.k (.one (.pv (.int .i64 4))))⟩])
 (.ret)) (.skip)))
 (.seq (.reg [⟨none, some 2, 2, .mv (.k (.one (.pv (.int .i64 3))))⟩])
 (.ret)))⟩
abbrev C_i_NodeOf (Te : Nat → List AV → Res → Prop) : Prop := ∀ (s : ByteArray) (h : s.size ≤ 2 ^ 48), Te 44 [.one (sT s)] ⟨[.one (iT (nodeOf s))], [[sT s]]⟩
theorem r_i_NodeOf {Te : Nat → List AV → Res → Prop} : ∀ (s : ByteArray) (h : s.size ≤ 2 ^ 48), RunFn Te x_i_NodeOf [.one (sT s)] ⟨[.one (iT (nodeOf s))], [[sT s]]⟩ := by
  intro s h
  refine ⟨by simp -implicitDefEqProofs (maxSteps := 1000000) only [x_i_NodeOf, go_sem], ?_⟩
  cases g : decide (s = ⟨#[]⟩)
  · have g' : s ≠ ⟨#[]⟩ := by simpa using g
    have hs : 0 < s.size := by
      rcases Nat.eq_zero_or_pos s.size with q | q
      · exact absurd (by rcases s with ⟨⟨l⟩⟩; simp only [ByteArray.size, List.size_toArray, List.length_eq_zero_iff] at q; rw [q]) g'
      · exact q
    have hm := Nat.mod_lt (s.data.toList.getD 0 0).toNat (show 0 < 2 by decide)
    cases g2 : (((s.data.toList.getD 0 0).toNat % 2 : Nat) : Int) == 1
    · have e : nodeOf s = 3 := by
        simp only [beq_eq_false_iff_ne, ne_eq] at g2
        unfold nodeOf
        rw [if_neg (by omega)]
        omega
      simp -implicitDefEqProofs (maxSteps := 1000000) only [x_i_NodeOf, go_sem, g, nodeOf_rem, g2, e]
      repeat (first | refine ⟨rfl, ?_⟩ | refine ⟨by decide, ?_⟩ | refine ⟨decide_eq_true hs, ?_⟩)
      first | rfl | exact decide_eq_true hs
    · have e : nodeOf s = 4 := by
        simp only [beq_iff_eq] at g2
        unfold nodeOf
        rw [if_neg (by omega)]
        omega
      simp -implicitDefEqProofs (maxSteps := 1000000) only [x_i_NodeOf, go_sem, g, nodeOf_rem, g2, e]
      repeat (first | refine ⟨rfl, ?_⟩ | refine ⟨by decide, ?_⟩ | refine ⟨decide_eq_true hs, ?_⟩)
      first | rfl | exact decide_eq_true hs
  · have g' : s = ⟨#[]⟩ := by simpa using g
    have e : nodeOf s = 3 := by subst g'; rfl
    simp -implicitDefEqProofs (maxSteps := 1000000) only [x_i_NodeOf, go_sem, g, e]
def x_s_NodeOf : FnX := ⟨11, [.tmp 2],
  .seq (.reg [⟨none, some 2, 2, .mv (.k (.one (.pv (.int .i64 0))))⟩])
 (.seq (.seq (.reg [⟨none, some 3, 3, .mv (.t 0)⟩,
   ⟨none, some 4, 4, .slen (.t 3)⟩,
   ⟨none, some 5, 5, .bin .eql (.t 4) (.k (.one (.pv (.int .i64 0))))⟩])
 (.cond 5 (.seq (.reg [⟨none, some 2, 2, .mv (.k (.one (.pv (.int .i64 3))))⟩])
 (.ret)) (.skip)))
 (.seq (.reg [⟨none, some 6, 6, .mv (.t 0)⟩,
   ⟨none, some 7, 7, .sidx (.t 6) (.k (.one (.pv (.int .i64 0))))⟩,
   ⟨none, some 8, 8, .conv (.int .i64) (.t 7)⟩,
   ⟨none, some 9, 9, .bin .rem (.t 8) (.k (.one (.pv (.int .i64 2))))⟩,
   ⟨none, some 10, 10, .bin .add (.k (.one (.pv (.int .i64 3)))) (.t 9)⟩,
   ⟨none, some 2, 2, .mv (.t 10)⟩])
 (.ret)))⟩
abbrev C_s_NodeOf (Te : Nat → List AV → Res → Prop) : Prop := ∀ (s : ByteArray) (h : s.size ≤ 2 ^ 48), Te 46 [.one (sT s)] ⟨[.one (iT (nodeOf s))], [[sT s]]⟩
theorem r_s_NodeOf {Te : Nat → List AV → Res → Prop} : ∀ (s : ByteArray) (h : s.size ≤ 2 ^ 48), RunFn Te x_s_NodeOf [.one (sT s)] ⟨[.one (iT (nodeOf s))], [[sT s]]⟩ := by
  intro s h
  refine ⟨by simp -implicitDefEqProofs (maxSteps := 1000000) only [x_s_NodeOf, go_sem], ?_⟩
  have hb := (s.data.toList.getD 0 0).toNat_lt
  have e1 : IntKind.i64.wrap ((s.data.toList.getD 0 0).toNat : Int) = ((s.data.toList.getD 0 0).toNat : Int) := IntWalk.i64_in _ (by omega)
  have e2 : IntKind.i64.wrap (3 + (((s.data.toList.getD 0 0).toNat % 2 : Nat) : Int)) = 3 + (((s.data.toList.getD 0 0).toNat % 2 : Nat) : Int) := IntWalk.i64_in _ (by omega)
  simp -implicitDefEqProofs (maxSteps := 1000000) only [x_s_NodeOf, go_sem, e1, nodeOf_rem, e2]
  refine ⟨fun q => ?_, fun q => ?_⟩
  · have hs : s.size = 0 := by simp only [beq_iff_eq] at q; omega
    simp only [nodeOf, hs, if_true]
  · have hs : s.size ≠ 0 := by simp only [beq_eq_false_iff_ne, ne_eq] at q; omega
    refine ⟨decide_eq_true (by omega), ?_⟩
    simp only [nodeOf, if_neg hs]
end Go.X

/- P -/
namespace Go.X
set_option maxRecDepth 100000
set_option maxHeartbeats 8000000
/-- What draws are taken from. -/
structure CurV where
  b : List UInt8
  i : Int
  h : Int
abbrev CurV.enc (c : CurV) : List Go.X.T := [slT false 1 uR c.b, iT c.i, iT c.h]
def CurV.ok (c : CurV) : Prop := 0 ≤ c.i ∧ c.i ≤ c.b.length ∧ c.b.length ≤ 2 ^ 31
theorem andK_255 (a : Int) : 0 ≤ andK .i64 a 255 ∧ andK .i64 a 255 ≤ 255 := by
  rw [andK_def]
  show 0 ≤ IntKind.i64.wrap ((BitVec.ofInt 64 a &&& BitVec.ofInt 64 255).toNat) ∧ IntKind.i64.wrap ((BitVec.ofInt 64 a &&& BitVec.ofInt 64 255).toNat) ≤ 255
  have e : (BitVec.ofInt 64 a &&& BitVec.ofInt 64 255).toNat = (a % 256).toNat := by
    rw [BitVec.toNat_and, BitVec.toNat_ofInt, show (BitVec.ofInt 64 255).toNat = 2 ^ 8 - 1 by decide, Nat.and_two_pow_sub_one_eq_mod]
    omega
  rw [e, IntWalk.i64_in _ (by omega)]
  omega
theorem tmod_in {a n : Int} (ha : 0 ≤ a) (hn : 0 < n) : 0 ≤ a.tmod n ∧ a.tmod n < n := by
  rw [Int.tmod_eq_emod_of_nonneg ha]
  exact ⟨Int.emod_nonneg _ (by omega), Int.emod_lt_of_pos _ hn⟩
def x_l_big : FnX := ⟨6, [.tmp 2],
  .seq (.reg [⟨none, some 2, 2, .mv (.k (.one (.pv (.bool false))))⟩])
 (.seq (.reg [⟨none, some 3, 3, .mv (.t 0)⟩,
   ⟨none, some 4, 4, .len (.t 3)⟩,
   ⟨none, some 5, 5, .bin .gtr (.t 4) (.k (.one (.pv (.int .i64 1048576))))⟩,
   ⟨none, some 2, 2, .mv (.t 5)⟩])
 (.ret))⟩
abbrev C_l_big (Te : Nat → List AV → Res → Prop) : Prop := ∀ (l : List UInt8), Te 7 [.one (slT false 1 uR l)] ⟨[.one (bT (decide ((l.length : Int) > 1048576)))], [[slT false 1 uR l]]⟩
theorem r_l_big {Te : Nat → List AV → Res → Prop} : ∀ (l : List UInt8), RunFn Te x_l_big [.one (slT false 1 uR l)] ⟨[.one (bT (decide ((l.length : Int) > 1048576)))], [[slT false 1 uR l]]⟩ := by
  intro l
  refine ⟨by simp -implicitDefEqProofs (maxSteps := 1000000) only [x_l_big, go_sem], ?_⟩
  simp -implicitDefEqProofs (maxSteps := 1000000) only [x_l_big, go_sem, true_implies, false_implies]
  repeat (first | refine ⟨rfl, ?_⟩ | refine ⟨by decide, ?_⟩ | refine ⟨⟨by decide, by decide⟩, ?_⟩ | refine ⟨decide_eq_true (by omega), ?_⟩ | refine ⟨⟨decide_eq_true (by omega), decide_eq_true (by omega)⟩, ?_⟩)
  try (first | done | decide | exact decide_eq_true (by omega) | exact ⟨decide_eq_true (by omega), decide_eq_true (by omega)⟩)
def x_l_at : FnX := ⟨21, [.tmp 4],
  .seq (.reg [⟨none, some 4, 4, .mv (.k (.one (.pv (.int .i64 0))))⟩])
 (.seq (.seq (.reg [⟨none, some 5, 5, .mv (.t 1)⟩,
   ⟨none, some 6, 6, .mv (.t 0)⟩,
   ⟨none, some 7, 7, .len (.t 6)⟩,
   ⟨none, some 8, 8, .bin .lss (.t 5) (.t 7)⟩])
 (.cond 8 (.seq (.reg [⟨none, some 9, 9, .mv (.t 0)⟩,
   ⟨none, some 10, 10, .mv (.t 1)⟩,
   ⟨none, some 11, 11, .iaddr 1 (.t 9) (.t 10)⟩,
   ⟨none, some 12, 12, .load none (.t 11)⟩,
   ⟨none, some 13, 13, .conv (.int .i64) (.t 12)⟩,
   ⟨none, some 4, 4, .mv (.t 13)⟩])
 (.ret)) (.skip)))
 (.seq (.reg [⟨none, some 14, 14, .mv (.t 1)⟩,
   ⟨none, some 15, 15, .bin .mul (.t 14) (.k (.one (.pv (.int .i64 31))))⟩,
   ⟨none, some 16, 16, .mv (.t 0)⟩,
   ⟨none, some 17, 17, .len (.t 16)⟩,
   ⟨none, some 18, 18, .bin .mul (.t 17) (.k (.one (.pv (.int .i64 7))))⟩,
   ⟨none, some 19, 19, .bin .add (.t 15) (.t 18)⟩,
   ⟨none, some 20, 20, .bin .rem (.t 19) (.k (.one (.pv (.int .i64 256))))⟩,
   ⟨none, some 4, 4, .mv (.t 20)⟩])
 (.ret)))⟩
abbrev C_l_at (Te : Nat → List AV → Res → Prop) : Prop := ∀ (l : List UInt8) (i : Int) (hi : 0 ≤ i ∧ i ≤ 2 ^ 31) (hl : l.length ≤ 2 ^ 31), ∃ (r : Int), (0 ≤ r ∧ r ≤ 255) ∧ Te 9 [.one (slT false 1 uR l), .one (iT i)] ⟨[.one (iT r)], [[slT false 1 uR l], [iT i]]⟩
theorem r_l_at {Te : Nat → List AV → Res → Prop} : ∀ (l : List UInt8) (i : Int) (hi : 0 ≤ i ∧ i ≤ 2 ^ 31) (hl : l.length ≤ 2 ^ 31), ∃ r0, (∃ (r : Int), (0 ≤ r ∧ r ≤ 255) ∧ r0 = (⟨[.one (iT r)], [[slT false 1 uR l], [iT i]]⟩ : Res)) ∧ RunFn Te x_l_at [.one (slT false 1 uR l), .one (iT i)] r0 := by
  intro l i hi hl
  refine some_of (by simp -implicitDefEqProofs (maxSteps := 1000000) only [x_l_at, go_sem]) (by rfl) ?_
  simp -implicitDefEqProofs (maxSteps := 1000000) only [x_l_at, go_sem, true_implies, false_implies]
  repeat (first | refine ⟨rfl, ?_⟩ | refine ⟨by decide, ?_⟩ | refine ⟨⟨by decide, by decide⟩, ?_⟩ | refine ⟨decide_eq_true (by omega), ?_⟩ | refine ⟨⟨decide_eq_true (by omega), decide_eq_true (by omega)⟩, ?_⟩)
  try (first | done | decide | exact decide_eq_true (by omega) | exact ⟨decide_eq_true (by omega), decide_eq_true (by omega)⟩)
  refine ⟨fun q => ?_, fun q => ?_⟩
  · have hi' : i.toNat < l.length := by simp only [decide_eq_true_eq] at q; omega
    have hb := l[i.toNat].toNat_lt
    try simp -implicitDefEqProofs (maxSteps := 1000000) only [go_sem, true_implies, false_implies, List.getElem?_eq_getElem hi']
    repeat (first | refine ⟨rfl, ?_⟩ | refine ⟨by decide, ?_⟩ | refine ⟨⟨by decide, by decide⟩, ?_⟩ | refine ⟨decide_eq_true (by omega), ?_⟩ | refine ⟨⟨decide_eq_true (by omega), decide_eq_true (by omega)⟩, ?_⟩)
    try (first | done | decide | exact decide_eq_true (by omega) | exact ⟨decide_eq_true (by omega), decide_eq_true (by omega)⟩)
    refine ⟨_, ?_, rfl⟩
    rw [IntWalk.i64_in _ (by omega)]
    omega
  · have ha : 0 ≤ i * 31 + (l.length : Int) * 7 := by omega
    rw [IntWalk.i64_in (i * 31) (by omega), IntWalk.i64_in ((l.length : Int) * 7) (by omega), IntWalk.i64_in _ (by omega)]
    have := tmod_in (n := 256) ha (by decide)
    exact ⟨_, by omega, rfl⟩
def x_s_l1New : FnP := ⟨32, 2,
  .seq (.reg [⟨none, some 2, 2, .mv (.k (.one (.pv (.pointer none))))⟩])
 (.seq (.reg [⟨none, some 5, 5, .mv (.t 0)⟩,
   ⟨none, some 6, 6, .len (.t 5)⟩,
   ⟨none, some 7, 7, .bin .add (.k (.one (.pv (.int .i64 953953)))) (.t 6)⟩,
   ⟨none, some 3, 3, .mv (.t 7)⟩])
 (.seq (.seq (.reg [⟨none, some 4, 4, .mv (.k (.one (.pv (.int .i64 0))))⟩])
 (.block 0 (.loop [0, 3, 4] (.seq (.seq (.reg [⟨none, some 8, 8, .mv (.t 4)⟩,
   ⟨none, some 9, 9, .mv (.t 0)⟩,
   ⟨none, some 10, 10, .len (.t 9)⟩,
   ⟨none, some 11, 11, .bin .lss (.t 8) (.t 10)⟩,
   ⟨none, some 12, 12, .mv (.t 11)⟩,
   ⟨(some (12, true)), some 13, 13, .mv (.t 4)⟩,
   ⟨(some (12, true)), some 14, 14, .bin .lss (.t 13) (.k (.one (.pv (.int .i64 4000))))⟩,
   ⟨none, some 15, 15, .pick (.t 12) (.t 14) (.k (.one (.pv (.bool false))))⟩])
 (.cond 15 (.skip) (.exit 0)))
 (.seq (.block 1 (.reg [⟨none, some 18, 18, .mv (.t 3)⟩,
   ⟨none, some 19, 19, .bin .mul (.t 18) (.k (.one (.pv (.int .i64 137))))⟩,
   ⟨none, some 20, 20, .mv (.t 0)⟩,
   ⟨none, some 21, 21, .mv (.t 4)⟩,
   ⟨none, some 22, 22, .iaddr 1 (.t 20) (.t 21)⟩,
   ⟨none, some 23, 23, .load none (.t 22)⟩,
   ⟨none, some 24, 24, .conv (.int .i64) (.t 23)⟩,
   ⟨none, some 25, 25, .bin .add (.t 19) (.t 24)⟩,
   ⟨none, some 26, 26, .bin .add (.t 25) (.k (.one (.pv (.int .i64 11))))⟩,
   ⟨none, some 27, 27, .bin .and (.t 26) (.k (.one (.pv (.int .i64 1073741823))))⟩,
   ⟨none, some 3, 3, .mv (.t 27)⟩]))
 (.reg [⟨none, some 16, 16, .mv (.t 4)⟩,
   ⟨none, some 17, 17, .bin .add (.t 16) (.k (.one (.pv (.int .i64 1))))⟩,
   ⟨none, some 4, 4, .mv (.t 17)⟩]))))))
 (.norm [0, 3] (.seq (.reg [⟨none, some 28, 28, .mv (.t 0)⟩,
   ⟨none, some 29, 29, .mv (.t 3)⟩,
   ⟨none, some 30, 30, .build [.nils 1, .pv (.int .i64 0), .pv (.int .i64 0)] [(0, 1, (.t 28)), (2, 1, (.t 29))]⟩,
   ⟨none, some 31, 31, .box (.t 30)⟩,
   ⟨none, some 2, 2, .mv (.t 31)⟩])
 (.ret)))))⟩
abbrev C_s_l1New (Te : Nat → List AV → Res → Prop) : Prop := ∀ (l : List UInt8) (hl : l.length ≤ 2 ^ 31), ∃ (c : CurV), (c.ok) ∧ Te 47 [.one (slT false 1 uR l)] ⟨[.ptr c.enc], [[slT false 1 uR l]]⟩
theorem r_s_l1New {Te : Nat → List AV → Res → Prop} : ∀ (l : List UInt8) (hl : l.length ≤ 2 ^ 31), ∃ r0, (∃ (c : CurV), (c.ok) ∧ r0 = (⟨[.ptr c.enc], [[slT false 1 uR l]]⟩ : Res)) ∧ RunFnP Te x_s_l1New [.one (slT false 1 uR l)] (fun r => r = r0) := by
  intro l hl
  refine some_ofP (by rfl) ⟨by simp -implicitDefEqProofs (maxSteps := 1000000) only [x_s_l1New, go_sem], ?_⟩
  simp -implicitDefEqProofs (maxSteps := 1000000) only [x_s_l1New, go_sem, true_implies, false_implies]
  repeat (first | refine ⟨rfl, ?_⟩ | refine ⟨by decide, ?_⟩ | refine ⟨⟨by decide, by decide⟩, ?_⟩ | refine ⟨decide_eq_true (by omega), ?_⟩ | refine ⟨⟨decide_eq_true (by omega), decide_eq_true (by omega)⟩, ?_⟩)
  try (first | done | decide | exact decide_eq_true (by omega) | exact ⟨decide_eq_true (by omega), decide_eq_true (by omega)⟩)
  refine loop_of (σ := Nat × Int) (fun x => ⟨[(0, .one (.ro 1 (l.map uR))), (3, .one (.pv (.int .i64 x.2))), (4, .one (.pv (.int .i64 x.1)))], [], [(0, [slT false 1 uR l])]⟩) (fun x => x.1 ≤ l.length) (fun x => l.length - x.1) (0, IntKind.i64.wrap (953953 + (l.length : Int))) ?_ (Nat.zero_le _) ?_
  · simp -implicitDefEqProofs (maxSteps := 1000000) only [go_sem]; rfl
  · rintro ⟨i, h⟩ hi
    simp only at hi
    cases q : decide ((i : Int) < (l.length : Int))
    · try simp -implicitDefEqProofs (maxSteps := 1000000) only [go_sem, true_implies, false_implies, q]
      repeat (first | refine ⟨rfl, ?_⟩ | refine ⟨by decide, ?_⟩ | refine ⟨⟨by decide, by decide⟩, ?_⟩ | refine ⟨decide_eq_true (by omega), ?_⟩ | refine ⟨⟨decide_eq_true (by omega), decide_eq_true (by omega)⟩, ?_⟩)
      try (first | done | decide | exact decide_eq_true (by omega) | exact ⟨decide_eq_true (by omega), decide_eq_true (by omega)⟩)
      exact ⟨⟨l, 0, h⟩, ⟨Int.le_refl _, by simp, hl⟩, rfl⟩
    · have hi' : i < l.length := by simp only [decide_eq_true_eq] at q; omega
      try simp -implicitDefEqProofs (maxSteps := 1000000) only [go_sem, true_implies, false_implies, q]
      repeat (first | refine ⟨rfl, ?_⟩ | refine ⟨by decide, ?_⟩ | refine ⟨⟨by decide, by decide⟩, ?_⟩ | refine ⟨decide_eq_true (by omega), ?_⟩ | refine ⟨⟨decide_eq_true (by omega), decide_eq_true (by omega)⟩, ?_⟩)
      try (first | done | decide | exact decide_eq_true (by omega) | exact ⟨decide_eq_true (by omega), decide_eq_true (by omega)⟩)
      refine ⟨fun q2 => ?_, fun q2 => ?_⟩
      · try simp -implicitDefEqProofs (maxSteps := 1000000) only [go_sem, true_implies, false_implies, List.getElem?_eq_getElem hi']
        repeat (first | refine ⟨rfl, ?_⟩ | refine ⟨by decide, ?_⟩ | refine ⟨⟨by decide, by decide⟩, ?_⟩ | refine ⟨decide_eq_true (by omega), ?_⟩ | refine ⟨⟨decide_eq_true (by omega), decide_eq_true (by omega)⟩, ?_⟩)
        try (first | done | decide | exact decide_eq_true (by omega) | exact ⟨decide_eq_true (by omega), decide_eq_true (by omega)⟩)
        exact ⟨(i + 1, _), by rw [IntWalk.i64_in ((i : Int) + 1) (by omega)]; rfl, hi', by simp only; omega⟩
      · try simp -implicitDefEqProofs (maxSteps := 1000000) only [go_sem, true_implies, false_implies]
        repeat (first | refine ⟨rfl, ?_⟩ | refine ⟨by decide, ?_⟩ | refine ⟨⟨by decide, by decide⟩, ?_⟩ | refine ⟨decide_eq_true (by omega), ?_⟩ | refine ⟨⟨decide_eq_true (by omega), decide_eq_true (by omega)⟩, ?_⟩)
        try (first | done | decide | exact decide_eq_true (by omega) | exact ⟨decide_eq_true (by omega), decide_eq_true (by omega)⟩)
        exact ⟨⟨l, 0, h⟩, ⟨Int.le_refl _, by simp, hl⟩, rfl⟩
def x_s_l1Byte : FnX := ⟨58, [.tmp 2],
  .seq (.reg [⟨none, some 2, 2, .mv (.k (.one (.pv (.int .i64 0))))⟩])
 (.seq (.reg [⟨none, some 4, 4, .mv (.t 0)⟩,
   ⟨none, some 5, 5, .mv (.t 0)⟩,
   ⟨none, some 6, 6, .nilc (.t 5)⟩,
   ⟨none, some 7, 7, .faddr (.t 6) 2⟩,
   ⟨none, some 8, 8, .load none (.t 7)⟩,
   ⟨none, some 9, 9, .bin .mul (.t 8) (.k (.one (.pv (.int .i64 6364136223846793005))))⟩,
   ⟨none, some 10, 10, .bin .add (.t 9) (.k (.one (.pv (.int .i64 1442695040888963407))))⟩,
   ⟨none, some 11, 11, .nilc (.t 4)⟩,
   ⟨none, some 12, 12, .faddr (.t 11) 2⟩,
   ⟨none, none, 100001, .store 1 (.t 12) (.t 10)⟩])
 (.seq (.draw [⟨none, some 13, 13, .mv (.t 0)⟩,
   ⟨none, some 14, 14, .nilc (.t 13)⟩,
   ⟨none, some 15, 15, .faddr (.t 14) 2⟩,
   ⟨none, some 16, 16, .load none (.t 15)⟩,
   ⟨none, some 17, 17, .bin .shr (.t 16) (.k (.one (.pv (.int .u64 33))))⟩,
   ⟨none, some 18, 18, .mv (.t 0)⟩,
   ⟨none, some 19, 19, .nilc (.t 18)⟩,
   ⟨none, some 20, 20, .faddr (.t 19) 2⟩,
   ⟨none, some 21, 21, .load none (.t 20)⟩,
   ⟨none, some 22, 22, .bin .shr (.t 21) (.k (.one (.pv (.int .u64 47))))⟩,
   ⟨none, some 23, 23, .bin .xor (.t 17) (.t 22)⟩,
   ⟨none, some 24, 24, .bin .and (.t 23) (.k (.one (.pv (.int .i64 255))))⟩,
   ⟨none, some 3, 3, .mv (.t 24)⟩] [[], [0], [1], [2], [3], [], [5], [6], [7], [8], [4, 9], [10], [11, 0, 1, 2, 3, 4, 5, 6, 7, 8, 9, 10, 11]])
 (.seq (.seq (.draw [⟨none, some 25, 25, .mv (.t 0)⟩,
   ⟨none, some 26, 26, .nilc (.t 25)⟩,
   ⟨none, some 27, 27, .faddr (.t 26) 1⟩,
   ⟨none, some 28, 28, .load none (.t 27)⟩,
   ⟨none, some 29, 29, .mv (.t 0)⟩,
   ⟨none, some 30, 30, .nilc (.t 29)⟩,
   ⟨none, some 31, 31, .faddr (.t 30) 0⟩,
   ⟨none, some 32, 32, .load none (.t 31)⟩,
   ⟨none, some 33, 33, .len (.t 32)⟩,
   ⟨none, some 34, 34, .bin .lss (.t 28) (.t 33)⟩] [[], [0], [1], [2], [], [4], [5], [6], [7], [3, 8]])
 (.cond 34 (.seq (.draw [⟨none, some 35, 35, .mv (.t 3)⟩,
   ⟨none, some 36, 36, .mv (.t 0)⟩,
   ⟨none, some 37, 37, .nilc (.t 36)⟩,
   ⟨none, some 38, 38, .faddr (.t 37) 0⟩,
   ⟨none, some 39, 39, .load none (.t 38)⟩,
   ⟨none, some 40, 40, .mv (.t 0)⟩,
   ⟨none, some 41, 41, .nilc (.t 40)⟩,
   ⟨none, some 42, 42, .faddr (.t 41) 1⟩,
   ⟨none, some 43, 43, .load none (.t 42)⟩,
   ⟨none, some 44, 44, .iaddr 1 (.t 39) (.t 43)⟩,
   ⟨none, some 45, 45, .load none (.t 44)⟩,
   ⟨none, some 46, 46, .conv (.int .i64) (.t 45)⟩,
   ⟨none, some 47, 47, .bin .add (.t 35) (.t 46)⟩,
   ⟨none, some 48, 48, .bin .and (.t 47) (.k (.one (.pv (.int .i64 255))))⟩,
   ⟨none, some 3, 3, .mv (.t 48)⟩] [[], [], [1], [2], [3], [], [5], [6], [7], [4, 8], [9], [10], [0, 11], [12], [13, 0, 1, 2, 3, 4, 5, 6, 7, 8, 9, 10, 11, 12, 13]])
 (.reg [⟨none, some 49, 49, .mv (.t 0)⟩,
   ⟨none, some 50, 50, .mv (.t 0)⟩,
   ⟨none, some 51, 51, .nilc (.t 50)⟩,
   ⟨none, some 52, 52, .faddr (.t 51) 1⟩,
   ⟨none, some 53, 53, .load none (.t 52)⟩,
   ⟨none, some 54, 54, .bin .add (.t 53) (.k (.one (.pv (.int .i64 1))))⟩,
   ⟨none, some 55, 55, .nilc (.t 49)⟩,
   ⟨none, some 56, 56, .faddr (.t 55) 1⟩,
   ⟨none, none, 100002, .store 1 (.t 56) (.t 54)⟩])) (.skip)))
 (.seq (.reg [⟨none, some 57, 57, .mv (.t 3)⟩,
   ⟨none, some 2, 2, .mv (.t 57)⟩])
 (.ret)))))⟩
abbrev C_s_l1Byte (Te : Nat → List AV → Res → Prop) : Prop := ∀ (c : CurV) (hc : c.ok), ∃ (r : Int) (d : CurV), ((0 ≤ r ∧ r ≤ 255) ∧ d.ok) ∧ Te 89 [.ptr c.enc] ⟨[.one (iT r)], [d.enc]⟩
theorem r_s_l1Byte {Te : Nat → List AV → Res → Prop} : ∀ (c : CurV) (hc : c.ok), ∃ r0, (∃ (r : Int) (d : CurV), ((0 ≤ r ∧ r ≤ 255) ∧ d.ok) ∧ r0 = (⟨[.one (iT r)], [d.enc]⟩ : Res)) ∧ RunFn Te x_s_l1Byte [.ptr c.enc] r0 := by
  intro c hc
  refine some_of (by simp -implicitDefEqProofs (maxSteps := 1000000) only [x_s_l1Byte, go_sem]) (by rfl) ?_
  obtain ⟨h0, h1, h2⟩ := hc
  simp -implicitDefEqProofs (maxSteps := 1000000) only [x_s_l1Byte, go_sem, true_implies, false_implies]
  repeat (first | refine ⟨rfl, ?_⟩ | refine ⟨by decide, ?_⟩ | refine ⟨⟨by decide, by decide⟩, ?_⟩ | refine ⟨decide_eq_true (by omega), ?_⟩ | refine ⟨⟨decide_eq_true (by omega), decide_eq_true (by omega)⟩, ?_⟩)
  try (first | done | decide | exact decide_eq_true (by omega) | exact ⟨decide_eq_true (by omega), decide_eq_true (by omega)⟩)
  refine ⟨fun q => ?_, fun q => ?_⟩
  · have hi' : c.i.toNat < c.b.length := by simp only [decide_eq_true_eq] at q; omega
    try simp -implicitDefEqProofs (maxSteps := 1000000) only [go_sem, true_implies, false_implies, List.getElem?_eq_getElem hi']
    repeat (first | refine ⟨rfl, ?_⟩ | refine ⟨by decide, ?_⟩ | refine ⟨⟨by decide, by decide⟩, ?_⟩ | refine ⟨decide_eq_true (by omega), ?_⟩ | refine ⟨⟨decide_eq_true (by omega), decide_eq_true (by omega)⟩, ?_⟩)
    try (first | done | decide | exact decide_eq_true (by omega) | exact ⟨decide_eq_true (by omega), decide_eq_true (by omega)⟩)
    refine ⟨_, ⟨c.b, IntKind.i64.wrap (c.i + 1), IntKind.i64.wrap (IntKind.i64.wrap (c.h * 6364136223846793005) + 1442695040888963407)⟩, ?_, rfl⟩
    refine ⟨andK_255 _, ?_⟩
    rw [IntWalk.i64_in _ (by omega)]
    exact ⟨by show 0 ≤ c.i + 1; omega, by show c.i + 1 ≤ c.b.length; omega, h2⟩
  · try simp -implicitDefEqProofs (maxSteps := 1000000) only [go_sem, true_implies, false_implies]
    repeat (first | refine ⟨rfl, ?_⟩ | refine ⟨by decide, ?_⟩ | refine ⟨⟨by decide, by decide⟩, ?_⟩ | refine ⟨decide_eq_true (by omega), ?_⟩ | refine ⟨⟨decide_eq_true (by omega), decide_eq_true (by omega)⟩, ?_⟩)
    try (first | done | decide | exact decide_eq_true (by omega) | exact ⟨decide_eq_true (by omega), decide_eq_true (by omega)⟩)
    refine ⟨_, ⟨c.b, c.i, IntKind.i64.wrap (IntKind.i64.wrap (c.h * 6364136223846793005) + 1442695040888963407)⟩, ?_, rfl⟩
    exact ⟨andK_255 _, h0, h1, h2⟩
def x_s_l1Below : FnX := ⟨31, [.tmp 4],
  .seq (.reg [⟨none, some 4, 4, .mv (.k (.one (.pv (.int .i64 0))))⟩])
 (.seq (.seq (.reg [⟨none, some 8, 8, .mv (.t 1)⟩,
   ⟨none, some 9, 9, .bin .leq (.t 8) (.k (.one (.pv (.int .i64 0))))⟩])
 (.cond 9 (.seq (.reg [⟨none, some 4, 4, .mv (.k (.one (.pv (.int .i64 0))))⟩])
 (.ret)) (.skip)))
 (.seq (.seq (.reg [⟨none, some 10, 10, .mv (.t 1)⟩,
   ⟨none, some 11, 11, .bin .leq (.t 10) (.k (.one (.pv (.int .i64 256))))⟩])
 (.cond 11 (.seq (.reg [⟨none, some 12, 12, .mv (.t 0)⟩,
   ⟨none, some 13, 13, .call 89 [5] [(.t 12)]⟩,
   ⟨none, some 14, 14, .mv (.t 1)⟩,
   ⟨none, some 15, 15, .bin .rem (.t 13) (.t 14)⟩,
   ⟨none, some 4, 4, .mv (.t 15)⟩])
 (.ret)) (.skip)))
 (.seq (.reg [⟨none, some 16, 16, .mv (.t 0)⟩,
   ⟨none, some 17, 17, .call 89 [5] [(.t 16)]⟩,
   ⟨none, some 5, 5, .mv (.t 17)⟩])
 (.seq (.reg [⟨none, some 18, 18, .mv (.t 0)⟩,
   ⟨none, some 19, 19, .call 89 [5] [(.t 18)]⟩,
   ⟨none, some 6, 6, .mv (.t 19)⟩])
 (.seq (.reg [⟨none, some 20, 20, .mv (.t 0)⟩,
   ⟨none, some 21, 21, .call 89 [5] [(.t 20)]⟩,
   ⟨none, some 7, 7, .mv (.t 21)⟩])
 (.seq (.reg [⟨none, some 22, 22, .mv (.t 5)⟩,
   ⟨none, some 23, 23, .bin .mul (.t 22) (.k (.one (.pv (.int .i64 65536))))⟩,
   ⟨none, some 24, 24, .mv (.t 6)⟩,
   ⟨none, some 25, 25, .bin .mul (.t 24) (.k (.one (.pv (.int .i64 256))))⟩,
   ⟨none, some 26, 26, .bin .add (.t 23) (.t 25)⟩,
   ⟨none, some 27, 27, .mv (.t 7)⟩,
   ⟨none, some 28, 28, .bin .add (.t 26) (.t 27)⟩,
   ⟨none, some 29, 29, .mv (.t 1)⟩,
   ⟨none, some 30, 30, .bin .rem (.t 28) (.t 29)⟩,
   ⟨none, some 4, 4, .mv (.t 30)⟩])
 (.ret)))))))⟩
abbrev C_s_l1Below (Te : Nat → List AV → Res → Prop) : Prop := ∀ (c : CurV) (n : Int) (hc : c.ok), ∃ (r : Int) (d : CurV), ((0 ≤ r ∧ (0 < n → r < n) ∧ (n ≤ 0 → r = 0)) ∧ d.ok) ∧ Te 74 [.ptr c.enc, .one (iT n)] ⟨[.one (iT r)], [d.enc, [iT n]]⟩
theorem r_s_l1Below {Te : Nat → List AV → Res → Prop} (c_s_l1Byte : C_s_l1Byte Te) : ∀ (c : CurV) (n : Int) (hc : c.ok), ∃ r0, (∃ (r : Int) (d : CurV), ((0 ≤ r ∧ (0 < n → r < n) ∧ (n ≤ 0 → r = 0)) ∧ d.ok) ∧ r0 = (⟨[.one (iT r)], [d.enc, [iT n]]⟩ : Res)) ∧ RunFn Te x_s_l1Below [.ptr c.enc, .one (iT n)] r0 := by
  intro c n hc
  refine some_of (by simp -implicitDefEqProofs (maxSteps := 1000000) only [x_s_l1Below, go_sem]) (by rfl) ?_
  simp -implicitDefEqProofs (maxSteps := 1000000) only [x_s_l1Below, go_sem, true_implies, false_implies]
  repeat (first | refine ⟨rfl, ?_⟩ | refine ⟨by decide, ?_⟩ | refine ⟨⟨by decide, by decide⟩, ?_⟩ | refine ⟨decide_eq_true (by omega), ?_⟩ | refine ⟨⟨decide_eq_true (by omega), decide_eq_true (by omega)⟩, ?_⟩)
  try (first | done | decide | exact decide_eq_true (by omega) | exact ⟨decide_eq_true (by omega), decide_eq_true (by omega)⟩)
  refine ⟨fun q => ?_, fun q => ?_⟩
  · try simp -implicitDefEqProofs (maxSteps := 1000000) only [go_sem, true_implies, false_implies]
    repeat (first | refine ⟨rfl, ?_⟩ | refine ⟨by decide, ?_⟩ | refine ⟨⟨by decide, by decide⟩, ?_⟩ | refine ⟨decide_eq_true (by omega), ?_⟩ | refine ⟨⟨decide_eq_true (by omega), decide_eq_true (by omega)⟩, ?_⟩)
    try (first | done | decide | exact decide_eq_true (by omega) | exact ⟨decide_eq_true (by omega), decide_eq_true (by omega)⟩)
    simp only [decide_eq_true_eq] at q
    exact ⟨0, c, ⟨⟨Int.le_refl _, fun h => by omega, fun _ => rfl⟩, hc⟩, rfl⟩
  · have hn : 0 < n := by simp only [decide_eq_false_iff_not] at q; omega
    have hz : (!(n == 0)) = true := by simp; omega
    try simp -implicitDefEqProofs (maxSteps := 1000000) only [go_sem, true_implies, false_implies]
    repeat (first | refine ⟨rfl, ?_⟩ | refine ⟨by decide, ?_⟩ | refine ⟨⟨by decide, by decide⟩, ?_⟩ | refine ⟨decide_eq_true (by omega), ?_⟩ | refine ⟨⟨decide_eq_true (by omega), decide_eq_true (by omega)⟩, ?_⟩)
    try (first | done | decide | exact decide_eq_true (by omega) | exact ⟨decide_eq_true (by omega), decide_eq_true (by omega)⟩)
    refine ⟨fun q2 => ?_, fun q2 => ?_⟩
    · try simp -implicitDefEqProofs (maxSteps := 1000000) only [go_sem, true_implies, false_implies]
      repeat (first | refine ⟨rfl, ?_⟩ | refine ⟨by decide, ?_⟩ | refine ⟨⟨by decide, by decide⟩, ?_⟩ | refine ⟨decide_eq_true (by omega), ?_⟩ | refine ⟨⟨decide_eq_true (by omega), decide_eq_true (by omega)⟩, ?_⟩)
      try (first | done | decide | exact decide_eq_true (by omega) | exact ⟨decide_eq_true (by omega), decide_eq_true (by omega)⟩)
      obtain ⟨r, d, ⟨hr, hd⟩, ht⟩ := c_s_l1Byte c hc
      refine .of (ht) ?_
      try simp -implicitDefEqProofs (maxSteps := 1000000) only [go_sem, true_implies, false_implies, hz]
      repeat (first | refine ⟨rfl, ?_⟩ | refine ⟨by decide, ?_⟩ | refine ⟨⟨by decide, by decide⟩, ?_⟩ | refine ⟨decide_eq_true (by omega), ?_⟩ | refine ⟨⟨decide_eq_true (by omega), decide_eq_true (by omega)⟩, ?_⟩)
      try (first | done | decide | exact decide_eq_true (by omega) | exact ⟨decide_eq_true (by omega), decide_eq_true (by omega)⟩)
      have := tmod_in (n := n) hr.1 hn
      exact ⟨_, d, ⟨⟨this.1, fun _ => this.2, fun h => by omega⟩, hd⟩, rfl⟩
    · try simp -implicitDefEqProofs (maxSteps := 1000000) only [go_sem, true_implies, false_implies]
      repeat (first | refine ⟨rfl, ?_⟩ | refine ⟨by decide, ?_⟩ | refine ⟨⟨by decide, by decide⟩, ?_⟩ | refine ⟨decide_eq_true (by omega), ?_⟩ | refine ⟨⟨decide_eq_true (by omega), decide_eq_true (by omega)⟩, ?_⟩)
      try (first | done | decide | exact decide_eq_true (by omega) | exact ⟨decide_eq_true (by omega), decide_eq_true (by omega)⟩)
      obtain ⟨r1, d1, ⟨hr1, hd1⟩, ht1⟩ := c_s_l1Byte c hc
      refine .of (ht1) ?_
      try simp -implicitDefEqProofs (maxSteps := 1000000) only [go_sem, true_implies, false_implies]
      repeat (first | refine ⟨rfl, ?_⟩ | refine ⟨by decide, ?_⟩ | refine ⟨⟨by decide, by decide⟩, ?_⟩ | refine ⟨decide_eq_true (by omega), ?_⟩ | refine ⟨⟨decide_eq_true (by omega), decide_eq_true (by omega)⟩, ?_⟩)
      try (first | done | decide | exact decide_eq_true (by omega) | exact ⟨decide_eq_true (by omega), decide_eq_true (by omega)⟩)
      obtain ⟨r2, d2, ⟨hr2, hd2⟩, ht2⟩ := c_s_l1Byte d1 hd1
      refine .of (ht2) ?_
      try simp -implicitDefEqProofs (maxSteps := 1000000) only [go_sem, true_implies, false_implies]
      repeat (first | refine ⟨rfl, ?_⟩ | refine ⟨by decide, ?_⟩ | refine ⟨⟨by decide, by decide⟩, ?_⟩ | refine ⟨decide_eq_true (by omega), ?_⟩ | refine ⟨⟨decide_eq_true (by omega), decide_eq_true (by omega)⟩, ?_⟩)
      try (first | done | decide | exact decide_eq_true (by omega) | exact ⟨decide_eq_true (by omega), decide_eq_true (by omega)⟩)
      obtain ⟨r3, d3, ⟨hr3, hd3⟩, ht3⟩ := c_s_l1Byte d2 hd2
      refine .of (ht3) ?_
      try simp -implicitDefEqProofs (maxSteps := 1000000) only [go_sem, true_implies, false_implies, hz]
      repeat (first | refine ⟨rfl, ?_⟩ | refine ⟨by decide, ?_⟩ | refine ⟨⟨by decide, by decide⟩, ?_⟩ | refine ⟨decide_eq_true (by omega), ?_⟩ | refine ⟨⟨decide_eq_true (by omega), decide_eq_true (by omega)⟩, ?_⟩)
      try (first | done | decide | exact decide_eq_true (by omega) | exact ⟨decide_eq_true (by omega), decide_eq_true (by omega)⟩)
      rw [IntWalk.i64_in (r1 * 65536) (by omega), IntWalk.i64_in (r2 * 256) (by omega), IntWalk.i64_in (r1 * 65536 + r2 * 256) (by omega), IntWalk.i64_in _ (by omega)]
      have := tmod_in (a := r1 * 65536 + r2 * 256 + r3) (n := n) (by omega) hn
      exact ⟨_, d3, ⟨⟨this.1, fun _ => this.2, fun h => by omega⟩, hd3⟩, rfl⟩
def x_s_l1Once : FnX := ⟨9, [.tmp 4],
  .seq (.reg [⟨none, some 4, 4, .mv (.k (.one (.pv (.bool false))))⟩])
 (.seq (.reg [⟨none, some 5, 5, .mv (.t 0)⟩,
   ⟨none, some 6, 6, .mv (.t 1)⟩,
   ⟨none, some 7, 7, .call 74 [5, 0] [(.t 5), (.t 6)]⟩,
   ⟨none, some 8, 8, .bin .eql (.t 7) (.k (.one (.pv (.int .i64 0))))⟩,
   ⟨none, some 4, 4, .mv (.t 8)⟩])
 (.ret))⟩
abbrev C_s_l1Once (Te : Nat → List AV → Res → Prop) : Prop := ∀ (c : CurV) (n : Int) (hc : c.ok), ∃ (r : Bool) (d : CurV), (d.ok) ∧ Te 73 [.ptr c.enc, .one (iT n)] ⟨[.one (bT r)], [d.enc, [iT n]]⟩
theorem r_s_l1Once {Te : Nat → List AV → Res → Prop} (c_s_l1Below : C_s_l1Below Te) : ∀ (c : CurV) (n : Int) (hc : c.ok), ∃ r0, (∃ (r : Bool) (d : CurV), (d.ok) ∧ r0 = (⟨[.one (bT r)], [d.enc, [iT n]]⟩ : Res)) ∧ RunFn Te x_s_l1Once [.ptr c.enc, .one (iT n)] r0 := by
  intro c n hc
  refine some_of (by simp -implicitDefEqProofs (maxSteps := 1000000) only [x_s_l1Once, go_sem]) (by rfl) ?_
  simp -implicitDefEqProofs (maxSteps := 1000000) only [x_s_l1Once, go_sem, true_implies, false_implies]
  repeat (first | refine ⟨rfl, ?_⟩ | refine ⟨by decide, ?_⟩ | refine ⟨⟨by decide, by decide⟩, ?_⟩ | refine ⟨decide_eq_true (by omega), ?_⟩ | refine ⟨⟨decide_eq_true (by omega), decide_eq_true (by omega)⟩, ?_⟩)
  try (first | done | decide | exact decide_eq_true (by omega) | exact ⟨decide_eq_true (by omega), decide_eq_true (by omega)⟩)
  obtain ⟨r, d, ⟨_, hd⟩, ht⟩ := c_s_l1Below c n hc
  refine .of (ht) ?_
  try simp -implicitDefEqProofs (maxSteps := 1000000) only [go_sem, true_implies, false_implies]
  repeat (first | refine ⟨rfl, ?_⟩ | refine ⟨by decide, ?_⟩ | refine ⟨⟨by decide, by decide⟩, ?_⟩ | refine ⟨decide_eq_true (by omega), ?_⟩ | refine ⟨⟨decide_eq_true (by omega), decide_eq_true (by omega)⟩, ?_⟩)
  try (first | done | decide | exact decide_eq_true (by omega) | exact ⟨decide_eq_true (by omega), decide_eq_true (by omega)⟩)
  exact ⟨_, d, hd, rfl⟩
def x_s_l1Int : FnX := ⟨12, [.tmp 4],
  .seq (.reg [⟨none, some 4, 4, .mv (.k (.one (.pv (.int .i64 0))))⟩])
 (.seq (.reg [⟨none, some 5, 5, .mv (.t 1)⟩,
   ⟨none, some 6, 6, .mv (.t 0)⟩,
   ⟨none, some 7, 7, .mv (.t 1)⟩,
   ⟨none, some 8, 8, .len (.t 7)⟩,
   ⟨none, some 9, 9, .call 74 [5, 0] [(.t 6), (.t 8)]⟩,
   ⟨none, some 10, 10, .iaddr 1 (.t 5) (.t 9)⟩,
   ⟨none, some 11, 11, .load none (.t 10)⟩,
   ⟨none, some 4, 4, .mv (.t 11)⟩])
 (.ret))⟩
abbrev C_s_l1Int (Te : Nat → List AV → Res → Prop) : Prop := ∀ (c : CurV) (l : List Int) (hc : c.ok) (hl : 0 < l.length ∧ l.length ≤ 2 ^ 31), ∃ (r : Int) (d : CurV), (r ∈ l ∧ d.ok) ∧ Te 66 [.ptr c.enc, .one (slT true 1 iR l)] ⟨[.one (iT r)], [d.enc, [slT true 1 iR l]]⟩
theorem r_s_l1Int {Te : Nat → List AV → Res → Prop} (c_s_l1Below : C_s_l1Below Te) : ∀ (c : CurV) (l : List Int) (hc : c.ok) (hl : 0 < l.length ∧ l.length ≤ 2 ^ 31), ∃ r0, (∃ (r : Int) (d : CurV), (r ∈ l ∧ d.ok) ∧ r0 = (⟨[.one (iT r)], [d.enc, [slT true 1 iR l]]⟩ : Res)) ∧ RunFn Te x_s_l1Int [.ptr c.enc, .one (slT true 1 iR l)] r0 := by
  intro c l hc hl
  refine some_of (by simp -implicitDefEqProofs (maxSteps := 1000000) only [x_s_l1Int, go_sem]) (by rfl) ?_
  simp -implicitDefEqProofs (maxSteps := 1000000) only [x_s_l1Int, go_sem, true_implies, false_implies]
  repeat (first | refine ⟨rfl, ?_⟩ | refine ⟨by decide, ?_⟩ | refine ⟨⟨by decide, by decide⟩, ?_⟩ | refine ⟨decide_eq_true (by omega), ?_⟩ | refine ⟨⟨decide_eq_true (by omega), decide_eq_true (by omega)⟩, ?_⟩)
  try (first | done | decide | exact decide_eq_true (by omega) | exact ⟨decide_eq_true (by omega), decide_eq_true (by omega)⟩)
  obtain ⟨r, d, ⟨hr, hd⟩, ht⟩ := c_s_l1Below c l.length hc
  have hr' : r.toNat < l.length := by have := hr.2.1 (by omega); omega
  refine .of (ht) ?_
  try simp -implicitDefEqProofs (maxSteps := 1000000) only [go_sem, true_implies, false_implies, List.getD_eq_getElem?_getD, List.getElem?_eq_getElem hr']
  repeat (first | refine ⟨rfl, ?_⟩ | refine ⟨by decide, ?_⟩ | refine ⟨⟨by decide, by decide⟩, ?_⟩ | refine ⟨decide_eq_true (by omega), ?_⟩ | refine ⟨⟨decide_eq_true (by omega), decide_eq_true (by omega)⟩, ?_⟩)
  try (first | done | decide | exact decide_eq_true (by omega) | exact ⟨decide_eq_true (by omega), decide_eq_true (by omega)⟩)
  exact ⟨_, d, ⟨List.getElem_mem hr', hd⟩, rfl⟩
def x_s_l1Str : FnX := ⟨12, [.tmp 4],
  .seq (.reg [⟨none, some 4, 4, .mv (.k (.one (.pv (.string ⟨#[]⟩))))⟩])
 (.seq (.reg [⟨none, some 5, 5, .mv (.t 1)⟩,
   ⟨none, some 6, 6, .mv (.t 0)⟩,
   ⟨none, some 7, 7, .mv (.t 1)⟩,
   ⟨none, some 8, 8, .len (.t 7)⟩,
   ⟨none, some 9, 9, .call 74 [5, 0] [(.t 6), (.t 8)]⟩,
   ⟨none, some 10, 10, .iaddr 1 (.t 5) (.t 9)⟩,
   ⟨none, some 11, 11, .load none (.t 10)⟩,
   ⟨none, some 4, 4, .mv (.t 11)⟩])
 (.ret))⟩
abbrev C_s_l1Str (Te : Nat → List AV → Res → Prop) : Prop := ∀ (c : CurV) (l : List ByteArray) (hc : c.ok) (hl : 0 < l.length ∧ l.length ≤ 2 ^ 31), ∃ (r : ByteArray) (d : CurV), (r ∈ l ∧ d.ok) ∧ Te 80 [.ptr c.enc, .one (slT true 1 sR l)] ⟨[.one (sT r)], [d.enc, [slT true 1 sR l]]⟩
theorem r_s_l1Str {Te : Nat → List AV → Res → Prop} (c_s_l1Below : C_s_l1Below Te) : ∀ (c : CurV) (l : List ByteArray) (hc : c.ok) (hl : 0 < l.length ∧ l.length ≤ 2 ^ 31), ∃ r0, (∃ (r : ByteArray) (d : CurV), (r ∈ l ∧ d.ok) ∧ r0 = (⟨[.one (sT r)], [d.enc, [slT true 1 sR l]]⟩ : Res)) ∧ RunFn Te x_s_l1Str [.ptr c.enc, .one (slT true 1 sR l)] r0 := by
  intro c l hc hl
  refine some_of (by simp -implicitDefEqProofs (maxSteps := 1000000) only [x_s_l1Str, go_sem]) (by rfl) ?_
  simp -implicitDefEqProofs (maxSteps := 1000000) only [x_s_l1Str, go_sem, true_implies, false_implies]
  repeat (first | refine ⟨rfl, ?_⟩ | refine ⟨by decide, ?_⟩ | refine ⟨⟨by decide, by decide⟩, ?_⟩ | refine ⟨decide_eq_true (by omega), ?_⟩ | refine ⟨⟨decide_eq_true (by omega), decide_eq_true (by omega)⟩, ?_⟩)
  try (first | done | decide | exact decide_eq_true (by omega) | exact ⟨decide_eq_true (by omega), decide_eq_true (by omega)⟩)
  obtain ⟨r, d, ⟨hr, hd⟩, ht⟩ := c_s_l1Below c l.length hc
  have hr' : r.toNat < l.length := by have := hr.2.1 (by omega); omega
  refine .of (ht) ?_
  try simp -implicitDefEqProofs (maxSteps := 1000000) only [go_sem, true_implies, false_implies, List.getD_eq_getElem?_getD, List.getElem?_eq_getElem hr']
  repeat (first | refine ⟨rfl, ?_⟩ | refine ⟨by decide, ?_⟩ | refine ⟨⟨by decide, by decide⟩, ?_⟩ | refine ⟨decide_eq_true (by omega), ?_⟩ | refine ⟨⟨decide_eq_true (by omega), decide_eq_true (by omega)⟩, ?_⟩)
  try (first | done | decide | exact decide_eq_true (by omega) | exact ⟨decide_eq_true (by omega), decide_eq_true (by omega)⟩)
  exact ⟨_, d, ⟨List.getElem_mem hr', hd⟩, rfl⟩
end Go.X

