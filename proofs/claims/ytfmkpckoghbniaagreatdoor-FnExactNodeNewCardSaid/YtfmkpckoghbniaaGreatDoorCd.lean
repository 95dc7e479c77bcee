/- Texts: XOpen CA CB CC CD CE CEa CEb CF CK CR CS. -/
import Derived.Test.YtfmkpckoghbniaaGreatDoorCc
import Derived.SizedLaws
import Derived.Deep.Slices
import Derived.ChangeArms
import Derived.WideShapes
import Derived.Below
set_option linter.unusedVariables false
set_option linter.unusedSimpArgs false
/- How what comes in reads; how a law is asked. -/
namespace Go.X
open Go.WideShapes Go.RowKit
/-- What is asked beside a step, found by itself. -/
theorem sc {p : Prop} (h : p := by first | exact rfl | decide | exact ⟨by decide, by decide⟩ | exact decide_eq_true (by omega) | exact ⟨decide_eq_true (by omega), decide_eq_true (by omega)⟩) : p := h
theorem sf {p : Prop} (h : p := by first | decide | exact decide_eq_true (by omega) | exact ⟨decide_eq_true (by omega), decide_eq_true (by omega)⟩) : p := h
def Old (w : World) : Nat → Prop := fun b => b < w.heap.size
def RdL (S : Nat → Prop) (w : World) (ts : List T) (vs : List Value) : Prop := ts.length = vs.length ∧ ∀ (k : Nat) (t : T) (v : Value), ts[k]? = some t → vs[k]? = some v → Rd S w t v
theorem RdL.app {S : Nat → Prop} {w : World} {a b : List T} {vs us : List Value} (h : RdL S w a vs) (h' : RdL S w b us) : RdL S w (a ++ b) (vs ++ us) :=
  ⟨by simp [h.1, h'.1], fun k t v ht hv => by
    by_cases hk : k < a.length
    · rw [List.getElem?_append_left hk] at ht
      rw [List.getElem?_append_left (by have := h.1; omega)] at hv
      exact h.2 k t v ht hv
    · rw [List.getElem?_append_right (by omega)] at ht
      rw [List.getElem?_append_right (by have := h.1; omega), ← h.1] at hv
      exact h'.2 _ t v ht hv⟩
theorem RdL.one {S : Nat → Prop} {w : World} {t : T} {v : Value} (h : Rd S w t v) : RdL S w [t] [v] := ⟨rfl, fun k t' v' ht hv => by
  cases k with
  | zero => simp at ht hv; subst ht; subst hv; exact h
  | succ k => simp at ht⟩
/-- Every reading of type t is a value that is told so and meets p. -/
def OpT {α : Type} (P : Program) (t : TypeId) (e : α → List T) (p : α → Prop) : Prop :=
  ∀ (H : Type) (enc : TypeId × Value → H) (w : World) (fuel : Nat) (cs : List Value) (x : DataW H × List MemPlace), DataW.trod enc P w 0 (fun _ => true) true fuel t cs = some x →
    (∀ n ∈ x.1.weights P t, n ≤ 140737488351232) → ∃ a, p a ∧ RdL (Old w) w (e a) cs
def FT {α : Type} (P : Program) (fs : List Field) (off z : Nat) (e : α → List T) (p : α → Prop) : Prop :=
  ∀ (H : Type) (enc : TypeId × Value → H) (w : World) (n : Nat) (cs : List Value) (xs : List (DataW H × List MemPlace)),
    (∀ (i : Nat) (f : Field), fs[i]? = some f → DataW.trod enc P w 0 (fun _ => true) true n f.type ((cs.drop f.offset).take (P.cellsOf f.type)) = xs[i]?) → xs.length = fs.length →
    (∀ m ∈ DataW.weightsEach P (fs.map (·.type)) (xs.map (·.1)), m ≤ 140737488351232) → cs.length = off + z → ∃ a, p a ∧ RdL (Old w) w (e a) (cs.drop off)
def InI (k : IntKind) (a : Int) : Prop := (Lit.int k a).wf = true
section
variable {P : Program} {t : TypeId}
theorem OpT.int {k : IntKind} (ht : P.underlying t = some (.int k)) : OpT P t (fun a => [.pv (.int k a)]) (InI k) := fun H enc w fuel cs x h _ => by
  obtain ⟨n, rfl, _, hw⟩ := DataW.trod_int ht h
  exact ⟨n, hw, .one (.pv rfl)⟩
theorem OpT.byte (ht : P.underlying t = some (.int .u8)) : OpT P t (fun a : UInt8 => [.pv (.int .u8 a.toNat)]) (fun _ => True) := fun H enc w fuel cs x h _ => by
  obtain ⟨n, rfl, _, hw⟩ := DataW.trod_int ht h
  have hn : 0 ≤ n ∧ n ≤ 255 := by
    have hw' := hw
    simp only [Lit.wf, Bool.and_eq_true, decide_eq_true_eq] at hw'
    exact hw'
  refine ⟨UInt8.ofNat n.toNat, trivial, ?_⟩
  have e : ((UInt8.ofNat n.toNat).toNat : Int) = n := by rw [UInt8.toNat_ofNat']; omega
  show RdL (Old w) w [.pv (.int .u8 ((UInt8.ofNat n.toNat).toNat : Int))] _
  rw [e]
  exact .one (.pv rfl)
theorem OpT.bool (ht : P.underlying t = some .bool) : OpT P t (fun a => [.pv (.bool a)]) (fun _ => True) := fun H enc w fuel cs x h _ => by
  obtain ⟨n, rfl, _⟩ := DataW.trod_bool ht h
  exact ⟨n, trivial, .one (.pv rfl)⟩
theorem OpT.string (ht : P.underlying t = some .string) : OpT P t (fun a => [.pv (.string a)]) (fun a => a.size ≤ 140737488351232) := fun H enc w fuel cs x h hw => by
  obtain ⟨s, rfl, rfl, hs⟩ := DataW.trod_string ht h
  refine ⟨s, ?_, .one (.pv rfl)⟩
  have := hw s.data.toList.length (by simp [DataW.weights])
  simpa using this
theorem old_of_cell {w : World} {ad : Addr} {v : Value} (h : w.cell? ad = some v) : ad.block < w.heap.size := by
  unfold World.cell? at h
  cases hb : w.heap[ad.block]? with
  | none => simp [hb] at h
  | some _ => exact (Array.getElem?_eq_some_iff.1 hb).1
theorem mem_allW {H : Type} {e : TypeId} {d : DataW H} {n : Nat} (hn : n ∈ d.weights P e) : ∀ {l : List (DataW H)}, d ∈ l → n ∈ DataW.weightsAll P e l
  | [], h => by cases h
  | y :: l, h => by
    simp only [DataW.weightsAll, List.mem_append]
    rcases List.mem_cons.1 h with rfl | h
    · exact .inl hn
    · exact .inr (mem_allW hn h)
theorem OpT.slice {α : Type} {e : TypeId} {en : α → List T} {p : α → Prop} (z B : Nat) (ht : P.underlying t = some (.slice e)) (hc : P.cellsOf e = z) (hB : P.bytesOf e = B) (h : OpT P e en p) :
    OpT P t (fun l : List α => [.sl false z () (l.map en)]) (fun l => l.length * B ≤ 140737488351232 ∧ ∀ a ∈ l, p a) := fun H enc w fuel cs x hx hw => by
  rcases Deep.open_slice ht hx with ⟨rfl, rfl⟩ | ⟨ad, len, cap, m, n, D, Pl, rfl, _, hl, hm, hmm, rfl, hel⟩
  · refine ⟨[], ⟨by simp, fun _ h => by cases h⟩, .one ?_⟩
    exact Rd.sl (rows := []) (fun _ _ => undef) (Nat.le_refl _) (by simp [maxLen]) (fun r hr => by cases hr) (fun i r j t hr => by simp at hr) (fun i r j t hr => by simp at hr)
  · simp only [if_true] at hmm
    replace hmm := hmm.symm
    subst hmm
    have hel' : ∀ i, i < len → ∃ a, p a ∧ ∃ c : List Value, c.length = z ∧ RdL (Old w) w (en a) c ∧ ∀ j u, c[j]? = some u → w.cell? (ad.add (i * z + j)) = some u := fun i hi => by
      obtain ⟨c, h1, h2⟩ := hel i (by omega)
      have hww : ∀ k ∈ (D i).weights P e, k ≤ 140737488351232 := fun k hk => hw k (by
        simp only [DataW.weights, ht, List.mem_cons, List.mem_append]
        exact .inr (.inl (mem_allW hk (List.mem_map.2 ⟨i, by simpa using hi, rfl⟩))))
      obtain ⟨a, hpa, ha⟩ := h H enc w n c _ h2 hww
      obtain ⟨_, hlen, hcell⟩ := World.cells?_some h1
      refine ⟨a, hpa, c, hlen.trans hc, ha, fun j u hu => ?_⟩
      have hj : j < c.length := (List.getElem?_eq_some_iff.1 hu).1
      have := hcell j (by omega)
      rw [hu, Deep.add_add, hc] at this
      exact this
    have : ∃ l : List α, l.length = len ∧ ∀ i a, l[i]? = some a → p a ∧ ∃ c : List Value, c.length = z ∧ RdL (Old w) w (en a) c ∧ ∀ j u, c[j]? = some u → w.cell? (ad.add (i * z + j)) = some u := by
      clear hx hw hel hl
      induction len with
      | zero => exact ⟨[], rfl, fun i a h => by simp at h⟩
      | succ len ih =>
        obtain ⟨l, hl, hh⟩ := ih (fun i hi => hel' i (by omega))
        obtain ⟨a, ha⟩ := hel' len (by omega)
        refine ⟨l ++ [a], by simp [hl], fun i b hb => ?_⟩
        by_cases hi : i < l.length
        · exact hh i b (by rwa [List.getElem?_append_left hi] at hb)
        · have hi' : i = len := by
            have := (List.getElem?_eq_some_iff.1 hb).1
            simp at this
            omega
          subst hi'
          rw [List.getElem?_append_right (by omega), hl] at hb
          simp at hb
          subst hb
          exact ha
    obtain ⟨l, hll, hh⟩ := this
    have hsz : len * B ≤ 140737488351232 := by
      have z := hw ((((List.range len).map D).length + ((List.range (cap - len)).map fun j => D (len + j)).length) * P.bytesOf e) (by simp [DataW.weights, ht])
      rw [hB] at z
      simp only [List.length_map, List.length_range] at z
      exact Nat.le_trans (Nat.mul_le_mul_right _ (by omega)) z
    refine ⟨l, ⟨by rw [hll]; exact hsz, fun a ha => ?_⟩, .one ?_⟩
    · obtain ⟨i, hi, rfl⟩ := List.mem_iff_getElem.1 ha
      exact (hh i _ (List.getElem?_eq_getElem hi)).1
    · have key : ∀ i r j t, (l.map en)[i]? = some r → r[j]? = some t → w.cell? (ad.add (i * z + j)) = some ((w.cell? (ad.add (i * z + j))).getD undef) ∧ Rd (Old w) w t ((w.cell? (ad.add (i * z + j))).getD undef) := fun i r j t hr hj => by
        rw [List.getElem?_map] at hr
        cases hi : l[i]? with
        | none => simp [hi] at hr
        | some a =>
          simp [hi] at hr
          subst hr
          obtain ⟨_, c, h1, h2, h3⟩ := hh i a hi
          have hjl : j < c.length := by rw [← h2.1]; exact (List.getElem?_eq_some_iff.1 hj).1
          have h4 := h3 j c[j] (List.getElem?_eq_getElem hjl)
          rw [h4]
          exact ⟨rfl, h2.2 j t _ hj (List.getElem?_eq_getElem hjl)⟩
      have := Rd.sl (S := Old w) (w := w) (z := z) (cap := cap) (a := some ad) (rows := l.map en) (fun i j => (w.cell? (ad.add (i * z + j))).getD undef) (by simp; omega) hm (fun r hr => by
        obtain ⟨a, ha, rfl⟩ := List.mem_map.1 hr
        obtain ⟨i, hi, rfl⟩ := List.mem_iff_getElem.1 ha
        obtain ⟨_, c, h1, h2, h3⟩ := hh i _ (List.getElem?_eq_getElem hi)
        rw [h2.1, h1]) (fun i r j t hr hj => by
        obtain ⟨h1, h2⟩ := key i r j t hr hj
        refine ⟨ad, rfl, ?_, h1⟩
        have := old_of_cell h1
        rwa [add_block] at this) (fun i r j t hr hj => (key i r j t hr hj).2)
      rw [List.length_map, hll] at this
      exact this
theorem FT.one {α : Type} {e : α → List T} {p : α → Prop} {f : Field} {off z : Nat} (ho : f.offset = off) (hc : P.cellsOf f.type = z) (h : OpT P f.type e p) : FT P [f] off z e p := fun H enc w n cs xs hx hl hw hlen => by
  match xs, hl with
  | [x], _ =>
    have h0 := hx 0 f rfl
    rw [ho, hc, List.take_of_length_le (by rw [List.length_drop]; omega)] at h0
    exact h H enc w n _ x (by simpa using h0) (fun m hm => hw m (by simp only [List.map_cons, List.map_nil, DataW.weightsEach, List.append_nil]; exact hm))
theorem FT.cons {α β : Type} {e : α → List T} {e' : β → List T} {p : α → Prop} {p' : β → Prop} {f : Field} {fs : List Field} {off z z' : Nat} (ho : f.offset = off) (hc : P.cellsOf f.type = z) (h : OpT P f.type e p) (h' : FT P fs (off + z) z' e' p') :
    FT P (f :: fs) off (z + z') (fun a : α × β => e a.1 ++ e' a.2) (fun a => p a.1 ∧ p' a.2) := fun H enc w n cs xs hx hl hw hlen => by
  match xs, hl with
  | x :: xs, hl =>
    have h0 := hx 0 f rfl
    rw [ho, hc] at h0
    obtain ⟨a, hpa, ha⟩ := h H enc w n _ x (by simpa using h0) (fun m hm => hw m (by simp only [List.map_cons, DataW.weightsEach, List.mem_append]; exact .inl hm))
    obtain ⟨b, hpb, hb⟩ := h' H enc w n cs xs (fun i g hg => by simpa using hx (i + 1) g (by simpa using hg)) (by simpa using hl)
      (fun m hm => hw m (by simp only [List.map_cons, DataW.weightsEach, List.mem_append]; exact .inr hm)) (by omega)
    refine ⟨(a, b), ⟨hpa, hpb⟩, ?_⟩
    have := ha.app hb
    rwa [← List.drop_drop, List.take_append_drop] at this
theorem OpT.struct {α β : Type} {e : α → List T} {e' : β → List T} {p : α → Prop} {q : β → Prop} {fs : Array Field} {z : Nat} (ht : P.underlying t = some (.struct fs)) (hc : P.cellsOf t = z) (h : FT P fs.toList 0 z e p) (g : α → β) (hg : ∀ a, e' (g a) = e a) (hq : ∀ a, p a → q (g a)) :
    OpT P t e' q := fun H enc w fuel cs x hx hw => by
  obtain ⟨xs, n, _, rfl, hl, hlen, hf⟩ := DataW.trod_struct ht hx
  obtain ⟨a, hpa, ha⟩ := h H enc w n cs xs (fun i f hi => hf i f (by simpa using hi)) (by simpa using hlen) (fun m hm => hw m (by simpa only [DataW.weights, ht] using hm)) (by omega)
  exact ⟨g a, hq a hpa, by rw [hg]; simpa using ha⟩
theorem OpT.weaken {α : Type} {e : α → List T} {p q : α → Prop} (h : OpT P t e p) (hq : ∀ a, p a → q a) : OpT P t e q := fun H enc w fuel cs x hx hw => by
  obtain ⟨a, hp, ha⟩ := h H enc w fuel cs x hx hw
  exact ⟨a, hq a hp, ha⟩
/-- A parameter's value. -/
theorem OpT.param {α : Type} {e : α → List T} {p : α → Prop} (h : OpT P t e p) {H : Type} {enc : TypeId × Value → H} {W : World} {v : Value} {x : DataW H} {ps : List MemPlace} {ts : List TypeId} {ds : List (DataW H)} (hT : DataW.Trod enc P W 0 (fun _ => true) true t v x ps)
    (hsz : (DataW.weightsEach P ts ds).all (· ≤ reachBytes) = true) (j : Nat) (hj : ts[j]? = some t) (hd : ds[j]? = some x) : ∃ a, p a ∧ RdL (Old W) W (e a) v.cells.toList := by
  obtain ⟨fuel, hf⟩ := hT
  exact h H enc W fuel _ _ hf (fun n hn => by
    have := List.all_eq_true.1 hsz _ (DataW.weights_mem_each hj hd n hn)
    exact of_decide_eq_true this)
theorem lt_of_trod {H : Type} {enc : TypeId × Value → H} {W : World} {v : Value} {x : DataW H} {ps : List MemPlace} (h : DataW.Trod enc P W 0 (fun _ => true) true t v x ps) : ∀ y ∈ ps, y.block < W.heap.size := by
  obtain ⟨m, hm⟩ := h
  exact DataW.trod_lt m _ _ _ hm
/-- An argument, and how it reads. -/
def RdA (w : World) : AV → Value → Prop
  | .one t, v => Rd (Old w) w t v
  | .agg ts, v => ∃ vs : List Value, v = .agg vs.toArray ∧ RdL (Old w) w ts vs
  | .ptr _, _ => False
def RdAs (w : World) : List AV → List Value → Prop
  | [], [] => True
  | a :: as, v :: vs => RdA w a v ∧ RdAs w as vs
  | _, _ => False
theorem rdL_ghost {w : World} : ∀ {ts : List T} {vs : List Value}, RdL (Old w) w ts vs → ∃ gs : List G, gs.map er = ts ∧ gs.map hdr = vs ∧ ∀ t ∈ gs, Rp (Old w) w t ∧ ∀ b, cnt b t = 0
  | [], [], _ => ⟨[], rfl, rfl, fun t h => by cases h⟩
  | t :: ts, v :: vs, h => by
    obtain ⟨gs, e1, e2, e3⟩ := rdL_ghost (ts := ts) (vs := vs) ⟨by simpa using h.1, fun k t v ht hv => h.2 (k + 1) t v (by simpa using ht) (by simpa using hv)⟩
    obtain ⟨f1, f2, f3⟩ := gro_ok (h.2 0 t v rfl rfl)
    exact ⟨gro t v :: gs, by simp [gro_er, e1], by simp [f1, e2], fun t' ht' => by
      rcases List.mem_cons.1 ht' with rfl | ht'
      · exact ⟨f2, f3⟩
      · exact e3 t' ht'⟩
  | [], _ :: _, h => by simp [RdL] at h
  | _ :: _, [], h => by simp [RdL] at h
theorem rdAs_ghost {w : World} : ∀ {as : List AV} {vs : List Value}, RdAs w as vs → ∃ gs : List GA, gs.map GA.er = as ∧ gs.map GA.val = vs ∧ (∀ x ∈ gs, x.ok (Old w) w ∧ noPtr x) ∧ ∀ b, treeCnt b gs + ptrCnt b gs = 0
  | [], [], _ => ⟨[], rfl, rfl, fun x h => (by cases h), fun b => rfl⟩
  | a :: as, v :: vs, h => by
    obtain ⟨gs, e1, e2, e3, e4⟩ := rdAs_ghost h.2
    have h1 := h.1
    cases a with
    | one t =>
      obtain ⟨f1, f2, f3⟩ := gro_ok (show Rd (Old w) w t v from h1)
      refine ⟨.one (gro t v) :: gs, by simp [GA.er, gro_er, e1], by simp [GA.val, f1, e2], fun x hx => ?_, fun b => ?_⟩
      · rcases List.mem_cons.1 hx with rfl | hx
        · exact ⟨⟨fun t ht => by simp only [GA.ts, List.mem_singleton] at ht; subst ht; exact f2, fun A ts e => by cases e⟩, trivial⟩
        · exact e3 x hx
      · have := e4 b
        have := f3 b
        simp only [treeCnt, ptrCnt, List.flatMap_cons, cntL_append, GA.ts, GA.pb, cntL] at *
        omega
    | agg ts =>
      obtain ⟨us, rfl, hR⟩ := h1
      obtain ⟨ys, f1, f2, f3⟩ := rdL_ghost hR
      refine ⟨.agg ys :: gs, by simp [GA.er, f1, e1], by simp [GA.val, f2, e2], fun x hx => ?_, fun b => ?_⟩
      · rcases List.mem_cons.1 hx with rfl | hx
        · exact ⟨⟨fun t ht => (f3 t ht).1, fun A ts e => by cases e⟩, trivial⟩
        · exact e3 x hx
      · have h4 := e4 b
        have z : cntL b ys = 0 := by
          have : ∀ l : List G, (∀ t ∈ l, cnt b t = 0) → cntL b l = 0 := fun l => by
            induction l with
            | nil => intro _; rfl
            | cons t l ih => intro h; simp [cntL, h t (List.mem_cons_self ..), ih (fun t ht => h t (List.mem_cons_of_mem _ ht))]
          exact this _ (fun t ht => (f3 t ht).2 b)
        simp only [treeCnt, ptrCnt, List.flatMap_cons, cntL_append, GA.ts, GA.pb] at *
        omega
    | ptr => exact h1.elim
  | [], _ :: _, h => h.elim
  | _ :: _, [], h => h.elim
/-- A law is asked. -/
theorem asked {KP : Kept} {f : Nat} {as : List AV} {args : Array Value} {w : World} {u : Value} {os : List (List T)} (hT : Tells P KP f as ⟨[.one (.pv u)], os⟩) (ha : RdAs w as args.toList) (hK : KP.ok (Old w) w) (hf : Nat.ble (f + 1) VN = true := by exact rfl) : Calls P f args w fun e w' => e = .returned u ∧ Below w.heap.size w w' := by
  obtain ⟨gs, e1, e2, e3, e4⟩ := rdAs_ghost ha
  rw [tells_small (Nat.le_of_ble_eq_true hf)] at hT
  have := hT (Old w) gs w e1 (fun b h => h) (fun x hx => (e3 x hx).1) (fun b => by have := e4 b; omega) (fun b hb => by have := e4 b; omega) hK
  rw [wrapV, e2] at this
  refine this.mono ?_
  rintro e w1 ⟨rs, os', rfl, er1, er2, hrs, hos, hOut, hc1, hc2, hF, _⟩
  have hrs' : rs = [.one (.pv u)] := by
    cases rs with
    | nil => simp at er1
    | cons y ys =>
      cases ys with
      | cons => simp at er1
      | nil =>
        simp at er1
        cases y with
        | one t =>
          simp only [GA.er, AV.one.injEq] at er1
          cases t <;> simp_all [er]
        | _ => simp [GA.er] at er1
  subst hrs'
  exact ⟨rfl, ⟨hF.os, hF.tape, hF.output, hF.size, fun b hb => hF.block b hb (e4 b)⟩⟩
end
end Go.X

/- A -/
namespace Go.X
set_option maxRecDepth 100000
set_option maxHeartbeats 8000000
abbrev iT (a : Int) : T := .pv (.int .i64 a)
abbrev bT (a : Bool) : T := .pv (.bool a)
abbrev sT (s : ByteArray) : T := .pv (.string s)
abbrev uT (a : UInt8) : T := .pv (.int .u8 a.toNat)
abbrev slT {α : Type} (o : Bool) (z : Nat) (f : α → List T) (l : List α) : T := .sl o z () (l.map f)
abbrev bR (a : Bool) : List T := [bT a]
abbrev sR (a : ByteArray) : List T := [sT a]
abbrev iR (a : Int) : List T := [iT a]
abbrev uR (a : UInt8) : List T := [uT a]
/-- What is left of a measure. -/
def left (a : Int) : Int := if a < 0 then -1 else a
def Sane (f : Int → Int) : Prop := ∀ k, 0 ≤ k → f k ≤ k
def SaneL (fs : List (Int → Int)) : Prop := ∀ f ∈ fs, Sane f
theorem SaneL.nil : SaneL [] := fun _ h => by cases h
theorem SaneL.cons {f : Int → Int} {fs : List (Int → Int)} (h : Sane f) (t : SaneL fs) : SaneL (f :: fs) := fun g hg => by
  rcases List.mem_cons.1 hg with rfl | hg
  · exact h
  · exact t _ hg
/-- One measure behind the other, as long as something is left. -/
def szAll : List (Int → Int) → Int → Int
  | [], k => k
  | f :: fs, k => if f k < 0 then -1 else szAll fs (f k)
def ExL (n : Int) : List (Int → Int) → Prop
  | [] => True
  | f :: fs => (∃ j, 0 ≤ j ∧ j ≤ n ∧ 0 ≤ f j) ∧ ExL n fs
theorem Sane.all {fs : List (Int → Int)} (h : SaneL fs) : Sane (szAll fs) := by
  induction fs with
  | nil => intro k hk; exact Int.le_refl _
  | cons f fs ih =>
    intro k hk
    have h1 := h f (List.mem_cons_self ..) k hk
    simp only [szAll]
    split
    · omega
    · have := ih (fun g hg => h g (List.mem_cons_of_mem _ hg)) (f k) (by omega)
      omega
theorem szAll_ex {fs : List (Int → Int)} (h : SaneL fs) {k n : Int} (hk : 0 ≤ k) (hn : k ≤ n) (h0 : 0 ≤ szAll fs k) : ExL n fs := by
  induction fs generalizing k with
  | nil => trivial
  | cons f fs ih =>
    have h1 := h f (List.mem_cons_self ..) k hk
    simp only [szAll] at h0
    split at h0
    · omega
    · exact ⟨⟨k, hk, hn, by omega⟩, ih (fun g hg => h g (List.mem_cons_of_mem _ hg)) (k := f k) (by omega) (by omega) h0⟩
theorem Sane.sub (n : Nat) : Sane (fun k => k - n) := fun k hk => by show k - (n : Int) ≤ k; omega
theorem Sane.left (n : Nat) : Sane (fun k => left (k - n)) := fun k hk => by
  show Go.X.left (k - (n : Int)) ≤ k
  unfold Go.X.left
  split <;> omega
theorem left_nn {a : Int} (h : ¬ left a < 0) : left a = a := by
  unfold left at h ⊢
  split at h
  · omega
  · rw [if_neg (by assumption)]
theorem left_in {k : Int} {n : Nat} (h : 0 ≤ left (k - n)) : (n : Int) ≤ k := by
  unfold left at h
  split at h <;> omega
/-- What is left of a measure behind a row of things. -/
def szSl {α : Type} (f : α → Int → Int) (l : List α) (k : Int) : Int := szAll ((fun k => k - l.length) :: l.map f) k
theorem Sane.sl {α : Type} {f : α → Int → Int} (hf : ∀ a, Sane (f a)) (l : List α) : Sane (szSl f l) := by
  refine Sane.all (.cons (.sub _) fun g hg => ?_)
  obtain ⟨a, _, rfl⟩ := List.mem_map.1 hg
  exact hf a
theorem ExL_map {α : Type} {f : α → Int → Int} {n : Int} : ∀ {l : List α}, ExL n (l.map f) → ∀ a ∈ l, ∃ j, 0 ≤ j ∧ j ≤ n ∧ 0 ≤ f a j
  | [], _, a, h => by cases h
  | b :: l, ⟨h1, h2⟩, a, h => by
    rcases List.mem_cons.1 h with rfl | h
    · exact h1
    · exact ExL_map h2 a h
theorem szSl_in {α : Type} {f : α → Int → Int} {P : α → Prop} {n : Nat} (hf : ∀ a, Sane (f a)) (hP : ∀ a j, 0 ≤ j → j ≤ (n : Int) → 0 ≤ f a j → P a) {l : List α} {k : Int} (hk : 0 ≤ k) (hn : k ≤ n) (h : 0 ≤ szSl f l k) : l.length ≤ n ∧ ∀ a ∈ l, P a := by
  obtain ⟨⟨j, h1, h2, h3⟩, h4⟩ := szAll_ex (.cons (.sub _) fun g hg => by obtain ⟨a, _, rfl⟩ := List.mem_map.1 hg; exact hf a) hk hn h
  refine ⟨by have h5 : (0 : Int) ≤ j - (l.length : Nat) := h3; omega, fun a ha => ?_⟩
  obtain ⟨j, q1, q2, q3⟩ := ExL_map h4 a ha
  exact hP a j q1 q2 q3
def szStr (s : ByteArray) (k : Int) : Int := left (k - s.size)
theorem szStr_sane (s : ByteArray) : Sane (szStr s) := Sane.left _
theorem fill_get {α : Type} (f : α → List T) (l : List α) (z : List T) {i : Nat} (hi : i < l.length) : ((l.take i).map f ++ List.replicate (l.length - i) z)[i]? = some z := by
  rw [List.getElem?_append_right (by simp; omega), List.getElem?_replicate, if_pos (by simp; omega)]
theorem fill_set {α : Type} (f : α → List T) (l : List α) (z : List T) {i : Nat} (hi : i < l.length) : ((l.take i).map f ++ List.replicate (l.length - i) z).set i (f l[i]) = (l.take (i + 1)).map f ++ List.replicate (l.length - (i + 1)) z := by
  rw [List.set_append_right _ _ (by simp; omega), List.take_succ_eq_append_getElem hi, List.map_append, List.append_assoc]
  congr 1
  have e : l.length - i = (l.length - (i + 1)) + 1 := by omega
  rw [e, List.replicate_succ]
  have : i - ((l.take i).map f).length = 0 := by simp; omega
  rw [this]
  rfl
theorem fill_len {α : Type} (f : α → List T) (l : List α) (z : List T) {i : Nat} (hi : i ≤ l.length) : ((l.take i).map f ++ List.replicate (l.length - i) z).length = l.length := by simp; omega
theorem fill_end {α : Type} (f : α → List T) (l : List α) (z : List T) : (l.take l.length).map f ++ List.replicate (l.length - l.length) z = l.map f := by simp
/-- As far as i they are the same. -/
theorem same_step {α : Type} {l m : List α} {i : Nat} (hl : i < l.length) (hm : i < m.length) (h : l.take i = m.take i) (he : l[i] = m[i]) : l.take (i + 1) = m.take (i + 1) := by
  rw [List.take_succ_eq_append_getElem hl, List.take_succ_eq_append_getElem hm, h, he]
theorem same_end {α : Type} {l m : List α} {i : Nat} (hl : l.length ≤ i) (hm : m.length ≤ i) (h : l.take i = m.take i) : l = m := by
  rwa [List.take_of_length_le hl, List.take_of_length_le hm] at h
theorem all_step {α : Type} {l : List α} {p : α → Bool} {i : Nat} (hi : i < l.length) (h : (l.take i).all p = true) (h2 : p l[i] = true) : (l.take (i + 1)).all p = true := by
  rw [List.take_succ_eq_append_getElem hi, List.all_append, h, List.all_cons, h2]; rfl
theorem all_not {α : Type} {l : List α} {p : α → Bool} {i : Nat} (hi : i < l.length) (h2 : p l[i] = false) : l.all p = false := by
  rw [List.all_eq_false]; exact ⟨l[i], List.getElem_mem hi, by simp [h2]⟩
theorem all_end {α : Type} {l : List α} {p : α → Bool} {i : Nat} (hi : l.length ≤ i) (h : (l.take i).all p = true) : l.all p = true := by
  rwa [List.take_of_length_le hi] at h
/-- The marks of n things from k on, w to each. -/
def marks {α : Type} (w : Nat) (mk : Int → α) (n : Nat) (k : Int) : List α := (List.range n).map fun i => mk (k + (w * i : Nat))
theorem marks_length {α : Type} (w : Nat) (mk : Int → α) (n : Nat) (k : Int) : (marks w mk n k).length = n := by simp [marks]
theorem marks_succ {α : Type} (w : Nat) (mk : Int → α) (n : Nat) (k : Int) : marks w mk (n + 1) k = marks w mk n k ++ [mk (k + (w * n : Nat))] := by simp [marks, List.range_succ]
theorem marks_get {α : Type} (w : Nat) (mk : Int → α) {n i : Nat} (k : Int) (h : i < n) : (marks w mk n k)[i]? = some (mk (k + (w * i : Nat))) := by simp [marks, h]
theorem mark_get {α : Type} (f : α → List T) (w : Nat) (mk : Int → α) (l : List α) (k : Int) {i : Nat} (hi : i < l.length) : ((marks w mk i k).map f ++ (l.drop i).map f)[i]? = some (f l[i]) := by
  rw [List.getElem?_append_right (by simp [marks_length]), List.length_map, marks_length, Nat.sub_self, List.getElem?_map, List.getElem?_drop]
  simp [hi]
theorem mark_set {α : Type} (f : α → List T) (w : Nat) (mk : Int → α) (l : List α) (k : Int) {i : Nat} (hi : i < l.length) : ((marks w mk i k).map f ++ (l.drop i).map f).set i (f (mk (k + (w * i : Nat)))) = (marks w mk (i + 1) k).map f ++ (l.drop (i + 1)).map f := by
  rw [List.set_append_right _ _ (by simp [marks_length]), List.length_map, marks_length, Nat.sub_self, List.drop_eq_getElem_cons hi, List.map_cons, List.set_cons_zero, marks_succ, List.map_append, List.append_assoc]
  rfl
theorem mark_len {α : Type} (f : α → List T) (w : Nat) (mk : Int → α) (l : List α) (k : Int) {i : Nat} (hi : i ≤ l.length) : ((marks w mk i k).map f ++ (l.drop i).map f).length = l.length := by simp [marks_length]; omega
theorem mark_reget {α : Type} (f : α → List T) (w : Nat) (mk : Int → α) (l : List α) (k : Int) {i : Nat} (hi : i < l.length) (r : List T) : (((marks w mk i k).map f ++ (l.drop i).map f).set i r)[i]? = some r := by
  rw [List.getElem?_set_self (by rw [mark_len f w mk l k (by omega)]; exact hi)]
theorem mark_end {α : Type} (f : α → List T) (w : Nat) (mk : Int → α) (l : List α) (k : Int) : (marks w mk l.length k).map f ++ (l.drop l.length).map f = (marks w mk l.length k).map f := by simp
theorem marks_take {α β : Type} (f : α → β) (w : Nat) (mk : Int → α) (n : Nat) (k : Int) : ((marks w mk n k).map f).take n = (marks w mk n k).map f := by rw [List.take_of_length_le (by simp [marks_length])]
/-- Marks of things that are not of one size. -/
def markL {α : Type} (m : α → Int → α) (f : α → Int → Int) : List α → Int → List α
  | [], _ => []
  | x :: l, k => m x k :: markL m f l (f x k)
def farL {α : Type} (f : α → Int → Int) : List α → Int → Int
  | [], k => k
  | x :: l, k => farL f l (f x k)
theorem markL_length {α : Type} (m : α → Int → α) (f : α → Int → Int) : ∀ (l : List α) (k : Int), (markL m f l k).length = l.length
  | [], _ => rfl
  | x :: l, k => by simp only [markL, List.length_cons, markL_length m f l]
theorem farL_take {α : Type} (f : α → Int → Int) : ∀ (l : List α) (k : Int) {i : Nat} (h : i < l.length), farL f (l.take (i + 1)) k = f l[i] (farL f (l.take i) k)
  | x :: l, k, 0, h => by simp [farL]
  | x :: l, k, i + 1, h => by
    simp only [List.take_succ_cons, farL, List.getElem_cons_succ]
    exact farL_take f l _ (by simpa using h)
theorem markL_get {α : Type} (m : α → Int → α) (f : α → Int → Int) : ∀ (l : List α) (k : Int) {i : Nat} (h : i < l.length), (markL m f l k)[i]? = some (m l[i] (farL f (l.take i) k))
  | x :: l, k, 0, h => by simp [markL, farL]
  | x :: l, k, i + 1, h => by
    simp only [markL, List.getElem?_cons_succ, List.take_succ_cons, farL, List.getElem_cons_succ]
    exact markL_get m f l _ (by simpa using h)
theorem markL_take {α : Type} (m : α → Int → α) (f : α → Int → Int) : ∀ (l : List α) (k : Int) {i : Nat} (h : i < l.length), markL m f (l.take (i + 1)) k = markL m f (l.take i) k ++ [m l[i] (farL f (l.take i) k)]
  | x :: l, k, 0, h => by simp [markL, farL]
  | x :: l, k, i + 1, h => by
    simp only [List.take_succ_cons, markL, farL, List.cons_append, List.getElem_cons_succ]
    rw [markL_take m f l _ (by simpa using h)]
theorem farL_le {α : Type} {f : α → Int → Int} {p : α → Prop} {l : List α} {n c : Nat} {k : Int} (h : l.length ≤ n ∧ ∀ y ∈ l, p y) (hf : ∀ y, p y → ∀ k, k ≤ f y k ∧ f y k ≤ k + (c : Nat)) : k ≤ farL f l k ∧ farL f l k ≤ k + ((n * c : Nat) : Int) := by
  obtain ⟨h1, h2⟩ := h
  have key : ∀ (l : List α) (k : Int), (∀ y ∈ l, p y) → k ≤ farL f l k ∧ farL f l k ≤ k + ((l.length * c : Nat) : Int) := by
    intro l
    induction l with
    | nil => intro k _; simp [farL]
    | cons x l ih =>
      intro k hp
      have a := hf x (hp x (List.mem_cons_self ..)) k
      have b := ih (f x k) fun y hy => hp y (List.mem_cons_of_mem _ hy)
      simp only [farL, List.length_cons, Nat.add_mul, Nat.one_mul]
      omega
  have a := key l k h2
  have b := Nat.mul_le_mul_right c h1
  omega
theorem markL_len {α : Type} (R : α → List T) (m : α → Int → α) (f : α → Int → Int) (l : List α) (k : Int) {i : Nat} (hi : i ≤ l.length) : ((markL m f (l.take i) k).map R ++ (l.drop i).map R).length = l.length := by simp [markL_length]; omega
theorem markL_at {α : Type} (R : α → List T) (m : α → Int → α) (f : α → Int → Int) (l : List α) (k : Int) {i : Nat} (hi : i < l.length) : ((markL m f (l.take i) k).map R ++ (l.drop i).map R)[i]? = some (R l[i]) := by
  rw [List.getElem?_append_right (by simp [markL_length]; omega), List.length_map, markL_length, List.length_take, Nat.min_eq_left (by omega), Nat.sub_self, List.getElem?_map, List.getElem?_drop]
  simp [hi]
theorem markL_reat {α : Type} (R : α → List T) (m : α → Int → α) (f : α → Int → Int) (l : List α) (k : Int) {i : Nat} (hi : i < l.length) (r : List T) : (((markL m f (l.take i) k).map R ++ (l.drop i).map R).set i r)[i]? = some r := by
  rw [List.getElem?_set_self (by rw [markL_len R m f l k (by omega)]; exact hi)]
theorem markL_set {α : Type} (R : α → List T) (m : α → Int → α) (f : α → Int → Int) (l : List α) (k : Int) {i : Nat} (hi : i < l.length) : ((markL m f (l.take i) k).map R ++ (l.drop i).map R).set i (R (m l[i] (farL f (l.take i) k))) = (markL m f (l.take (i + 1)) k).map R ++ (l.drop (i + 1)).map R := by
  have e : ((markL m f (l.take i) k).map R).length = i := by rw [List.length_map, markL_length, List.length_take]; omega
  rw [List.set_append_right _ _ (by omega), e, Nat.sub_self, List.drop_eq_getElem_cons hi, List.map_cons, List.set_cons_zero, markL_take m f l k hi, List.map_append, List.append_assoc]
  rfl
def mkB (k : Int) : Bool := k.tmod 3 == 0
theorem byte_neq (a b : UInt8) : binV .neq (.int .u8 a.toNat) (.int .u8 b.toNat) = some (.bool (!decide (a = b))) := by
  have : ((a.toNat : Int) = b.toNat) ↔ a = b := by rw [Int.ofNat_inj]; exact UInt8.toNat_inj
  rw [bI_neq]
  by_cases h : a = b
  · subst h; simp
  · have h2 : ¬ ((a.toNat : Int) = b.toNat) := fun e => h (this.1 e)
    simp [h, bne, h2]
def digs (n : Nat) (out : ByteArray) : ByteArray := if h : n = 0 then out else digs (n / 10) (⟨#[UInt8.ofNat (48 + n % 10)]⟩ ++ out)
termination_by n
decreasing_by omega
def mkS (k : Int) : ByteArray := if k ≤ 0 then ⟨#[109, 48]⟩ else ⟨#[109]⟩ ++ digs k.toNat ⟨#[]⟩
def mkI (k : Int) : Int := k
def mkU (k : Int) : UInt8 := UInt8.ofNat (k % 256).toNat
theorem mkU_wrap (k : Int) : IntKind.u8.wrap k = ((mkU k).toNat : Int) := by
  have h1 := Int.emod_nonneg k (show (256 : Int) ≠ 0 by decide)
  have h2 := Int.emod_lt_of_pos k (show (0 : Int) < 256 by decide)
  have h3 : (mkU k).toNat = (k % 256).toNat := by
    rw [mkU, UInt8.toNat_ofNat', Nat.mod_eq_of_lt (by omega)]
  rw [h3, IntKind.wrap_u8]
  omega
def x_l_markText : FnX := ⟨20, [.tmp 2],
  .q [.op 2 (.mv (.k (.one (.pv (.string ⟨#[]⟩)))))]
 (.seq (.q [.m 4 0, .B 5 .leq 4 0]
 (.c 5 (.q [.op 2 (.mv (.k (.one (.pv (.string ⟨#[109, 48]⟩)))))]
 .ret)))
 (.q [.op 3 (.mv (.k (.one (.pv (.string ⟨#[]⟩)))))]
 (.seq (.block 0 (.loop [0, 3] (.seq (.q [.m 6 0, .B 7 .gtr 6 0]
 (.cond 7 .skip (.exit 0)))
 (.block 1 (.q [.m 8 0, .B 9 .rem 8 10, .op 10 (.bin .add (.i 48) (.t 9)), .op 11 (.conv (.int .u8) (.t 10)), .op 12 (.bslice 1 [(.t 11)]), .op 13 (.conv .b2s (.t 12)), .m 14 3, .b 15 .add 13 14, .m 3 15]
 (.reg [.m 16 0, .B 17 .quo 16 10, .m 0 17]))))))
 (.norm [3] (.q [.m 18 3, .op 19 (.bin .add (.k (.one (.pv (.string ⟨#[109]⟩)))) (.t 18)), .m 2 19]
 .ret)))))⟩
abbrev C_l_markText (Te : TE) : Prop := ∀ (k : Int) (hk : 0 ≤ k ∧ k ≤ 2 ^ 48), Te 129 [.one (iT k)] ⟨[.one (sT (mkS k))], [[iT k]]⟩
theorem r_l_markText {Te : TE} : C_l_markText (RF Te x_l_markText) := by
  intro k hk
  refine run0 ?_
  simp -implicitDefEqProofs only [x_l_markText, go_sem]
  refine ⟨fun h => ?_, fun h => ?_⟩
  · simp only [decide_eq_true_eq] at h
    simp only [mkS, if_pos h]
  · simp only [decide_eq_false_iff_not] at h
    refine loop_of (σ := Nat × ByteArray) (fun x => ⟨[(0, .one (.pv (.int .i64 x.1))), (3, .one (.pv (.string x.2)))], [], [(0, [iT k])]⟩) (fun x => x.2.size ≤ 15 ∧ x.1 * 10 ^ x.2.size ≤ 2 ^ 48 ∧ digs k.toNat ⟨#[]⟩ = digs x.1 x.2) (fun x => x.1) (k.toNat, ⟨#[]⟩) ?_ ?_ ?_
    · simp -implicitDefEqProofs only [go_sem]
      rw [Int.toNat_of_nonneg hk.1]
    · exact ⟨by simp [ByteArray.size], by simp [ByteArray.size]; omega, rfl⟩
    · rintro ⟨j, s⟩ ⟨h1, h2, h3⟩
      simp only at h1 h2 h3
      simp -implicitDefEqProofs only [go_sem]
      have hj : j ≤ 2 ^ 48 := Nat.le_trans (Nat.le_mul_of_pos_right j (Nat.pow_pos (by decide))) h2
      refine ⟨fun h0 => ?_, fun h0 => ?_⟩
      · have h0' : 0 < j := by simp only [decide_eq_true_eq] at h0; omega
        have hs : s.size ≤ 14 := by
          by_cases h15 : s.size ≤ 14
          · exact h15
          · have e1 := Nat.pow_le_pow_right (n := 10) (by decide) (show 15 ≤ s.size by omega)
            have e2 := Nat.le_mul_of_pos_left (10 ^ s.size) h0'
            omega
        have em : (j : Int).tmod 10 = ((j % 10 : Nat) : Int) := by rw [Int.tmod_eq_emod_of_nonneg (by omega)]; rfl
        have ed : (j : Int).tdiv 10 = ((j / 10 : Nat) : Int) := by rw [Int.tdiv_eq_ediv_of_nonneg (by omega)]; rfl
        have hlt : j % 10 < 10 := Nat.mod_lt _ (by decide)
        rw [em, ed, IntWalk.i64_in _ (by omega), IntWalk.i64_in _ (by omega), IntWalk.u8_in _ (by omega)]
        refine ⟨rfl, ?_⟩
        have e5 : bytesOf [[(Tr.pv (Value.int IntKind.u8 (48 + ((j % 10 : Nat) : Int))) : T)]] = [UInt8.ofNat (48 + j % 10)] := by
          simp only [bytesOf, List.map_cons, List.map_nil, List.headD_cons, byteOf]
          rw [show (48 + ((j % 10 : Nat) : Int)).toNat = 48 + j % 10 by omega]
        rw [e5, show decide ([UInt8.ofNat (48 + j % 10)].toArray.size + s.size ≤ 4294967296) = true by simp; omega]
        simp only [cond_true, onSome]
        have esz : ((⟨[UInt8.ofNat (48 + j % 10)].toArray⟩ : ByteArray) ++ s).size = s.size + 1 := by rw [ByteArray.size_append]; show 1 + s.size = s.size + 1; omega
        refine ⟨(j / 10, ⟨[UInt8.ofNat (48 + j % 10)].toArray⟩ ++ s), rfl, ⟨by simp only [esz]; omega, ?_, ?_⟩, Nat.div_lt_self h0' (by decide)⟩
        · simp only [esz]
          have e6 : j / 10 * 10 ^ (s.size + 1) = (j / 10 * 10) * 10 ^ s.size := by rw [Nat.pow_succ, Nat.mul_assoc, Nat.mul_comm 10]
          rw [e6]
          exact Nat.le_trans (Nat.mul_le_mul_right _ (by omega)) h2
        · rw [h3, digs, dif_neg (by omega)]
      · have h0' : j = 0 := by simp only [decide_eq_false_iff_not] at h0; omega
        subst h0'
        rw [show decide (#[(109 : UInt8)].size + s.size ≤ 4294967296) = true by simp; omega]
        simp only [cond_true, onSome]
        have e0 : digs 0 s = s := by rw [digs, dif_pos rfl]
        rw [e0] at h3
        simp only [mkS, if_neg h, h3]
end Go.X

/- B -/
namespace Go.X
set_option maxRecDepth 100000
set_option maxHeartbeats 8000000
def x_l_eqByteS : FnX := ⟨26, [.tmp 4],
  .q [.F 4]
 (.seq (.q [.m 6 0, .n 7 6, .m 8 1, .n 9 8, .b 10 .neq 7 9]
 (.c 10 (.q [.F 4]
 .ret)))
 (.seq (.q [.i 5 0]
 (.block 0 (.loop [0, 1, 5] (.seq (.q [.m 11 5, .m 12 0, .n 13 12, .b 14 .lss 11 13]
 (.cond 14 .skip (.exit 0)))
 (.seq (.block 1 (.seq (.draw [.m 17 0, .m 18 5, .x 19 1 17 18, .l 20 19, .m 21 1, .m 22 5, .x 23 1 21 22, .l 24 23, .b 25 .neq 20 24] [[], [], [0, 1], [2], [], [], [4, 5], [6], [3, 7]])
 (.c 25 (.q [.F 4]
 .ret))))
 (.reg [.m 15 5, .B 16 .add 15 1, .m 5 16]))))))
 (.norm [] (.q [.T 4]
 .ret))))⟩
abbrev C_l_eqByteS (Te : TE) : Prop := ∀ (l m : List UInt8) (hl : l.length ≤ 2 ^ 31), Te 106 [.one (slT false 1 uR l), .one (slT false 1 uR m)] ⟨[.one (bT (decide (l = m)))], [[slT false 1 uR l], [slT false 1 uR m]]⟩
theorem r_l_eqByteS {Te : TE} : C_l_eqByteS (RF Te x_l_eqByteS) := by
  intro l m hl
  refine run0 ?_
  simp -implicitDefEqProofs (disch := omega) only [x_l_eqByteS, go_sem, IntWalk.i64_in]
  refine ⟨fun h => ?_, fun h => ?_⟩
  · have : l ≠ m := fun e => by simp [e] at h
    simp [this]
  · have hlen : l.length = m.length := by simp at h; omega
    refine loop_of (σ := Nat) (fun i => ⟨[(0, .one (.ro 1 (l.map uR))), (1, .one (.ro 1 (m.map uR))), (5, .one (.pv (.int .i64 i)))], [], [(0, [slT false 1 uR l]), (1, [slT false 1 uR m])]⟩) (fun i => i ≤ l.length ∧ l.take i = m.take i) (fun i => l.length - i) 0 ?_ ⟨Nat.zero_le _, by simp⟩ ?_
    · simp -implicitDefEqProofs only [go_sem]; rfl
    · intro i ⟨hi, hs⟩
      simp -implicitDefEqProofs only [go_sem]
      refine ⟨fun h => ?_, fun h => ?_⟩
      · have hi' : i < l.length := by simp only [decide_eq_true_eq] at h; omega
        have hj' : i < m.length := by omega
        simp -implicitDefEqProofs only [go_sem, List.getElem?_eq_getElem hi', List.getElem?_eq_getElem hj', byte_neq]
        refine ⟨by decide, fun h2 => ?_, fun h2 => ?_⟩
        · have : l ≠ m := fun e => by subst e; simp at h2
          simp [this]
        · refine ⟨i + 1, by rw [IntWalk.i64_in _ (by omega)]; rfl, ⟨hi', same_step hi' hj' hs ?_⟩, by omega⟩
          simpa using h2
      · have hle : l.length ≤ i := by simp only [decide_eq_false_iff_not] at h; omega
        have : l = m := same_end hle (by omega) hs
        simp [this]
def x_l_markByteS : FnX := ⟨20, [.tmp 4],
  .q [.i 4 0]
 (.seq (.q [.i 5 0]
 (.block 0 (.loop [0, 1, 5] (.seq (.q [.m 6 5, .m 7 0, .n 8 7, .b 9 .lss 6 8]
 (.cond 9 .skip (.exit 0)))
 (.seq (.block 1 (.q [.m 12 0, .m 13 5, .m 14 1, .op 15 (.conv (.int .u8) (.t 14)), .x 16 1 12 13, .s 100001 1 16 15]
 (.reg [.m 17 1, .B 18 .add 17 1, .m 1 18])))
 (.reg [.m 10 5, .B 11 .add 10 1, .m 5 11]))))))
 (.norm [1] (.q [.m 19 1, .m 4 19]
 .ret)))⟩
abbrev C_l_markByteS (Te : TE) : Prop := ∀ (l : List UInt8) (k : Int) (hl : l.length ≤ 2 ^ 31) (hk : 0 ≤ k ∧ k ≤ 2 ^ 46), Te 128 [.one (slT true 1 uR l), .one (iT k)] ⟨[.one (iT (k + (1 * l.length : Nat)))], [[slT true 1 uR (marks 1 mkU l.length k)], [iT k]]⟩
theorem r_l_markByteS {Te : TE} : C_l_markByteS (RF Te x_l_markByteS) := by
  intro l k hl hk
  refine run0 ?_
  simp -implicitDefEqProofs (disch := omega) only [x_l_markByteS, go_sem, IntWalk.i64_in]
  refine loop_of (σ := Nat) (fun i => ⟨[(0, .one (.rf 0 0 [] 1 0 l.length)), (1, .one (.pv (.int .i64 (k + (1 * i : Nat))))), (5, .one (.pv (.int .i64 i)))], [], [(0, [.sl true 1 () ((marks 1 mkU i k).map uR ++ (l.drop i).map uR)]), (1, [iT k])]⟩) (fun i => i ≤ l.length) (fun i => l.length - i) 0 ?_ (Nat.zero_le _) ?_
  · simp -implicitDefEqProofs only [go_sem]; simp [marks]
  · intro i hi
    simp -implicitDefEqProofs only [go_sem]
    refine ⟨fun h => ?_, fun h => ?_⟩
    · have hi' : i < l.length := by simp only [decide_eq_true_eq] at h; omega
      try simp -implicitDefEqProofs (disch := omega) only [go_sem, storeAp, setCells, List.length_set, List.set_set, mark_len uR 1 mkU l k hi, List.getD_eq_getElem?_getD, mark_get uR 1 mkU l k hi', mark_reget uR 1 mkU l k hi', Option.getD_some, IntWalk.i64_in, mkU_wrap]
      repeat (first | refine ⟨by decide, ?_⟩ | refine ⟨decide_eq_true hi', ?_⟩)
      refine ⟨i + 1, ?_, hi', by omega⟩
      rw [← mark_set uR 1 mkU l k hi', show k + ((1 * (i + 1) : Nat) : Int) = k + (1 * i : Nat) + 1 by omega]
      rfl
    · have : i = l.length := by simp only [decide_eq_false_iff_not] at h; omega
      subst this
      simp -implicitDefEqProofs only [go_sem, mark_end]
def x_l_heldByteS : FnX := ⟨22, [.tmp 4],
  .q [.i 4 0]
 (.seq (.q [.i 5 0]
 (.block 0 (.loop [0, 1, 5] (.seq (.q [.m 6 5, .m 7 0, .n 8 7, .b 9 .lss 6 8]
 (.cond 9 .skip (.exit 0)))
 (.seq (.block 1 (.seq (.q [.m 12 0, .m 13 5, .x 14 1 12 13, .l 15 14, .m 16 1, .op 17 (.conv (.int .u8) (.t 16)), .b 18 .neq 15 17]
 (.c 18 (.q [.i 4 (-1)]
 .ret)))
 (.reg [.m 19 1, .B 20 .add 19 1, .m 1 20])))
 (.reg [.m 10 5, .B 11 .add 10 1, .m 5 11]))))))
 (.norm [1] (.q [.m 21 1, .m 4 21]
 .ret)))⟩
abbrev C_l_heldByteS (Te : TE) : Prop := ∀ (n : Nat) (k : Int) (hl : n ≤ 2 ^ 31) (hk : 0 ≤ k ∧ k ≤ 2 ^ 46), Te 130 [.one (slT false 1 uR (marks 1 mkU n k)), .one (iT k)] ⟨[.one (iT (k + (1 * n : Nat)))], [[slT false 1 uR (marks 1 mkU n k)], [iT k]]⟩
theorem r_l_heldByteS {Te : TE} : C_l_heldByteS (RF Te x_l_heldByteS) := by
  intro n k hl hk
  refine run0 ?_
  simp -implicitDefEqProofs (disch := omega) only [x_l_heldByteS, go_sem, IntWalk.i64_in]
  refine loop_of (σ := Nat) (fun i => ⟨[(0, .one (.ro 1 ((marks 1 mkU n k).map uR))), (1, .one (.pv (.int .i64 (k + (1 * i : Nat))))), (5, .one (.pv (.int .i64 i)))], [], [(0, [slT false 1 uR (marks 1 mkU n k)]), (1, [iT k])]⟩) (fun i => i ≤ n) (fun i => n - i) 0 ?_ (Nat.zero_le _) ?_
  · simp -implicitDefEqProofs only [go_sem]; simp
  · intro i hi
    simp -implicitDefEqProofs only [go_sem, marks_length]
    refine ⟨fun h => ?_, fun h => ?_⟩
    · have hi' : i < n := by simp only [decide_eq_true_eq] at h; omega
      try simp -implicitDefEqProofs (disch := omega) only [go_sem, marks_get 1 mkU k hi', IntWalk.i64_in, mkU_wrap, bne_self_eq_false, decide_true, Bool.not_true]
      refine ⟨i + 1, ?_, hi', by omega⟩
      rw [show k + ((1 * (i + 1) : Nat) : Int) = k + (1 * i : Nat) + 1 by omega]
      rfl
    · have : i = n := by simp only [decide_eq_false_iff_not] at h; omega
      subst this
      simp -implicitDefEqProofs only [go_sem]
end Go.X

/- C -/
namespace Go.X
set_option maxRecDepth 100000
set_option maxHeartbeats 8000000
structure Msg where
  Kind : Int
  From : Int
  To : Int
  Seq : Int
  Key : ByteArray
  Text : ByteArray
  N : Int
  Code : Int
  deriving DecidableEq
abbrev Msg.row (x : Msg) : List Go.X.T := [iT x.Kind, iT x.From, iT x.To, iT x.Seq, sT x.Key, sT x.Text, iT x.N, iT x.Code]
def Msg.In (n : Nat) (x : Msg) : Prop := x.Key.size ≤ n ∧ x.Text.size ≤ n
theorem Msg.In.mono {x : Msg} {n m : Nat} (h : x.In n) (hn : n ≤ m) : x.In m := by
  simp only [Msg.In] at h ⊢
  exact ⟨Nat.le_trans h.1 hn, Nat.le_trans h.2 hn⟩
def szMsg (x : Msg) (k : Int) : Int := szAll [(fun k => k - (x.Key.size : Nat)), (fun k => k - (x.Text.size : Nat))] k
theorem szMsg_sane (x : Msg) : Sane (szMsg x) := Sane.all (.cons (Sane.sub _) (.cons (Sane.sub _) .nil))
theorem szMsg_in {x : Msg} {k : Int} {n : Nat} (hk : 0 ≤ k) (hn : k ≤ n) (h : 0 ≤ szMsg x k) : x.In n := by
  obtain ⟨⟨j0, a0, b0, c0⟩, ⟨j1, a1, b1, c1⟩, _⟩ := szAll_ex (.cons (Sane.sub _) (.cons (Sane.sub _) .nil)) hk hn h
  exact ⟨(by have q : (0 : Int) ≤ j0 - _ := c0; omega), (by have q : (0 : Int) ≤ j1 - _ := c1; omega)⟩
def mkMsg (k : Int) : Msg := ⟨k, k + 1, k + 1 + 1, k + 1 + 1 + 1, mkS (k + 1 + 1 + 1 + 1), mkS (k + 1 + 1 + 1 + 1 + 1), k + 1 + 1 + 1 + 1 + 1 + 1, k + 1 + 1 + 1 + 1 + 1 + 1 + 1⟩
end Go.X

/- D -/
namespace Go.X
set_option maxRecDepth 100000
set_option maxHeartbeats 8000000
structure Lead where
  Phase : Int
  Acked : List Bool
  Ended : List Bool
  At : List ByteArray
  deriving DecidableEq
abbrev Lead.enc (o : Bool) (x : Lead) : List Go.X.T := [iT x.Phase, slT o 1 bR x.Acked, slT o 1 bR x.Ended, slT o 1 sR x.At]
def Lead.In (n : Nat) (x : Lead) : Prop := x.Acked.length ≤ n ∧ x.Ended.length ≤ n ∧ (x.At.length ≤ n ∧ ∀ y ∈ x.At, y.size ≤ n)
theorem Lead.In.mono {x : Lead} {n m : Nat} (h : x.In n) (hn : n ≤ m) : x.In m := by
  simp only [Lead.In] at h ⊢
  exact ⟨Nat.le_trans h.1 hn, Nat.le_trans h.2.1 hn, ⟨Nat.le_trans h.2.2.1 hn, fun y hy => Nat.le_trans (h.2.2.2 y hy) hn⟩⟩
def szLead (x : Lead) (k : Int) : Int := szAll [(fun k => left (k - (x.Acked.length : Nat))), (fun k => left (k - (x.Ended.length : Nat))), (szSl szStr x.At)] k
theorem szLead_sane (x : Lead) : Sane (szLead x) := Sane.all (.cons (Sane.left _) (.cons (Sane.left _) (.cons (Sane.sl szStr_sane _) .nil)))
theorem szLead_in {x : Lead} {k : Int} {n : Nat} (hk : 0 ≤ k) (hn : k ≤ n) (h : 0 ≤ szLead x k) : x.In n := by
  obtain ⟨⟨j0, a0, b0, c0⟩, ⟨j1, a1, b1, c1⟩, ⟨j2, a2, b2, c2⟩, _⟩ := szAll_ex (.cons (Sane.left _) (.cons (Sane.left _) (.cons (Sane.sl szStr_sane _) .nil))) hk hn h
  exact ⟨(by have := left_in c0; omega), (by have := left_in c1; omega), (szSl_in szStr_sane (fun a j h0 hn h => by have := left_in h; omega) a2 b2 c2)⟩
def Lead.Len (x : Lead) : Prop := x.Acked.length ≤ 2 ^ 31 ∧ x.Ended.length ≤ 2 ^ 31 ∧ x.At.length ≤ 2 ^ 31
theorem Lead.In.len {x : Lead} {n : Nat} (h : x.In n) (hn : n ≤ 2 ^ 31) : x.Len := by
  obtain ⟨h0, h1, h2⟩ := h
  exact ⟨Nat.le_trans h0 hn, Nat.le_trans h1 hn, Nat.le_trans h2.1 hn⟩
def Lead.mark (x : Lead) (k : Int) : Lead := ⟨x.Phase, marks 1 mkB x.Acked.length (k), marks 1 mkB x.Ended.length (k + (1 * x.Acked.length : Nat)), marks 1 mkS x.At.length (k + (1 * x.Acked.length : Nat) + (1 * x.Ended.length : Nat))⟩
def Lead.far (x : Lead) (k : Int) : Int := k + (1 * x.Acked.length : Nat) + (1 * x.Ended.length : Nat) + (1 * x.At.length : Nat)
theorem Lead.mark_Acked (x : Lead) (k : Int) : (x.mark k).Acked.length = x.Acked.length := by simp [Lead.mark, marks_length, markL_length]
theorem Lead.take_Acked {β : Type} (f : Bool → β) (x : Lead) (k : Int) : ((x.mark k).Acked.map f).take x.Acked.length = (x.mark k).Acked.map f := by rw [← x.mark_Acked k, take_map]
theorem Lead.mark_Ended (x : Lead) (k : Int) : (x.mark k).Ended.length = x.Ended.length := by simp [Lead.mark, marks_length, markL_length]
theorem Lead.take_Ended {β : Type} (f : Bool → β) (x : Lead) (k : Int) : ((x.mark k).Ended.map f).take x.Ended.length = (x.mark k).Ended.map f := by rw [← x.mark_Ended k, take_map]
theorem Lead.mark_At (x : Lead) (k : Int) : (x.mark k).At.length = x.At.length := by simp [Lead.mark, marks_length, markL_length]
theorem Lead.take_At {β : Type} (f : ByteArray → β) (x : Lead) (k : Int) : ((x.mark k).At.map f).take x.At.length = (x.mark k).At.map f := by rw [← x.mark_At k, take_map]
end Go.X

/- E -/
namespace Go.X
set_option maxRecDepth 100000
set_option maxHeartbeats 8000000
structure DoneV where
  Seq : Int
  Kind : Int
  Key : ByteArray
  Text : ByteArray
  Code : Int
  deriving DecidableEq
abbrev DoneV.row (x : DoneV) : List Go.X.T := [iT x.Seq, iT x.Kind, sT x.Key, sT x.Text, iT x.Code]
def DoneV.In (n : Nat) (x : DoneV) : Prop := x.Key.size ≤ n ∧ x.Text.size ≤ n
theorem DoneV.In.mono {x : DoneV} {n m : Nat} (h : x.In n) (hn : n ≤ m) : x.In m := by
  simp only [DoneV.In] at h ⊢
  exact ⟨Nat.le_trans h.1 hn, Nat.le_trans h.2 hn⟩
def szDone (x : DoneV) (k : Int) : Int := szAll [(fun k => k - (x.Key.size : Nat)), (fun k => k - (x.Text.size : Nat))] k
theorem szDone_sane (x : DoneV) : Sane (szDone x) := Sane.all (.cons (Sane.sub _) (.cons (Sane.sub _) .nil))
theorem szDone_in {x : DoneV} {k : Int} {n : Nat} (hk : 0 ≤ k) (hn : k ≤ n) (h : 0 ≤ szDone x k) : x.In n := by
  obtain ⟨⟨j0, a0, b0, c0⟩, ⟨j1, a1, b1, c1⟩, _⟩ := szAll_ex (.cons (Sane.sub _) (.cons (Sane.sub _) .nil)) hk hn h
  exact ⟨(by have q : (0 : Int) ≤ j0 - _ := c0; omega), (by have q : (0 : Int) ≤ j1 - _ := c1; omega)⟩
def mkDone (k : Int) : DoneV := ⟨k, k + 1, mkS (k + 1 + 1), mkS (k + 1 + 1 + 1), k + 1 + 1 + 1 + 1⟩
structure ClientV where
  Id : Int
  Seq : Int
  Busy : Bool
  M : Msg
  Dones : List DoneV
  deriving DecidableEq
abbrev ClientV.enc (o : Bool) (x : ClientV) : List Go.X.T := [iT x.Id, iT x.Seq, bT x.Busy, iT x.M.Kind, iT x.M.From, iT x.M.To, iT x.M.Seq, sT x.M.Key, sT x.M.Text, iT x.M.N, iT x.M.Code, slT o 5 DoneV.row x.Dones]
def ClientV.In (n : Nat) (x : ClientV) : Prop := x.M.In (n) ∧ (x.Dones.length ≤ n ∧ ∀ y ∈ x.Dones, y.In (n))
theorem ClientV.In.mono {x : ClientV} {n m : Nat} (h : x.In n) (hn : n ≤ m) : x.In m := by
  simp only [ClientV.In] at h ⊢
  exact ⟨h.1.mono hn, ⟨Nat.le_trans h.2.1 hn, fun y hy => (h.2.2 y hy).mono hn⟩⟩
def szClient (x : ClientV) (k : Int) : Int := szAll [(szMsg x.M), (szSl szDone x.Dones)] k
theorem szClient_sane (x : ClientV) : Sane (szClient x) := Sane.all (.cons (szMsg_sane _) (.cons (Sane.sl szDone_sane _) .nil))
theorem szClient_in {x : ClientV} {k : Int} {n : Nat} (hk : 0 ≤ k) (hn : k ≤ n) (h : 0 ≤ szClient x k) : x.In n := by
  obtain ⟨⟨j0, a0, b0, c0⟩, ⟨j1, a1, b1, c1⟩, _⟩ := szAll_ex (.cons (szMsg_sane _) (.cons (Sane.sl szDone_sane _) .nil)) hk hn h
  exact ⟨(szMsg_in a0 b0 c0), (szSl_in szDone_sane (fun a j h0 hn h => szDone_in h0 hn h) a1 b1 c1)⟩
def ClientV.Len (x : ClientV) : Prop := x.Dones.length ≤ 2 ^ 31
theorem ClientV.In.len {x : ClientV} {n : Nat} (h : x.In n) (hn : n ≤ 2 ^ 31) : x.Len := by
  obtain ⟨h0, h1⟩ := h
  exact Nat.le_trans h1.1 hn
def ClientV.mark (x : ClientV) (k : Int) : ClientV := ⟨x.Id, x.Seq, x.Busy, x.M, marks 5 mkDone x.Dones.length (k)⟩
def ClientV.far (x : ClientV) (k : Int) : Int := k + (5 * x.Dones.length : Nat)
theorem ClientV.mark_Dones (x : ClientV) (k : Int) : (x.mark k).Dones.length = x.Dones.length := by simp [ClientV.mark, marks_length, markL_length]
theorem ClientV.take_Dones {β : Type} (f : DoneV → β) (x : ClientV) (k : Int) : ((x.mark k).Dones.map f).take x.Dones.length = (x.mark k).Dones.map f := by rw [← x.mark_Dones k, take_map]
end Go.X

/- Ea -/
namespace Go.X
set_option maxRecDepth 100000
set_option maxHeartbeats 8000000
theorem own_sl {τ : Type} {o : Bool} {z : Nat} {h : τ} {rows : List (List (Tr τ))} : Tr.own (.sl o z h rows) = o := rfl
theorem cellAt_sl {τ : Type} {o : Bool} {z : Nat} {h : τ} {rows : List (List (Tr τ))} {i j : Nat} : cellAt (.sl o z h rows) i j = (rows[i]?).bind (·[j]?) := rfl
theorem setCell_sl {τ : Type} {o : Bool} {z : Nat} {h : τ} {rows : List (List (Tr τ))} {i j : Nat} {u : Tr τ} : setCell (.sl o z h rows) i j u = .sl o z h (rows.set i ((rows[i]?.getD []).set j u)) := by
  simp only [setCell, setRows, Tr.rows, List.getD_eq_getElem?_getD]
attribute [go_sem] own_sl cellAt_sl setCell_sl
theorem back_bif {α : Type} {Te : Nat → List AV → Res → Prop} {c : Bool} {f : St → Bool} {p : Prg α} {st : St} {Q : α → St → Prop} (h : f st = true) (hp : runP Te p st Q) : runP Te (bif c then p else .all f p) st Q := by
  cases c
  · exact ⟨⟨_, fun _ => rfl, fun _ => rfl, h⟩, hp⟩
  · exact hp
structure CellV where
  Tag : Int
  B : List UInt8
  deriving DecidableEq
abbrev CellV.enc (o : Bool) (x : CellV) : List Go.X.T := [iT x.Tag, slT o 1 uR x.B]
def CellV.In (n : Nat) (x : CellV) : Prop := x.B.length ≤ n
theorem CellV.In.mono {x : CellV} {n m : Nat} (h : x.In n) (hn : n ≤ m) : x.In m := by
  simp only [CellV.In] at h ⊢
  exact Nat.le_trans h hn
def szCell (x : CellV) (k : Int) : Int := szAll [(fun k => left (k - (x.B.length : Nat)))] k
theorem szCell_sane (x : CellV) : Sane (szCell x) := Sane.all (.cons (Sane.left _) .nil)
theorem szCell_in {x : CellV} {k : Int} {n : Nat} (hk : 0 ≤ k) (hn : k ≤ n) (h : 0 ≤ szCell x k) : x.In n := by
  obtain ⟨⟨j0, a0, b0, c0⟩, _⟩ := szAll_ex (.cons (Sane.left _) .nil) hk hn h
  show x.B.length ≤ n
  exact (by have := left_in c0; omega)
def CellV.Len (x : CellV) : Prop := x.B.length ≤ 2 ^ 21
theorem CellV.In.len {x : CellV} {n : Nat} (h : x.In n) (hn : n ≤ 2 ^ 21) : x.Len := by
  have h0 : x.B.length ≤ n := h
  exact Nat.le_trans h0 hn
def CellV.mark (x : CellV) (k : Int) : CellV := ⟨x.Tag, marks 1 mkU x.B.length (k)⟩
def CellV.far (x : CellV) (k : Int) : Int := k + (1 * x.B.length : Nat)
theorem CellV.mark_B (x : CellV) (k : Int) : (x.mark k).B.length = x.B.length := by simp [CellV.mark, marks_length, markL_length]
theorem CellV.take_B {β : Type} (f : UInt8 → β) (x : CellV) (k : Int) : ((x.mark k).B.map f).take x.B.length = (x.mark k).B.map f := by rw [← x.mark_B k, take_map]
theorem CellV.far_le {x : CellV} (hx : x.Len) (k : Int) : k ≤ x.far k ∧ x.far k ≤ k + 2097152 := by
  have h0 : x.B.length ≤ 2 ^ 21 := hx
  simp only [CellV.far]
  omega
def x_l_eqCell : FnX := ⟨16, [.tmp 4],
  .q [.v 2 0, .v 3 1, .F 4]
 (.seq (.q [.f 5 2 0, .l 6 5, .f 7 3 0, .l 8 7, .b 9 .neq 6 8]
 (.c 9 (.q [.F 4]
 .ret)))
 (.seq (.q [.f 10 2 1, .l 11 10, .f 12 3 1, .l 13 12, .c 14 106 [11, 13], .N 15 14]
 (.c 15 (.q [.F 4]
 .ret)))
 (.q [.T 4]
 .ret)))⟩
abbrev C_l_eqCell (Te : TE) : Prop := ∀ (x y : CellV) (hx : x.Len), Te 145 [.agg (x.enc false), .agg (y.enc false)] ⟨[.one (bT (decide (x = y)))], [(x.enc false), (y.enc false)]⟩
theorem r_l_eqCell {Te : TE} (c_l_eqByteS : C_l_eqByteS Te) : C_l_eqCell (RF Te x_l_eqCell) := by
  intro x y hx
  refine run0 ?_
  have h0 : x.B.length ≤ 2 ^ 21 := hx
  have key : (x = y) ↔ x.Tag = y.Tag ∧ x.B = y.B := by cases x; cases y; simp
  simp only [key]
  clear key
  simp -implicitDefEqProofs only [x_l_eqCell, go_sem]
  refine ⟨fun q => ?_, fun q => ?_⟩
  · have n0 : ¬ (x.Tag = y.Tag) := by simpa using q
    simp only [n0, false_and, and_false, true_and, decide_false]
  have e0 : x.Tag = y.Tag := by simpa using q
  clear q
  refine .of (c_l_eqByteS _ _ (Nat.le_trans h0 (by decide))) ?_
  simp -implicitDefEqProofs only [go_sem]
  refine ⟨fun q => ?_, fun q => ?_⟩
  · have n1 : ¬ (x.B = y.B) := by simpa using q
    simp only [e0, n1, false_and, and_false, true_and, decide_false]
  have e1 : x.B = y.B := by simpa using q
  clear q
  simp only [e0, e1, true_and, and_true, decide_true]
structure RowV where
  Key : ByteArray
  Old : CellV
  New : CellV
  Has : Int
  Aside : Bool
  deriving DecidableEq
abbrev RowV.enc (o : Bool) (x : RowV) : List Go.X.T := [sT x.Key, iT x.Old.Tag, slT o 1 uR x.Old.B, iT x.New.Tag, slT o 1 uR x.New.B, iT x.Has, bT x.Aside]
def RowV.In (n : Nat) (x : RowV) : Prop := x.Key.size ≤ n ∧ x.Old.In (n) ∧ x.New.In (n)
theorem RowV.In.mono {x : RowV} {n m : Nat} (h : x.In n) (hn : n ≤ m) : x.In m := by
  simp only [RowV.In] at h ⊢
  exact ⟨Nat.le_trans h.1 hn, h.2.1.mono hn, h.2.2.mono hn⟩
def szRow (x : RowV) (k : Int) : Int := szAll [(fun k => k - (x.Key.size : Nat)), (szCell x.Old), (szCell x.New)] k
theorem szRow_sane (x : RowV) : Sane (szRow x) := Sane.all (.cons (Sane.sub _) (.cons (szCell_sane _) (.cons (szCell_sane _) .nil)))
theorem szRow_in {x : RowV} {k : Int} {n : Nat} (hk : 0 ≤ k) (hn : k ≤ n) (h : 0 ≤ szRow x k) : x.In n := by
  obtain ⟨⟨j0, a0, b0, c0⟩, ⟨j1, a1, b1, c1⟩, ⟨j2, a2, b2, c2⟩, _⟩ := szAll_ex (.cons (Sane.sub _) (.cons (szCell_sane _) (.cons (szCell_sane _) .nil))) hk hn h
  exact ⟨(by have q : (0 : Int) ≤ j0 - _ := c0; omega), (szCell_in a1 b1 c1), (szCell_in a2 b2 c2)⟩
def RowV.Len (x : RowV) : Prop := x.Old.Len ∧ x.New.Len
theorem RowV.In.len {x : RowV} {n : Nat} (h : x.In n) (hn : n ≤ 2 ^ 21) : x.Len := by
  obtain ⟨h0, h1, h2⟩ := h
  exact ⟨(h1).len hn, (h2).len hn⟩
def RowV.mark (x : RowV) (k : Int) : RowV := ⟨x.Key, x.Old.mark (k), x.New.mark (x.Old.far (k)), x.Has, x.Aside⟩
def RowV.far (x : RowV) (k : Int) : Int := x.New.far (x.Old.far (k))
theorem RowV.mark_Old_B (x : RowV) (k : Int) : (x.mark k).Old.B.length = x.Old.B.length := by simp [RowV.mark, CellV.mark, marks_length, markL_length]
theorem RowV.take_Old_B {β : Type} (f : UInt8 → β) (x : RowV) (k : Int) : ((x.mark k).Old.B.map f).take x.Old.B.length = (x.mark k).Old.B.map f := by rw [← x.mark_Old_B k, take_map]
theorem RowV.mark_New_B (x : RowV) (k : Int) : (x.mark k).New.B.length = x.New.B.length := by simp [RowV.mark, CellV.mark, marks_length, markL_length]
theorem RowV.take_New_B {β : Type} (f : UInt8 → β) (x : RowV) (k : Int) : ((x.mark k).New.B.map f).take x.New.B.length = (x.mark k).New.B.map f := by rw [← x.mark_New_B k, take_map]
theorem RowV.far_le {x : RowV} (hx : x.Len) (k : Int) : k ≤ x.far k ∧ x.far k ≤ k + 4194304 := by
  obtain ⟨h0, h1⟩ := hx
  have w0 := CellV.far_le h0 k
  have w1 := CellV.far_le h1 (x.Old.far k)
  simp only [RowV.far]
  omega
def RowV.markE (x : RowV) (k : Int) : RowV := ⟨mkS (k), ⟨k + 1, marks 1 mkU x.Old.B.length (k + 1 + 1)⟩, ⟨k + 1 + 1 + (1 * x.Old.B.length : Nat), marks 1 mkU x.New.B.length (k + 1 + 1 + (1 * x.Old.B.length : Nat) + 1)⟩, k + 1 + 1 + (1 * x.Old.B.length : Nat) + 1 + (1 * x.New.B.length : Nat), mkB (k + 1 + 1 + (1 * x.Old.B.length : Nat) + 1 + (1 * x.New.B.length : Nat) + 1)⟩
def RowV.farE (x : RowV) (k : Int) : Int := k + 1 + 1 + (1 * x.Old.B.length : Nat) + 1 + (1 * x.New.B.length : Nat) + 1 + 1
theorem RowV.farE_le {x : RowV} (hx : x.Len) (k : Int) : k ≤ x.farE k ∧ x.farE k ≤ k + 4194309 := by
  obtain ⟨h0, h1⟩ := hx
  have h0' : x.Old.B.length ≤ 2 ^ 21 := h0
  have h1' : x.New.B.length ≤ 2 ^ 21 := h1
  simp only [RowV.farE]
  omega
def x_l_eqRow : FnX := ⟨32, [.tmp 4],
  .q [.v 2 0, .v 3 1, .F 4]
 (.seq (.q [.f 5 2 0, .l 6 5, .f 7 3 0, .l 8 7, .b 9 .neq 6 8]
 (.c 9 (.q [.F 4]
 .ret)))
 (.seq (.q [.f 10 2 1, .L 11 2 10, .f 12 3 1, .L 13 2 12, .c 14 145 [11, 13], .N 15 14]
 (.c 15 (.q [.F 4]
 .ret)))
 (.seq (.q [.f 16 2 3, .L 17 2 16, .f 18 3 3, .L 19 2 18, .c 20 145 [17, 19], .N 21 20]
 (.c 21 (.q [.F 4]
 .ret)))
 (.seq (.q [.f 22 2 5, .l 23 22, .f 24 3 5, .l 25 24, .b 26 .neq 23 25]
 (.c 26 (.q [.F 4]
 .ret)))
 (.seq (.q [.f 27 2 6, .l 28 27, .f 29 3 6, .l 30 29, .op 31 (.beq true (.t 28) (.t 30))]
 (.c 31 (.q [.F 4]
 .ret)))
 (.q [.T 4]
 .ret))))))⟩
abbrev C_l_eqRow (Te : TE) : Prop := ∀ (x y : RowV) (hx : x.Len), Te 108 [.agg (x.enc false), .agg (y.enc false)] ⟨[.one (bT (decide (x = y)))], [(x.enc false), (y.enc false)]⟩
theorem r_l_eqRow {Te : TE} (c_l_eqCell : C_l_eqCell Te) : C_l_eqRow (RF Te x_l_eqRow) := by
  intro x y hx
  refine run0 ?_
  obtain ⟨h0, h1⟩ := hx
  have key : (x = y) ↔ x.Key = y.Key ∧ x.Old = y.Old ∧ x.New = y.New ∧ x.Has = y.Has ∧ x.Aside = y.Aside := by cases x; cases y; simp
  simp only [key]
  clear key
  simp -implicitDefEqProofs only [x_l_eqRow, go_sem]
  refine ⟨fun q => ?_, fun q => ?_⟩
  · have n0 : ¬ (x.Key = y.Key) := by simpa using q
    simp only [n0, false_and, and_false, true_and, decide_false]
  have e0 : x.Key = y.Key := by simpa using q
  clear q
  refine .of (c_l_eqCell _ _ h0) ?_
  simp -implicitDefEqProofs only [go_sem]
  refine ⟨fun q => ?_, fun q => ?_⟩
  · have n1 : ¬ (x.Old = y.Old) := by simpa using q
    simp only [e0, n1, false_and, and_false, true_and, decide_false]
  have e1 : x.Old = y.Old := by simpa using q
  clear q
  refine .of (c_l_eqCell _ _ h1) ?_
  simp -implicitDefEqProofs only [go_sem]
  refine ⟨fun q => ?_, fun q => ?_⟩
  · have n2 : ¬ (x.New = y.New) := by simpa using q
    simp only [e0, e1, n2, false_and, and_false, true_and, decide_false]
  have e2 : x.New = y.New := by simpa using q
  clear q
  refine ⟨fun q => ?_, fun q => ?_⟩
  · have n3 : ¬ (x.Has = y.Has) := by simpa using q
    simp only [e0, e1, e2, n3, false_and, and_false, true_and, decide_false]
  have e3 : x.Has = y.Has := by simpa using q
  clear q
  refine ⟨fun q => ?_, fun q => ?_⟩
  · have n4 : ¬ (x.Aside = y.Aside) := by simpa using q
    simp only [e0, e1, e2, e3, n4, false_and, and_false, true_and, decide_false]
  have e4 : x.Aside = y.Aside := by simpa using q
  clear q
  simp only [e0, e1, e2, e3, e4, true_and, and_true, decide_true]
def x_l_eqByteSS : FnX := ⟨27, [.tmp 4],
  .q [.F 4]
 (.seq (.q [.m 6 0, .n 7 6, .m 8 1, .n 9 8, .b 10 .neq 7 9]
 (.c 10 (.q [.F 4]
 .ret)))
 (.seq (.q [.i 5 0]
 (.block 0 (.loop [0, 1, 5] (.seq (.q [.m 11 5, .m 12 0, .n 13 12, .b 14 .lss 11 13]
 (.cond 14 .skip (.exit 0)))
 (.seq (.block 1 (.seq (.draw [.m 17 0, .m 18 5, .x 19 1 17 18, .l 20 19, .m 21 1, .m 22 5, .x 23 1 21 22, .l 24 23, .c 25 106 [20, 24], .N 26 25] [[], [], [0, 1], [2], [], [], [4, 5], [6], [3, 7], [8]])
 (.c 26 (.q [.F 4]
 .ret))))
 (.reg [.m 15 5, .B 16 .add 15 1, .m 5 16]))))))
 (.norm [] (.q [.T 4]
 .ret))))⟩
abbrev C_l_eqByteSS (Te : TE) : Prop := ∀ (l m : List (List UInt8)) (hl : (l.length ≤ 2 ^ 21 ∧ ∀ y ∈ l, y.length ≤ 2 ^ 21)), Te 65 [.one (slT false 1 (fun y => [slT false 1 uR y]) l), .one (slT false 1 (fun y => [slT false 1 uR y]) m)] ⟨[.one (bT (decide (l = m)))], [[slT false 1 (fun y => [slT false 1 uR y]) l], [slT false 1 (fun y => [slT false 1 uR y]) m]]⟩
theorem r_l_eqByteSS {Te : TE} (c_l_eqByteS : C_l_eqByteS Te) : C_l_eqByteSS (RF Te x_l_eqByteSS) := by
  intro l m hl
  refine run0 ?_
  have hl1 := hl.1
  simp -implicitDefEqProofs (disch := omega) only [x_l_eqByteSS, go_sem, IntWalk.i64_in]
  refine ⟨fun h => ?_, fun h => ?_⟩
  · have : l ≠ m := fun e => by simp [e] at h
    simp [this]
  · have hlen : l.length = m.length := by simp at h; omega
    refine loop_of (σ := Nat) (fun i => ⟨[(0, .one (.ro 1 (l.map (fun y => [slT false 1 uR y])))), (1, .one (.ro 1 (m.map (fun y => [slT false 1 uR y])))), (5, .one (.pv (.int .i64 i)))], [], [(0, [slT false 1 (fun y => [slT false 1 uR y]) l]), (1, [slT false 1 (fun y => [slT false 1 uR y]) m])]⟩) (fun i => i ≤ l.length ∧ l.take i = m.take i) (fun i => l.length - i) 0 ?_ ⟨Nat.zero_le _, by simp⟩ ?_
    · simp -implicitDefEqProofs only [go_sem]; rfl
    · intro i ⟨hi, hs⟩
      simp -implicitDefEqProofs only [go_sem]
      refine ⟨fun h => ?_, fun h => ?_⟩
      · have hi' : i < l.length := by simp only [decide_eq_true_eq] at h; omega
        have hj' : i < m.length := by omega
        simp -implicitDefEqProofs only [go_sem, List.getElem?_eq_getElem hi', List.getElem?_eq_getElem hj']
        refine .of (c_l_eqByteS _ _ (Nat.le_trans (hl.2 _ (List.getElem_mem hi')) (by decide))) ?_
        simp -implicitDefEqProofs only [go_sem]
        refine ⟨by decide, fun h2 => ?_, fun h2 => ?_⟩
        · have : l ≠ m := fun e => by subst e; simp at h2
          simp [this]
        · refine ⟨i + 1, by rw [IntWalk.i64_in _ (by omega)]; rfl, ⟨hi', same_step hi' hj' hs ?_⟩, by omega⟩
          simpa using h2
      · have hle : l.length ≤ i := by simp only [decide_eq_false_iff_not] at h; omega
        have : l = m := same_end hle (by omega) hs
        simp [this]
def x_l_markByteSS : FnX := ⟨19, [.tmp 4],
  .q [.i 4 0]
 (.seq (.q [.i 5 0]
 (.block 0 (.loop [0, 1, 5] (.seq (.q [.m 6 5, .m 7 0, .n 8 7, .b 9 .lss 6 8]
 (.cond 9 .skip (.exit 0)))
 (.seq (.block 1 (.reg [.m 12 0, .m 13 5, .x 14 1 12 13, .l 15 14, .m 16 1, .op 17 (.io 128 (.t 15) [(.t 16)]), .m 1 17]))
 (.reg [.m 10 5, .B 11 .add 10 1, .m 5 11]))))))
 (.norm [1] (.q [.m 18 1, .m 4 18]
 .ret)))⟩
abbrev C_l_markByteSS (Te : TE) : Prop := ∀ (l : List (List UInt8)) (k : Int) (hl : (l.length ≤ 2 ^ 21 ∧ ∀ y ∈ l, y.length ≤ 2 ^ 21)) (hk : 0 ≤ k ∧ k ≤ 2 ^ 44), Te 81 [.one (slT true 1 (fun y => [slT true 1 uR y]) l), .one (iT k)] ⟨[.one (iT (farL (fun y k => k + (1 * y.length : Nat)) l k))], [[slT true 1 (fun y => [slT true 1 uR y]) (markL (fun y k => marks 1 mkU y.length k) (fun y k => k + (1 * y.length : Nat)) l k)], [iT k]]⟩
theorem r_l_markByteSS {Te : TE} (c_l_markByteS : C_l_markByteS Te) : C_l_markByteSS (RF Te x_l_markByteSS) := by
  intro l k hl hk
  refine run0 ?_
  have hl1 := hl.1
  simp -implicitDefEqProofs (disch := omega) only [x_l_markByteSS, go_sem, IntWalk.i64_in]
  refine loop_of (σ := Nat) (fun i => ⟨[(0, .one (.rf 0 0 [] 1 0 l.length)), (1, .one (.pv (.int .i64 (farL (fun y k => k + (1 * y.length : Nat)) (l.take i) k)))), (5, .one (.pv (.int .i64 i)))], [], [(0, [.sl true 1 () ((markL (fun y k => marks 1 mkU y.length k) (fun y k => k + (1 * y.length : Nat)) (l.take i) k).map (fun y => [slT true 1 uR y]) ++ (l.drop i).map (fun y => [slT true 1 uR y]))]), (1, [iT k])]⟩) (fun i => i ≤ l.length) (fun i => l.length - i) 0 ?_ (Nat.zero_le _) ?_
  · simp -implicitDefEqProofs only [go_sem]; simp [markL, farL]
  · intro i hi
    simp -implicitDefEqProofs only [go_sem]
    refine ⟨fun h => ?_, fun h => ?_⟩
    · have hi' : i < l.length := by simp only [decide_eq_true_eq] at h; omega
      have hb : k ≤ farL (fun y k => k + (1 * y.length : Nat)) (l.take i) k ∧ farL (fun y k => k + (1 * y.length : Nat)) (l.take i) k ≤ k + 4398046511104 := by
        have q := farL_le (n := 2 ^ 21) (k := k) (c := 2097152) (l := l.take i) ⟨by rw [List.length_take]; omega, fun y hy => hl.2 y (List.mem_of_mem_take hy)⟩ (fun (y : List UInt8) (hy : y.length ≤ 2 ^ 21) (k : Int) => ⟨by show k ≤ k + ((1 * y.length : Nat) : Int); omega, by show k + ((1 * y.length : Nat) : Int) ≤ _; omega⟩)
        omega
      have he := hl.2 _ (List.getElem_mem hi')
      have hset := markL_set (fun y => [slT true 1 uR y]) (fun y k => marks 1 mkU y.length k) (fun y k => k + (1 * y.length : Nat)) l k hi'
      have hnext := farL_take (fun y k => k + (1 * y.length : Nat)) l k hi'
      have e0 : l[i].length ≤ 2 ^ 21 := he
      generalize farL (fun y k => k + (1 * y.length : Nat)) (l.take i) k = j at hb hset hnext ⊢
      try simp -implicitDefEqProofs (disch := omega) only [go_sem, storeAp, setCells, List.length_set, List.set_set, markL_len (fun y => [slT true 1 uR y]) (fun y k => marks 1 mkU y.length k) (fun y k => k + (1 * y.length : Nat)) l k hi, List.getD_eq_getElem?_getD, markL_at (fun y => [slT true 1 uR y]) (fun y k => marks 1 mkU y.length k) (fun y k => k + (1 * y.length : Nat)) l k hi', markL_reat (fun y => [slT true 1 uR y]) (fun y k => marks 1 mkU y.length k) (fun y k => k + (1 * y.length : Nat)) l k hi', Option.getD_some, IntWalk.i64_in]
      repeat (first | refine ⟨by decide, ?_⟩ | refine ⟨decide_eq_true hi', ?_⟩)
      refine .of (c_l_markByteS (l[i]) _ (by omega) (by omega)) ?_
      simp -implicitDefEqProofs (disch := omega) only [go_sem, storeAp, setCells, List.length_set, List.set_set, markL_len (fun y => [slT true 1 uR y]) (fun y k => marks 1 mkU y.length k) (fun y k => k + (1 * y.length : Nat)) l k hi, List.getD_eq_getElem?_getD, markL_at (fun y => [slT true 1 uR y]) (fun y k => marks 1 mkU y.length k) (fun y k => k + (1 * y.length : Nat)) l k hi', markL_reat (fun y => [slT true 1 uR y]) (fun y k => marks 1 mkU y.length k) (fun y k => k + (1 * y.length : Nat)) l k hi', Option.getD_some, IntWalk.i64_in]
      repeat (first | refine ⟨by decide, ?_⟩ | refine ⟨decide_eq_true hi', ?_⟩)
      refine ⟨i + 1, ?_, hi', by omega⟩
      rw [hnext, ← hset]
      rfl
    · have : i = l.length := by simp only [decide_eq_false_iff_not] at h; omega
      subst this
      simp -implicitDefEqProofs only [go_sem, List.take_length, List.drop_length, List.map_nil, List.append_nil]
def x_l_heldByteSS : FnX := ⟨21, [.tmp 4],
  .q [.i 4 0]
 (.seq (.q [.i 5 0]
 (.block 0 (.loop [0, 1, 5] (.seq (.q [.m 6 5, .m 7 0, .n 8 7, .b 9 .lss 6 8]
 (.cond 9 .skip (.exit 0)))
 (.seq (.block 1 (.q [.m 12 0, .m 13 5, .x 14 1 12 13, .l 15 14, .m 16 1, .c 17 130 [15, 16], .m 1 17]
 (.q [.m 18 1, .B 19 .lss 18 0]
 (.c 19 (.q [.i 4 (-1)]
 .ret)))))
 (.reg [.m 10 5, .B 11 .add 10 1, .m 5 11]))))))
 (.norm [1] (.q [.m 20 1, .m 4 20]
 .ret)))⟩
abbrev C_l_heldByteSS (Te : TE) : Prop := ∀ (l : List (List UInt8)) (k : Int) (hl : (l.length ≤ 2 ^ 21 ∧ ∀ y ∈ l, y.length ≤ 2 ^ 21)) (hk : 0 ≤ k ∧ k ≤ 2 ^ 44), Te 85 [.one (slT false 1 (fun y => [slT false 1 uR y]) (markL (fun y k => marks 1 mkU y.length k) (fun y k => k + (1 * y.length : Nat)) l k)), .one (iT k)] ⟨[.one (iT (farL (fun y k => k + (1 * y.length : Nat)) l k))], [[slT false 1 (fun y => [slT false 1 uR y]) (markL (fun y k => marks 1 mkU y.length k) (fun y k => k + (1 * y.length : Nat)) l k)], [iT k]]⟩
theorem r_l_heldByteSS {Te : TE} (c_l_heldByteS : C_l_heldByteS Te) : C_l_heldByteSS (RF Te x_l_heldByteSS) := by
  intro l k hl hk
  refine run0 ?_
  have hl1 := hl.1
  simp -implicitDefEqProofs (disch := omega) only [x_l_heldByteSS, go_sem, IntWalk.i64_in]
  refine loop_of (σ := Nat) (fun i => ⟨[(0, .one (.ro 1 ((markL (fun y k => marks 1 mkU y.length k) (fun y k => k + (1 * y.length : Nat)) l k).map (fun y => [slT false 1 uR y])))), (1, .one (.pv (.int .i64 (farL (fun y k => k + (1 * y.length : Nat)) (l.take i) k)))), (5, .one (.pv (.int .i64 i)))], [], [(0, [slT false 1 (fun y => [slT false 1 uR y]) (markL (fun y k => marks 1 mkU y.length k) (fun y k => k + (1 * y.length : Nat)) l k)]), (1, [iT k])]⟩) (fun i => i ≤ l.length) (fun i => l.length - i) 0 ?_ (Nat.zero_le _) ?_
  · simp -implicitDefEqProofs only [go_sem]; simp [farL]
  · intro i hi
    simp -implicitDefEqProofs only [go_sem, markL_length]
    refine ⟨fun h => ?_, fun h => ?_⟩
    · have hi' : i < l.length := by simp only [decide_eq_true_eq] at h; omega
      have hb : k ≤ farL (fun y k => k + (1 * y.length : Nat)) (l.take i) k ∧ farL (fun y k => k + (1 * y.length : Nat)) (l.take i) k ≤ k + 4398046511104 := by
        have q := farL_le (n := 2 ^ 21) (k := k) (c := 2097152) (l := l.take i) ⟨by rw [List.length_take]; omega, fun y hy => hl.2 y (List.mem_of_mem_take hy)⟩ (fun (y : List UInt8) (hy : y.length ≤ 2 ^ 21) (k : Int) => ⟨by show k ≤ k + ((1 * y.length : Nat) : Int); omega, by show k + ((1 * y.length : Nat) : Int) ≤ _; omega⟩)
        omega
      have he := hl.2 _ (List.getElem_mem hi')
      have hget := markL_get (fun y k => marks 1 mkU y.length k) (fun y k => k + (1 * y.length : Nat)) l k hi'
      have hnext := farL_take (fun y k => k + (1 * y.length : Nat)) l k hi'
      have e0 : l[i].length ≤ 2 ^ 21 := he
      generalize farL (fun y k => k + (1 * y.length : Nat)) (l.take i) k = j at hb hget hnext ⊢
      try simp -implicitDefEqProofs (disch := omega) only [go_sem, hget, IntWalk.i64_in, mkB, bne_self_eq_false, decide_true, Bool.not_true]
      repeat (refine ⟨by decide, ?_⟩)
      refine .of (c_l_heldByteS (l[i].length) _ (by omega) (by omega)) ?_
      simp -implicitDefEqProofs (disch := omega) only [go_sem, hget, IntWalk.i64_in, mkB, bne_self_eq_false, decide_true, Bool.not_true]
      refine ⟨fun q => by simp only [decide_eq_true_eq] at q; omega, fun _ => ?_⟩
      try simp -implicitDefEqProofs (disch := omega) only [go_sem, hget, IntWalk.i64_in, mkB, bne_self_eq_false, decide_true, Bool.not_true]
      repeat (refine ⟨by decide, ?_⟩)
      refine ⟨i + 1, ?_, hi', by omega⟩
      rw [hnext]
      rfl
    · have : i = l.length := by simp only [decide_eq_false_iff_not] at h; omega
      subst this
      simp -implicitDefEqProofs only [go_sem, List.take_length]
structure WrV where
  N : Int
  B : List UInt8
  deriving DecidableEq
abbrev WrV.enc (o : Bool) (x : WrV) : List Go.X.T := [iT x.N, slT o 1 uR x.B]
def WrV.In (n : Nat) (x : WrV) : Prop := x.B.length ≤ n
theorem WrV.In.mono {x : WrV} {n m : Nat} (h : x.In n) (hn : n ≤ m) : x.In m := by
  simp only [WrV.In] at h ⊢
  exact Nat.le_trans h hn
def szWr (x : WrV) (k : Int) : Int := szAll [(fun k => left (k - (x.B.length : Nat)))] k
theorem szWr_sane (x : WrV) : Sane (szWr x) := Sane.all (.cons (Sane.left _) .nil)
theorem szWr_in {x : WrV} {k : Int} {n : Nat} (hk : 0 ≤ k) (hn : k ≤ n) (h : 0 ≤ szWr x k) : x.In n := by
  obtain ⟨⟨j0, a0, b0, c0⟩, _⟩ := szAll_ex (.cons (Sane.left _) .nil) hk hn h
  show x.B.length ≤ n
  exact (by have := left_in c0; omega)
def WrV.Len (x : WrV) : Prop := x.B.length ≤ 2 ^ 21
theorem WrV.In.len {x : WrV} {n : Nat} (h : x.In n) (hn : n ≤ 2 ^ 21) : x.Len := by
  have h0 : x.B.length ≤ n := h
  exact Nat.le_trans h0 hn
def WrV.mark (x : WrV) (k : Int) : WrV := ⟨x.N, marks 1 mkU x.B.length (k)⟩
def WrV.far (x : WrV) (k : Int) : Int := k + (1 * x.B.length : Nat)
theorem WrV.mark_B (x : WrV) (k : Int) : (x.mark k).B.length = x.B.length := by simp [WrV.mark, marks_length, markL_length]
theorem WrV.take_B {β : Type} (f : UInt8 → β) (x : WrV) (k : Int) : ((x.mark k).B.map f).take x.B.length = (x.mark k).B.map f := by rw [← x.mark_B k, take_map]
theorem WrV.far_le {x : WrV} (hx : x.Len) (k : Int) : k ≤ x.far k ∧ x.far k ≤ k + 2097152 := by
  have h0 : x.B.length ≤ 2 ^ 21 := hx
  simp only [WrV.far]
  omega
def WrV.markE (x : WrV) (k : Int) : WrV := ⟨k, marks 1 mkU x.B.length (k + 1)⟩
def WrV.farE (x : WrV) (k : Int) : Int := k + 1 + (1 * x.B.length : Nat)
theorem WrV.farE_le {x : WrV} (hx : x.Len) (k : Int) : k ≤ x.farE k ∧ x.farE k ≤ k + 2097153 := by
  have h0 : x.B.length ≤ 2 ^ 21 := hx
  simp only [WrV.farE]
  omega
def x_l_eqWr : FnX := ⟨16, [.tmp 4],
  .q [.v 2 0, .v 3 1, .F 4]
 (.seq (.q [.f 5 2 0, .l 6 5, .f 7 3 0, .l 8 7, .b 9 .neq 6 8]
 (.c 9 (.q [.F 4]
 .ret)))
 (.seq (.q [.f 10 2 1, .l 11 10, .f 12 3 1, .l 13 12, .c 14 106 [11, 13], .N 15 14]
 (.c 15 (.q [.F 4]
 .ret)))
 (.q [.T 4]
 .ret)))⟩
abbrev C_l_eqWr (Te : TE) : Prop := ∀ (x y : WrV) (hx : x.Len), Te 107 [.agg (x.enc false), .agg (y.enc false)] ⟨[.one (bT (decide (x = y)))], [(x.enc false), (y.enc false)]⟩
theorem r_l_eqWr {Te : TE} (c_l_eqByteS : C_l_eqByteS Te) : C_l_eqWr (RF Te x_l_eqWr) := by
  intro x y hx
  refine run0 ?_
  have h0 : x.B.length ≤ 2 ^ 21 := hx
  have key : (x = y) ↔ x.N = y.N ∧ x.B = y.B := by cases x; cases y; simp
  simp only [key]
  clear key
  simp -implicitDefEqProofs only [x_l_eqWr, go_sem]
  refine ⟨fun q => ?_, fun q => ?_⟩
  · have n0 : ¬ (x.N = y.N) := by simpa using q
    simp only [n0, false_and, and_false, true_and, decide_false]
  have e0 : x.N = y.N := by simpa using q
  clear q
  refine .of (c_l_eqByteS _ _ (Nat.le_trans h0 (by decide))) ?_
  simp -implicitDefEqProofs only [go_sem]
  refine ⟨fun q => ?_, fun q => ?_⟩
  · have n1 : ¬ (x.B = y.B) := by simpa using q
    simp only [e0, n1, false_and, and_false, true_and, decide_false]
  have e1 : x.B = y.B := by simpa using q
  clear q
  simp only [e0, e1, true_and, and_true, decide_true]
def x_l_eqWrS : FnX := ⟨27, [.tmp 4],
  .q [.F 4]
 (.seq (.q [.m 6 0, .n 7 6, .m 8 1, .n 9 8, .b 10 .neq 7 9]
 (.c 10 (.q [.F 4]
 .ret)))
 (.seq (.q [.i 5 0]
 (.block 0 (.loop [0, 1, 5] (.seq (.q [.m 11 5, .m 12 0, .n 13 12, .b 14 .lss 11 13]
 (.cond 14 .skip (.exit 0)))
 (.seq (.block 1 (.seq (.draw [.m 17 0, .m 18 5, .x 19 2 17 18, .L 20 2 19, .m 21 1, .m 22 5, .x 23 2 21 22, .L 24 2 23, .c 25 107 [20, 24], .N 26 25] [[], [], [0, 1], [2], [], [], [4, 5], [6], [3, 7], [8]])
 (.c 26 (.q [.F 4]
 .ret))))
 (.reg [.m 15 5, .B 16 .add 15 1, .m 5 16]))))))
 (.norm [] (.q [.T 4]
 .ret))))⟩
abbrev C_l_eqWrS (Te : TE) : Prop := ∀ (l m : List WrV) (hl : (l.length ≤ 2 ^ 21 ∧ ∀ y ∈ l, y.Len)), Te 66 [.one (slT false 2 (WrV.enc false) l), .one (slT false 2 (WrV.enc false) m)] ⟨[.one (bT (decide (l = m)))], [[slT false 2 (WrV.enc false) l], [slT false 2 (WrV.enc false) m]]⟩
theorem r_l_eqWrS {Te : TE} (c_l_eqWr : C_l_eqWr Te) : C_l_eqWrS (RF Te x_l_eqWrS) := by
  intro l m hl
  refine run0 ?_
  have hl1 := hl.1
  simp -implicitDefEqProofs (disch := omega) only [x_l_eqWrS, go_sem, IntWalk.i64_in]
  refine ⟨fun h => ?_, fun h => ?_⟩
  · have : l ≠ m := fun e => by simp [e] at h
    simp [this]
  · have hlen : l.length = m.length := by simp at h; omega
    refine loop_of (σ := Nat) (fun i => ⟨[(0, .one (.ro 2 (l.map (WrV.enc false)))), (1, .one (.ro 2 (m.map (WrV.enc false)))), (5, .one (.pv (.int .i64 i)))], [], [(0, [slT false 2 (WrV.enc false) l]), (1, [slT false 2 (WrV.enc false) m])]⟩) (fun i => i ≤ l.length ∧ l.take i = m.take i) (fun i => l.length - i) 0 ?_ ⟨Nat.zero_le _, by simp⟩ ?_
    · simp -implicitDefEqProofs only [go_sem]; rfl
    · intro i ⟨hi, hs⟩
      simp -implicitDefEqProofs only [go_sem]
      refine ⟨fun h => ?_, fun h => ?_⟩
      · have hi' : i < l.length := by simp only [decide_eq_true_eq] at h; omega
        have hj' : i < m.length := by omega
        simp -implicitDefEqProofs only [go_sem, List.getElem?_eq_getElem hi', List.getElem?_eq_getElem hj']
        refine .of (c_l_eqWr _ _ (hl.2 _ (List.getElem_mem hi'))) ?_
        simp -implicitDefEqProofs only [go_sem]
        refine ⟨by decide, fun h2 => ?_, fun h2 => ?_⟩
        · have : l ≠ m := fun e => by subst e; simp at h2
          simp [this]
        · refine ⟨i + 1, by rw [IntWalk.i64_in _ (by omega)]; rfl, ⟨hi', same_step hi' hj' hs ?_⟩, by omega⟩
          simpa using h2
      · have hle : l.length ≤ i := by simp only [decide_eq_false_iff_not] at h; omega
        have : l = m := same_end hle (by omega) hs
        simp [this]
def x_l_markWrS : FnX := ⟨27, [.tmp 4],
  .q [.i 4 0]
 (.seq (.q [.i 5 0]
 (.block 0 (.loop [0, 1, 5] (.seq (.q [.m 6 5, .m 7 0, .n 8 7, .b 9 .lss 6 8]
 (.cond 9 .skip (.exit 0)))
 (.seq (.block 1 (.q [.m 12 0, .m 13 5, .m 14 1, .x 15 2 12 13, .f 16 15 0, .s 100001 1 16 14]
 (.q [.m 17 1, .B 18 .add 17 1, .m 1 18]
 (.reg [.m 19 0, .m 20 5, .x 21 2 19 20, .f 22 21 1, .l 23 22, .m 24 1, .op 25 (.io 128 (.t 23) [(.t 24)]), .m 1 25]))))
 (.reg [.m 10 5, .B 11 .add 10 1, .m 5 11]))))))
 (.norm [1] (.q [.m 26 1, .m 4 26]
 .ret)))⟩
abbrev C_l_markWrS (Te : TE) : Prop := ∀ (l : List WrV) (k : Int) (hl : (l.length ≤ 2 ^ 21 ∧ ∀ y ∈ l, y.Len)) (hk : 0 ≤ k ∧ k ≤ 2 ^ 44), Te 82 [.one (slT true 2 (WrV.enc true) l), .one (iT k)] ⟨[.one (iT (farL WrV.farE l k))], [[slT true 2 (WrV.enc true) (markL WrV.markE WrV.farE l k)], [iT k]]⟩
theorem r_l_markWrS {Te : TE} (c_l_markByteS : C_l_markByteS Te) : C_l_markWrS (RF Te x_l_markWrS) := by
  intro l k hl hk
  refine run0 ?_
  have hl1 := hl.1
  simp -implicitDefEqProofs (disch := omega) only [x_l_markWrS, go_sem, IntWalk.i64_in]
  refine loop_of (σ := Nat) (fun i => ⟨[(0, .one (.rf 0 0 [] 2 0 l.length)), (1, .one (.pv (.int .i64 (farL WrV.farE (l.take i) k)))), (5, .one (.pv (.int .i64 i)))], [], [(0, [.sl true 2 () ((markL WrV.markE WrV.farE (l.take i) k).map (WrV.enc true) ++ (l.drop i).map (WrV.enc true))]), (1, [iT k])]⟩) (fun i => i ≤ l.length) (fun i => l.length - i) 0 ?_ (Nat.zero_le _) ?_
  · simp -implicitDefEqProofs only [go_sem]; simp [markL, farL]
  · intro i hi
    simp -implicitDefEqProofs only [go_sem]
    refine ⟨fun h => ?_, fun h => ?_⟩
    · have hi' : i < l.length := by simp only [decide_eq_true_eq] at h; omega
      have hb : k ≤ farL WrV.farE (l.take i) k ∧ farL WrV.farE (l.take i) k ≤ k + 4398048608256 := by
        have q := farL_le (n := 2 ^ 21) (k := k) (c := 2097153) (l := l.take i) ⟨by rw [List.length_take]; omega, fun y hy => hl.2 y (List.mem_of_mem_take hy)⟩ (fun y hy k => WrV.farE_le hy k)
        omega
      have he := hl.2 _ (List.getElem_mem hi')
      have hset := markL_set (WrV.enc true) WrV.markE WrV.farE l k hi'
      have hnext := farL_take WrV.farE l k hi'
      have e0 : l[i].B.length ≤ 2 ^ 21 := he
      generalize farL WrV.farE (l.take i) k = j at hb hset hnext ⊢
      try simp -implicitDefEqProofs (disch := omega) only [go_sem, storeAp, setCells, List.length_set, List.set_set, markL_len (WrV.enc true) WrV.markE WrV.farE l k hi, List.getD_eq_getElem?_getD, markL_at (WrV.enc true) WrV.markE WrV.farE l k hi', markL_reat (WrV.enc true) WrV.markE WrV.farE l k hi', Option.getD_some, IntWalk.i64_in]
      repeat (first | refine ⟨by decide, ?_⟩ | refine ⟨decide_eq_true hi', ?_⟩)
      refine .of (c_l_markByteS (l[i].B) _ (by omega) (by omega)) ?_
      simp -implicitDefEqProofs (disch := omega) only [go_sem, storeAp, setCells, List.length_set, List.set_set, markL_len (WrV.enc true) WrV.markE WrV.farE l k hi, List.getD_eq_getElem?_getD, markL_at (WrV.enc true) WrV.markE WrV.farE l k hi', markL_reat (WrV.enc true) WrV.markE WrV.farE l k hi', Option.getD_some, IntWalk.i64_in]
      repeat (first | refine ⟨by decide, ?_⟩ | refine ⟨decide_eq_true hi', ?_⟩)
      refine ⟨i + 1, ?_, hi', by omega⟩
      rw [hnext, ← hset]
      rfl
    · have : i = l.length := by simp only [decide_eq_false_iff_not] at h; omega
      subst this
      simp -implicitDefEqProofs only [go_sem, List.take_length, List.drop_length, List.map_nil, List.append_nil]
def x_l_heldWrS : FnX := ⟨31, [.tmp 4],
  .q [.i 4 0]
 (.seq (.q [.i 5 0]
 (.block 0 (.loop [0, 1, 5] (.seq (.q [.m 6 5, .m 7 0, .n 8 7, .b 9 .lss 6 8]
 (.cond 9 .skip (.exit 0)))
 (.seq (.block 1 (.seq (.q [.m 12 0, .m 13 5, .x 14 2 12 13, .f 15 14 0, .l 16 15, .m 17 1, .b 18 .neq 16 17]
 (.c 18 (.q [.i 4 (-1)]
 .ret)))
 (.q [.m 19 1, .B 20 .add 19 1, .m 1 20]
 (.q [.m 21 0, .m 22 5, .x 23 2 21 22, .f 24 23 1, .l 25 24, .m 26 1, .c 27 130 [25, 26], .m 1 27]
 (.q [.m 28 1, .B 29 .lss 28 0]
 (.c 29 (.q [.i 4 (-1)]
 .ret)))))))
 (.reg [.m 10 5, .B 11 .add 10 1, .m 5 11]))))))
 (.norm [1] (.q [.m 30 1, .m 4 30]
 .ret)))⟩
abbrev C_l_heldWrS (Te : TE) : Prop := ∀ (l : List WrV) (k : Int) (hl : (l.length ≤ 2 ^ 21 ∧ ∀ y ∈ l, y.Len)) (hk : 0 ≤ k ∧ k ≤ 2 ^ 44), Te 86 [.one (slT false 2 (WrV.enc false) (markL WrV.markE WrV.farE l k)), .one (iT k)] ⟨[.one (iT (farL WrV.farE l k))], [[slT false 2 (WrV.enc false) (markL WrV.markE WrV.farE l k)], [iT k]]⟩
theorem r_l_heldWrS {Te : TE} (c_l_heldByteS : C_l_heldByteS Te) : C_l_heldWrS (RF Te x_l_heldWrS) := by
  intro l k hl hk
  refine run0 ?_
  have hl1 := hl.1
  simp -implicitDefEqProofs (disch := omega) only [x_l_heldWrS, go_sem, IntWalk.i64_in]
  refine loop_of (σ := Nat) (fun i => ⟨[(0, .one (.ro 2 ((markL WrV.markE WrV.farE l k).map (WrV.enc false)))), (1, .one (.pv (.int .i64 (farL WrV.farE (l.take i) k)))), (5, .one (.pv (.int .i64 i)))], [], [(0, [slT false 2 (WrV.enc false) (markL WrV.markE WrV.farE l k)]), (1, [iT k])]⟩) (fun i => i ≤ l.length) (fun i => l.length - i) 0 ?_ (Nat.zero_le _) ?_
  · simp -implicitDefEqProofs only [go_sem]; simp [farL]
  · intro i hi
    simp -implicitDefEqProofs only [go_sem, markL_length]
    refine ⟨fun h => ?_, fun h => ?_⟩
    · have hi' : i < l.length := by simp only [decide_eq_true_eq] at h; omega
      have hb : k ≤ farL WrV.farE (l.take i) k ∧ farL WrV.farE (l.take i) k ≤ k + 4398048608256 := by
        have q := farL_le (n := 2 ^ 21) (k := k) (c := 2097153) (l := l.take i) ⟨by rw [List.length_take]; omega, fun y hy => hl.2 y (List.mem_of_mem_take hy)⟩ (fun y hy k => WrV.farE_le hy k)
        omega
      have he := hl.2 _ (List.getElem_mem hi')
      have hget := markL_get WrV.markE WrV.farE l k hi'
      have hnext := farL_take WrV.farE l k hi'
      have e0 : l[i].B.length ≤ 2 ^ 21 := he
      generalize farL WrV.farE (l.take i) k = j at hb hget hnext ⊢
      simp only [WrV.markE] at hget
      try simp -implicitDefEqProofs (disch := omega) only [go_sem, hget, IntWalk.i64_in, mkB, bne_self_eq_false, decide_true, Bool.not_true]
      repeat (refine ⟨by decide, ?_⟩)
      refine .of (c_l_heldByteS (l[i].B.length) _ (by omega) (by omega)) ?_
      simp -implicitDefEqProofs (disch := omega) only [go_sem, hget, IntWalk.i64_in, mkB, bne_self_eq_false, decide_true, Bool.not_true]
      refine ⟨fun q => by simp only [decide_eq_true_eq] at q; omega, fun _ => ?_⟩
      try simp -implicitDefEqProofs (disch := omega) only [go_sem, hget, IntWalk.i64_in, mkB, bne_self_eq_false, decide_true, Bool.not_true]
      repeat (refine ⟨by decide, ?_⟩)
      refine ⟨i + 1, ?_, hi', by omega⟩
      rw [hnext]
      rfl
    · have : i = l.length := by simp only [decide_eq_false_iff_not] at h; omega
      subst this
      simp -implicitDefEqProofs only [go_sem, List.take_length]
structure DevV where
  Secs : List (List UInt8)
  Cache : List WrV
  Fuse : Int
  Down : Bool
  deriving DecidableEq
abbrev DevV.enc (o : Bool) (x : DevV) : List Go.X.T := [slT o 1 (fun y => [slT o 1 uR y]) x.Secs, slT o 2 (WrV.enc o) x.Cache, iT x.Fuse, bT x.Down]
def DevV.In (n : Nat) (x : DevV) : Prop := (x.Secs.length ≤ n ∧ ∀ y ∈ x.Secs, y.length ≤ n) ∧ (x.Cache.length ≤ n ∧ ∀ y ∈ x.Cache, y.In (n))
theorem DevV.In.mono {x : DevV} {n m : Nat} (h : x.In n) (hn : n ≤ m) : x.In m := by
  simp only [DevV.In] at h ⊢
  exact ⟨⟨Nat.le_trans h.1.1 hn, fun y hy => Nat.le_trans (h.1.2 y hy) hn⟩, ⟨Nat.le_trans h.2.1 hn, fun y hy => (h.2.2 y hy).mono hn⟩⟩
def szDev (x : DevV) (k : Int) : Int := szAll [(szSl (fun y k => left (k - y.length)) x.Secs), (szSl szWr x.Cache)] k
theorem szDev_sane (x : DevV) : Sane (szDev x) := Sane.all (.cons (Sane.sl (fun _ => Sane.left _) _) (.cons (Sane.sl szWr_sane _) .nil))
theorem szDev_in {x : DevV} {k : Int} {n : Nat} (hk : 0 ≤ k) (hn : k ≤ n) (h : 0 ≤ szDev x k) : x.In n := by
  obtain ⟨⟨j0, a0, b0, c0⟩, ⟨j1, a1, b1, c1⟩, _⟩ := szAll_ex (.cons (Sane.sl (fun _ => Sane.left _) _) (.cons (Sane.sl szWr_sane _) .nil)) hk hn h
  exact ⟨(szSl_in (fun _ => Sane.left _) (fun a j h0 hn h => by have := left_in h; omega) a0 b0 c0), (szSl_in szWr_sane (fun a j h0 hn h => szWr_in h0 hn h) a1 b1 c1)⟩
def DevV.Len (x : DevV) : Prop := (x.Secs.length ≤ 2 ^ 21 ∧ ∀ y ∈ x.Secs, y.length ≤ 2 ^ 21) ∧ (x.Cache.length ≤ 2 ^ 21 ∧ ∀ y ∈ x.Cache, y.Len)
theorem DevV.In.len {x : DevV} {n : Nat} (h : x.In n) (hn : n ≤ 2 ^ 21) : x.Len := by
  obtain ⟨h0, h1⟩ := h
  exact ⟨⟨Nat.le_trans h0.1 hn, fun y hy => Nat.le_trans (h0.2 y hy) hn⟩, ⟨Nat.le_trans h1.1 hn, fun y hy => ((h1.2 y hy)).len hn⟩⟩
def DevV.mark (x : DevV) (k : Int) : DevV := ⟨markL (fun y k => marks 1 mkU y.length k) (fun y k => k + (1 * y.length : Nat)) x.Secs (k), markL WrV.markE WrV.farE x.Cache (farL (fun y k => k + (1 * y.length : Nat)) x.Secs (k)), x.Fuse, x.Down⟩
def DevV.far (x : DevV) (k : Int) : Int := farL WrV.farE x.Cache (farL (fun y k => k + (1 * y.length : Nat)) x.Secs (k))
theorem DevV.mark_Secs (x : DevV) (k : Int) : (x.mark k).Secs.length = x.Secs.length := by simp [DevV.mark, marks_length, markL_length]
theorem DevV.take_Secs {β : Type} (f : List UInt8 → β) (x : DevV) (k : Int) : ((x.mark k).Secs.map f).take x.Secs.length = (x.mark k).Secs.map f := by rw [← x.mark_Secs k, take_map]
theorem DevV.mark_Cache (x : DevV) (k : Int) : (x.mark k).Cache.length = x.Cache.length := by simp [DevV.mark, marks_length, markL_length]
theorem DevV.take_Cache {β : Type} (f : WrV → β) (x : DevV) (k : Int) : ((x.mark k).Cache.map f).take x.Cache.length = (x.mark k).Cache.map f := by rw [← x.mark_Cache k, take_map]
theorem DevV.far_le {x : DevV} (hx : x.Len) (k : Int) : k ≤ x.far k ∧ x.far k ≤ k + 8796095119360 := by
  obtain ⟨h0, h1⟩ := hx
  have w0 := farL_le (k := k) (c := 2097152) h0 (fun (y : List UInt8) (hy : y.length ≤ 2 ^ 21) (k : Int) => ⟨by show k ≤ k + ((1 * y.length : Nat) : Int); omega, by show k + ((1 * y.length : Nat) : Int) ≤ _; omega⟩)
  have w1 := farL_le (k := (farL (fun y k => k + (1 * y.length : Nat)) x.Secs (k))) (c := 2097153) h1 (fun y hy k => WrV.farE_le hy k)
  simp only [DevV.far]
  omega
def x_l_eqDev : FnX := ⟨27, [.tmp 4],
  .q [.v 2 0, .v 3 1, .F 4]
 (.seq (.q [.f 5 2 0, .l 6 5, .f 7 3 0, .l 8 7, .c 9 65 [6, 8], .N 10 9]
 (.c 10 (.q [.F 4]
 .ret)))
 (.seq (.q [.f 11 2 1, .l 12 11, .f 13 3 1, .l 14 13, .c 15 66 [12, 14], .N 16 15]
 (.c 16 (.q [.F 4]
 .ret)))
 (.seq (.q [.f 17 2 2, .l 18 17, .f 19 3 2, .l 20 19, .b 21 .neq 18 20]
 (.c 21 (.q [.F 4]
 .ret)))
 (.seq (.q [.f 22 2 3, .l 23 22, .f 24 3 3, .l 25 24, .op 26 (.beq true (.t 23) (.t 25))]
 (.c 26 (.q [.F 4]
 .ret)))
 (.q [.T 4]
 .ret)))))⟩
abbrev C_l_eqDev (Te : TE) : Prop := ∀ (x y : DevV) (hx : x.Len), Te 40 [.agg (x.enc false), .agg (y.enc false)] ⟨[.one (bT (decide (x = y)))], [(x.enc false), (y.enc false)]⟩
theorem r_l_eqDev {Te : TE} (c_l_eqByteSS : C_l_eqByteSS Te) (c_l_eqWrS : C_l_eqWrS Te) : C_l_eqDev (RF Te x_l_eqDev) := by
  intro x y hx
  refine run0 ?_
  obtain ⟨h0, h1⟩ := hx
  have key : (x = y) ↔ x.Secs = y.Secs ∧ x.Cache = y.Cache ∧ x.Fuse = y.Fuse ∧ x.Down = y.Down := by cases x; cases y; simp
  simp only [key]
  clear key
  simp -implicitDefEqProofs only [x_l_eqDev, go_sem]
  refine .of (c_l_eqByteSS _ _ h0) ?_
  simp -implicitDefEqProofs only [go_sem]
  refine ⟨fun q => ?_, fun q => ?_⟩
  · have n0 : ¬ (x.Secs = y.Secs) := by simpa using q
    simp only [n0, false_and, and_false, true_and, decide_false]
  have e0 : x.Secs = y.Secs := by simpa using q
  clear q
  refine .of (c_l_eqWrS _ _ h1) ?_
  simp -implicitDefEqProofs only [go_sem]
  refine ⟨fun q => ?_, fun q => ?_⟩
  · have n1 : ¬ (x.Cache = y.Cache) := by simpa using q
    simp only [e0, n1, false_and, and_false, true_and, decide_false]
  have e1 : x.Cache = y.Cache := by simpa using q
  clear q
  refine ⟨fun q => ?_, fun q => ?_⟩
  · have n2 : ¬ (x.Fuse = y.Fuse) := by simpa using q
    simp only [e0, e1, n2, false_and, and_false, true_and, decide_false]
  have e2 : x.Fuse = y.Fuse := by simpa using q
  clear q
  refine ⟨fun q => ?_, fun q => ?_⟩
  · have n3 : ¬ (x.Down = y.Down) := by simpa using q
    simp only [e0, e1, e2, n3, false_and, and_false, true_and, decide_false]
  have e3 : x.Down = y.Down := by simpa using q
  clear q
  simp only [e0, e1, e2, e3, true_and, and_true, decide_true]
def x_l_markDev : FnX := ⟨14, [.tmp 4],
  .q [.v 2 0, .i 4 0]
 (.q [.f 5 2 0, .l 6 5, .m 7 1, .op 8 (.io 81 (.t 6) [(.t 7)]), .m 1 8]
 (.q [.f 9 2 1, .l 10 9, .m 11 1, .op 12 (.io 82 (.t 10) [(.t 11)]), .m 1 12]
 (.q [.m 13 1, .m 4 13]
 .ret)))⟩
abbrev C_l_markDev (Te : TE) : Prop := ∀ (x : DevV) (k : Int) (hx : x.Len) (hk : 0 ≤ k ∧ k ≤ 2 ^ 42), Te 47 [.agg (x.enc true), .one (iT k)] ⟨[.one (iT (x.far k))], [(x.mark k).enc true, [iT k]]⟩
theorem r_l_markDev {Te : TE} (c_l_markByteSS : C_l_markByteSS Te) (c_l_markWrS : C_l_markWrS Te) : C_l_markDev (RF Te x_l_markDev) := by
  intro x k hx hk
  refine run0 ?_
  obtain ⟨h0, h1⟩ := hx
  simp -implicitDefEqProofs only [x_l_markDev, go_sem]
  repeat (refine ⟨by decide, ?_⟩)
  refine .of (c_l_markByteSS _ _ h0 (by omega)) ?_
  simp -implicitDefEqProofs only [go_sem]
  repeat (refine back_bif (by simp -implicitDefEqProofs only [go_sem]) ?_; simp -implicitDefEqProofs only [go_sem])
  have w0 := farL_le (k := k) (c := 2097152) h0 (fun (y : List UInt8) (hy : y.length ≤ 2 ^ 21) (k : Int) => ⟨by show k ≤ k + ((1 * y.length : Nat) : Int); omega, by show k + ((1 * y.length : Nat) : Int) ≤ _; omega⟩)
  repeat (refine ⟨by decide, ?_⟩)
  refine .of (c_l_markWrS _ _ h1 (by omega)) ?_
  simp -implicitDefEqProofs only [go_sem]
  repeat (refine back_bif (by simp -implicitDefEqProofs only [go_sem]) ?_; simp -implicitDefEqProofs only [go_sem])
  have w1 := farL_le (k := (farL (fun y k => k + (1 * y.length : Nat)) x.Secs (k))) (c := 2097153) h1 (fun y hy k => WrV.farE_le hy k)
  rfl
def x_l_heldDev : FnX := ⟨18, [.tmp 4],
  .q [.v 2 0, .i 4 0]
 (.q [.f 5 2 0, .l 6 5, .m 7 1, .c 8 85 [6, 7], .m 1 8]
 (.seq (.q [.m 9 1, .B 10 .lss 9 0]
 (.c 10 (.q [.i 4 (-1)]
 .ret)))
 (.q [.f 11 2 1, .l 12 11, .m 13 1, .c 14 86 [12, 13], .m 1 14]
 (.seq (.q [.m 15 1, .B 16 .lss 15 0]
 (.c 16 (.q [.i 4 (-1)]
 .ret)))
 (.q [.m 17 1, .m 4 17]
 .ret)))))⟩
abbrev C_l_heldDev (Te : TE) : Prop := ∀ (x : DevV) (k : Int) (hx : x.Len) (hk : 0 ≤ k ∧ k ≤ 2 ^ 42), Te 49 [.agg ((x.mark k).enc false), .one (iT k)] ⟨[.one (iT (x.far k))], [(x.mark k).enc false, [iT k]]⟩
theorem r_l_heldDev {Te : TE} (c_l_heldByteSS : C_l_heldByteSS Te) (c_l_heldWrS : C_l_heldWrS Te) : C_l_heldDev (RF Te x_l_heldDev) := by
  intro x k hx hk
  refine run0 ?_
  obtain ⟨h0, h1⟩ := hx
  simp -implicitDefEqProofs only [x_l_heldDev, go_sem]
  refine .of (c_l_heldByteSS x.Secs _ h0 (by omega)) ?_
  simp -implicitDefEqProofs only [go_sem]
  have w0 := farL_le (k := k) (c := 2097152) h0 (fun (y : List UInt8) (hy : y.length ≤ 2 ^ 21) (k : Int) => ⟨by show k ≤ k + ((1 * y.length : Nat) : Int); omega, by show k + ((1 * y.length : Nat) : Int) ≤ _; omega⟩)
  refine ⟨fun q => by simp only [decide_eq_true_eq] at q; omega, fun _ => ?_⟩
  refine .of (c_l_heldWrS x.Cache _ h1 (by omega)) ?_
  simp -implicitDefEqProofs only [go_sem]
  have w1 := farL_le (k := (farL (fun y k => k + (1 * y.length : Nat)) x.Secs (k))) (c := 2097153) h1 (fun y hy k => WrV.farE_le hy k)
  refine ⟨fun q => by simp only [decide_eq_true_eq] at q; omega, fun _ => ?_⟩
  rfl
end Go.X

/- Eb -/
namespace Go.X
set_option maxRecDepth 100000
set_option maxHeartbeats 8000000
def x_l_eqRowS : FnX := ⟨27, [.tmp 4],
  .q [.F 4]
 (.seq (.q [.m 6 0, .n 7 6, .m 8 1, .n 9 8, .b 10 .neq 7 9]
 (.c 10 (.q [.F 4]
 .ret)))
 (.seq (.q [.i 5 0]
 (.block 0 (.loop [0, 1, 5] (.seq (.q [.m 11 5, .m 12 0, .n 13 12, .b 14 .lss 11 13]
 (.cond 14 .skip (.exit 0)))
 (.seq (.block 1 (.seq (.draw [.m 17 0, .m 18 5, .x 19 7 17 18, .L 20 7 19, .m 21 1, .m 22 5, .x 23 7 21 22, .L 24 7 23, .c 25 108 [20, 24], .N 26 25] [[], [], [0, 1], [2], [], [], [4, 5], [6], [3, 7], [8]])
 (.c 26 (.q [.F 4]
 .ret))))
 (.reg [.m 15 5, .B 16 .add 15 1, .m 5 16]))))))
 (.norm [] (.q [.T 4]
 .ret))))⟩
abbrev C_l_eqRowS (Te : TE) : Prop := ∀ (l m : List RowV) (hl : (l.length ≤ 2 ^ 21 ∧ ∀ y ∈ l, y.Len)), Te 67 [.one (slT false 7 (RowV.enc false) l), .one (slT false 7 (RowV.enc false) m)] ⟨[.one (bT (decide (l = m)))], [[slT false 7 (RowV.enc false) l], [slT false 7 (RowV.enc false) m]]⟩
theorem r_l_eqRowS {Te : TE} (c_l_eqRow : C_l_eqRow Te) : C_l_eqRowS (RF Te x_l_eqRowS) := by
  intro l m hl
  refine run0 ?_
  have hl1 := hl.1
  simp -implicitDefEqProofs (disch := omega) only [x_l_eqRowS, go_sem, IntWalk.i64_in]
  refine ⟨fun h => ?_, fun h => ?_⟩
  · have : l ≠ m := fun e => by simp [e] at h
    simp [this]
  · have hlen : l.length = m.length := by simp at h; omega
    refine loop_of (σ := Nat) (fun i => ⟨[(0, .one (.ro 7 (l.map (RowV.enc false)))), (1, .one (.ro 7 (m.map (RowV.enc false)))), (5, .one (.pv (.int .i64 i)))], [], [(0, [slT false 7 (RowV.enc false) l]), (1, [slT false 7 (RowV.enc false) m])]⟩) (fun i => i ≤ l.length ∧ l.take i = m.take i) (fun i => l.length - i) 0 ?_ ⟨Nat.zero_le _, by simp⟩ ?_
    · simp -implicitDefEqProofs only [go_sem]; rfl
    · intro i ⟨hi, hs⟩
      simp -implicitDefEqProofs only [go_sem]
      refine ⟨fun h => ?_, fun h => ?_⟩
      · have hi' : i < l.length := by simp only [decide_eq_true_eq] at h; omega
        have hj' : i < m.length := by omega
        simp -implicitDefEqProofs only [go_sem, List.getElem?_eq_getElem hi', List.getElem?_eq_getElem hj']
        refine .of (c_l_eqRow _ _ (hl.2 _ (List.getElem_mem hi'))) ?_
        simp -implicitDefEqProofs only [go_sem]
        refine ⟨by decide, fun h2 => ?_, fun h2 => ?_⟩
        · have : l ≠ m := fun e => by subst e; simp at h2
          simp [this]
        · refine ⟨i + 1, by rw [IntWalk.i64_in _ (by omega)]; rfl, ⟨hi', same_step hi' hj' hs ?_⟩, by omega⟩
          simpa using h2
      · have hle : l.length ≤ i := by simp only [decide_eq_false_iff_not] at h; omega
        have : l = m := same_end hle (by omega) hs
        simp [this]
def x_l_markRowS : FnX := ⟨69, [.tmp 4],
  .q [.i 4 0]
 (.seq (.q [.i 5 0]
 (.block 0 (.loop [0, 1, 5] (.seq (.q [.m 6 5, .m 7 0, .n 8 7, .b 9 .lss 6 8]
 (.cond 9 .skip (.exit 0)))
 (.seq (.block 1 (.q [.m 12 0, .m 13 5, .m 14 1, .c 15 129 [14], .x 16 7 12 13, .f 17 16 0, .s 100001 1 17 15]
 (.q [.m 18 1, .B 19 .add 18 1, .m 1 19]
 (.q [.m 20 0, .m 21 5, .m 22 1, .x 23 7 20 21, .f 24 23 1, .f 25 24 0, .s 100002 1 25 22]
 (.q [.m 26 1, .B 27 .add 26 1, .m 1 27]
 (.q [.m 28 0, .m 29 5, .x 30 7 28 29, .f 31 30 1, .f 32 31 1, .l 33 32, .m 34 1, .op 35 (.io 128 (.t 33) [(.t 34)]), .m 1 35]
 (.q [.m 36 0, .m 37 5, .m 38 1, .x 39 7 36 37, .f 40 39 3, .f 41 40 0, .s 100003 1 41 38]
 (.q [.m 42 1, .B 43 .add 42 1, .m 1 43]
 (.q [.m 44 0, .m 45 5, .x 46 7 44 45, .f 47 46 3, .f 48 47 1, .l 49 48, .m 50 1, .op 51 (.io 128 (.t 49) [(.t 50)]), .m 1 51]
 (.q [.m 52 0, .m 53 5, .m 54 1, .x 55 7 52 53, .f 56 55 5, .s 100004 1 56 54]
 (.q [.m 57 1, .B 58 .add 57 1, .m 1 58]
 (.q [.m 59 0, .m 60 5, .m 61 1, .B 62 .rem 61 3, .B 63 .eql 62 0, .x 64 7 59 60, .f 65 64 6, .s 100005 1 65 63]
 (.reg [.m 66 1, .B 67 .add 66 1, .m 1 67])))))))))))))
 (.reg [.m 10 5, .B 11 .add 10 1, .m 5 11]))))))
 (.norm [1] (.q [.m 68 1, .m 4 68]
 .ret)))⟩
abbrev C_l_markRowS (Te : TE) : Prop := ∀ (l : List RowV) (k : Int) (hl : (l.length ≤ 2 ^ 21 ∧ ∀ y ∈ l, y.Len)) (hk : 0 ≤ k ∧ k ≤ 2 ^ 44), Te 83 [.one (slT true 7 (RowV.enc true) l), .one (iT k)] ⟨[.one (iT (farL RowV.farE l k))], [[slT true 7 (RowV.enc true) (markL RowV.markE RowV.farE l k)], [iT k]]⟩
theorem r_l_markRowS {Te : TE} (c_l_markText : C_l_markText Te) (c_l_markByteS : C_l_markByteS Te) : C_l_markRowS (RF Te x_l_markRowS) := by
  intro l k hl hk
  refine run0 ?_
  have hl1 := hl.1
  simp -implicitDefEqProofs (disch := omega) only [x_l_markRowS, go_sem, IntWalk.i64_in]
  refine loop_of (σ := Nat) (fun i => ⟨[(0, .one (.rf 0 0 [] 7 0 l.length)), (1, .one (.pv (.int .i64 (farL RowV.farE (l.take i) k)))), (5, .one (.pv (.int .i64 i)))], [], [(0, [.sl true 7 () ((markL RowV.markE RowV.farE (l.take i) k).map (RowV.enc true) ++ (l.drop i).map (RowV.enc true))]), (1, [iT k])]⟩) (fun i => i ≤ l.length) (fun i => l.length - i) 0 ?_ (Nat.zero_le _) ?_
  · simp -implicitDefEqProofs only [go_sem]; simp [markL, farL]
  · intro i hi
    simp -implicitDefEqProofs only [go_sem]
    refine ⟨fun h => ?_, fun h => ?_⟩
    · have hi' : i < l.length := by simp only [decide_eq_true_eq] at h; omega
      have hb : k ≤ farL RowV.farE (l.take i) k ∧ farL RowV.farE (l.take i) k ≤ k + 8796103507968 := by
        have q := farL_le (n := 2 ^ 21) (k := k) (c := 4194309) (l := l.take i) ⟨by rw [List.length_take]; omega, fun y hy => hl.2 y (List.mem_of_mem_take hy)⟩ (fun y hy k => RowV.farE_le hy k)
        omega
      have he := hl.2 _ (List.getElem_mem hi')
      have hset := markL_set (RowV.enc true) RowV.markE RowV.farE l k hi'
      have hnext := farL_take RowV.farE l k hi'
      have e0 : l[i].Old.B.length ≤ 2 ^ 21 := he.1
      have e1 : l[i].New.B.length ≤ 2 ^ 21 := he.2
      generalize farL RowV.farE (l.take i) k = j at hb hset hnext ⊢
      try simp -implicitDefEqProofs (disch := omega) only [go_sem, storeAp, setCells, List.length_set, List.set_set, markL_len (RowV.enc true) RowV.markE RowV.farE l k hi, List.getD_eq_getElem?_getD, markL_at (RowV.enc true) RowV.markE RowV.farE l k hi', markL_reat (RowV.enc true) RowV.markE RowV.farE l k hi', Option.getD_some, IntWalk.i64_in]
      repeat (first | refine ⟨by decide, ?_⟩ | refine ⟨decide_eq_true hi', ?_⟩)
      refine .of (c_l_markText _ (by omega)) ?_
      simp -implicitDefEqProofs (disch := omega) only [go_sem, storeAp, setCells, List.length_set, List.set_set, markL_len (RowV.enc true) RowV.markE RowV.farE l k hi, List.getD_eq_getElem?_getD, markL_at (RowV.enc true) RowV.markE RowV.farE l k hi', markL_reat (RowV.enc true) RowV.markE RowV.farE l k hi', Option.getD_some, IntWalk.i64_in]
      repeat (first | refine ⟨by decide, ?_⟩ | refine ⟨decide_eq_true hi', ?_⟩)
      refine .of (c_l_markByteS (l[i].Old.B) _ (by omega) (by omega)) ?_
      simp -implicitDefEqProofs (disch := omega) only [go_sem, storeAp, setCells, List.length_set, List.set_set, markL_len (RowV.enc true) RowV.markE RowV.farE l k hi, List.getD_eq_getElem?_getD, markL_at (RowV.enc true) RowV.markE RowV.farE l k hi', markL_reat (RowV.enc true) RowV.markE RowV.farE l k hi', Option.getD_some, IntWalk.i64_in]
      repeat (first | refine ⟨by decide, ?_⟩ | refine ⟨decide_eq_true hi', ?_⟩)
      refine .of (c_l_markByteS (l[i].New.B) _ (by omega) (by omega)) ?_
      simp -implicitDefEqProofs (disch := omega) only [go_sem, storeAp, setCells, List.length_set, List.set_set, markL_len (RowV.enc true) RowV.markE RowV.farE l k hi, List.getD_eq_getElem?_getD, markL_at (RowV.enc true) RowV.markE RowV.farE l k hi', markL_reat (RowV.enc true) RowV.markE RowV.farE l k hi', Option.getD_some, IntWalk.i64_in]
      repeat (first | refine ⟨by decide, ?_⟩ | refine ⟨decide_eq_true hi', ?_⟩)
      refine ⟨i + 1, ?_, hi', by omega⟩
      rw [hnext, ← hset]
      rfl
    · have : i = l.length := by simp only [decide_eq_false_iff_not] at h; omega
      subst this
      simp -implicitDefEqProofs only [go_sem, List.take_length, List.drop_length, List.map_nil, List.append_nil]
def x_l_heldRowS : FnX := ⟨83, [.tmp 4],
  .q [.i 4 0]
 (.seq (.q [.i 5 0]
 (.block 0 (.loop [0, 1, 5] (.seq (.q [.m 6 5, .m 7 0, .n 8 7, .b 9 .lss 6 8]
 (.cond 9 .skip (.exit 0)))
 (.seq (.block 1 (.seq (.seq (.draw [.m 12 0, .m 13 5, .x 14 7 12 13, .f 15 14 0, .l 16 15, .m 17 1, .c 18 129 [17], .b 19 .neq 16 18] [[], [], [0, 1], [2], [3], [], [5], [4, 6]])
 (.c 19 (.q [.i 4 (-1)]
 .ret)))
 (.q [.m 20 1, .B 21 .add 20 1, .m 1 21]
 (.seq (.q [.m 22 0, .m 23 5, .x 24 7 22 23, .f 25 24 1, .f 26 25 0, .l 27 26, .m 28 1, .b 29 .neq 27 28]
 (.c 29 (.q [.i 4 (-1)]
 .ret)))
 (.q [.m 30 1, .B 31 .add 30 1, .m 1 31]
 (.q [.m 32 0, .m 33 5, .x 34 7 32 33, .f 35 34 1, .f 36 35 1, .l 37 36, .m 38 1, .c 39 130 [37, 38], .m 1 39]
 (.seq (.q [.m 40 1, .B 41 .lss 40 0]
 (.c 41 (.q [.i 4 (-1)]
 .ret)))
 (.seq (.q [.m 42 0, .m 43 5, .x 44 7 42 43, .f 45 44 3, .f 46 45 0, .l 47 46, .m 48 1, .b 49 .neq 47 48]
 (.c 49 (.q [.i 4 (-1)]
 .ret)))
 (.q [.m 50 1, .B 51 .add 50 1, .m 1 51]
 (.q [.m 52 0, .m 53 5, .x 54 7 52 53, .f 55 54 3, .f 56 55 1, .l 57 56, .m 58 1, .c 59 130 [57, 58], .m 1 59]
 (.seq (.q [.m 60 1, .B 61 .lss 60 0]
 (.c 61 (.q [.i 4 (-1)]
 .ret)))
 (.seq (.q [.m 62 0, .m 63 5, .x 64 7 62 63, .f 65 64 5, .l 66 65, .m 67 1, .b 68 .neq 66 67]
 (.c 68 (.q [.i 4 (-1)]
 .ret)))
 (.q [.m 69 1, .B 70 .add 69 1, .m 1 70]
 (.seq (.q [.m 71 0, .m 72 5, .x 73 7 71 72, .f 74 73 6, .l 75 74, .m 76 1, .B 77 .rem 76 3, .B 78 .eql 77 0, .op 79 (.beq true (.t 75) (.t 78))]
 (.c 79 (.q [.i 4 (-1)]
 .ret)))
 (.reg [.m 80 1, .B 81 .add 80 1, .m 1 81])))))))))))))))
 (.reg [.m 10 5, .B 11 .add 10 1, .m 5 11]))))))
 (.norm [1] (.q [.m 82 1, .m 4 82]
 .ret)))⟩
abbrev C_l_heldRowS (Te : TE) : Prop := ∀ (l : List RowV) (k : Int) (hl : (l.length ≤ 2 ^ 21 ∧ ∀ y ∈ l, y.Len)) (hk : 0 ≤ k ∧ k ≤ 2 ^ 44), Te 87 [.one (slT false 7 (RowV.enc false) (markL RowV.markE RowV.farE l k)), .one (iT k)] ⟨[.one (iT (farL RowV.farE l k))], [[slT false 7 (RowV.enc false) (markL RowV.markE RowV.farE l k)], [iT k]]⟩
theorem r_l_heldRowS {Te : TE} (c_l_markText : C_l_markText Te) (c_l_heldByteS : C_l_heldByteS Te) : C_l_heldRowS (RF Te x_l_heldRowS) := by
  intro l k hl hk
  refine run0 ?_
  have hl1 := hl.1
  simp -implicitDefEqProofs (disch := omega) only [x_l_heldRowS, go_sem, IntWalk.i64_in]
  refine loop_of (σ := Nat) (fun i => ⟨[(0, .one (.ro 7 ((markL RowV.markE RowV.farE l k).map (RowV.enc false)))), (1, .one (.pv (.int .i64 (farL RowV.farE (l.take i) k)))), (5, .one (.pv (.int .i64 i)))], [], [(0, [slT false 7 (RowV.enc false) (markL RowV.markE RowV.farE l k)]), (1, [iT k])]⟩) (fun i => i ≤ l.length) (fun i => l.length - i) 0 ?_ (Nat.zero_le _) ?_
  · simp -implicitDefEqProofs only [go_sem]; simp [farL]
  · intro i hi
    simp -implicitDefEqProofs only [go_sem, markL_length]
    refine ⟨fun h => ?_, fun h => ?_⟩
    · have hi' : i < l.length := by simp only [decide_eq_true_eq] at h; omega
      have hb : k ≤ farL RowV.farE (l.take i) k ∧ farL RowV.farE (l.take i) k ≤ k + 8796103507968 := by
        have q := farL_le (n := 2 ^ 21) (k := k) (c := 4194309) (l := l.take i) ⟨by rw [List.length_take]; omega, fun y hy => hl.2 y (List.mem_of_mem_take hy)⟩ (fun y hy k => RowV.farE_le hy k)
        omega
      have he := hl.2 _ (List.getElem_mem hi')
      have hget := markL_get RowV.markE RowV.farE l k hi'
      have hnext := farL_take RowV.farE l k hi'
      have e0 : l[i].Old.B.length ≤ 2 ^ 21 := he.1
      have e1 : l[i].New.B.length ≤ 2 ^ 21 := he.2
      generalize farL RowV.farE (l.take i) k = j at hb hget hnext ⊢
      simp only [RowV.markE] at hget
      try simp -implicitDefEqProofs (disch := omega) only [go_sem, hget, IntWalk.i64_in, mkB, bne_self_eq_false, decide_true, Bool.not_true]
      repeat (refine ⟨by decide, ?_⟩)
      refine .of (c_l_markText _ (by omega)) ?_
      simp -implicitDefEqProofs (disch := omega) only [go_sem, hget, IntWalk.i64_in, mkB, bne_self_eq_false, decide_true, Bool.not_true]
      repeat (refine ⟨by decide, ?_⟩)
      refine .of (c_l_heldByteS (l[i].Old.B.length) _ (by omega) (by omega)) ?_
      simp -implicitDefEqProofs (disch := omega) only [go_sem, hget, IntWalk.i64_in, mkB, bne_self_eq_false, decide_true, Bool.not_true]
      refine ⟨fun q => by simp only [decide_eq_true_eq] at q; omega, fun _ => ?_⟩
      try simp -implicitDefEqProofs (disch := omega) only [go_sem, hget, IntWalk.i64_in, mkB, bne_self_eq_false, decide_true, Bool.not_true]
      repeat (refine ⟨by decide, ?_⟩)
      refine .of (c_l_heldByteS (l[i].New.B.length) _ (by omega) (by omega)) ?_
      simp -implicitDefEqProofs (disch := omega) only [go_sem, hget, IntWalk.i64_in, mkB, bne_self_eq_false, decide_true, Bool.not_true]
      refine ⟨fun q => by simp only [decide_eq_true_eq] at q; omega, fun _ => ?_⟩
      try simp -implicitDefEqProofs (disch := omega) only [go_sem, hget, IntWalk.i64_in, mkB, bne_self_eq_false, decide_true, Bool.not_true]
      repeat (refine ⟨by decide, ?_⟩)
      refine ⟨i + 1, ?_, hi', by omega⟩
      rw [hnext]
      rfl
    · have : i = l.length := by simp only [decide_eq_false_iff_not] at h; omega
      subst this
      simp -implicitDefEqProofs only [go_sem, List.take_length]
structure MarkV where
  Who : Int
  Seq : Int
  Code : Int
  deriving DecidableEq
abbrev MarkV.row (x : MarkV) : List Go.X.T := [iT x.Who, iT x.Seq, iT x.Code]
def mkMark (k : Int) : MarkV := ⟨k, k + 1, k + 1 + 1⟩
def x_l_eqMark : FnX := ⟨20, [.tmp 4],
  .q [.v 2 0, .v 3 1, .F 4]
 (.seq (.q [.f 5 2 0, .l 6 5, .f 7 3 0, .l 8 7, .b 9 .neq 6 8]
 (.c 9 (.q [.F 4]
 .ret)))
 (.seq (.q [.f 10 2 1, .l 11 10, .f 12 3 1, .l 13 12, .b 14 .neq 11 13]
 (.c 14 (.q [.F 4]
 .ret)))
 (.seq (.q [.f 15 2 2, .l 16 15, .f 17 3 2, .l 18 17, .b 19 .neq 16 18]
 (.c 19 (.q [.F 4]
 .ret)))
 (.q [.T 4]
 .ret))))⟩
abbrev C_l_eqMark (Te : TE) : Prop := ∀ (x y : MarkV), Te 109 [.agg x.row, .agg y.row] ⟨[.one (bT (decide (x = y)))], [x.row, y.row]⟩
theorem r_l_eqMark {Te : TE} : C_l_eqMark (RF Te x_l_eqMark) := by
  intro x y
  refine run0 ?_
  have key : (x = y) ↔ x.Who = y.Who ∧ x.Seq = y.Seq ∧ x.Code = y.Code := by cases x; cases y; simp
  simp only [key]
  clear key
  simp -implicitDefEqProofs only [x_l_eqMark, go_sem]
  refine ⟨fun q => ?_, fun q => ?_⟩
  · have n0 : ¬ (x.Who = y.Who) := by simpa using q
    simp only [n0, false_and, and_false, true_and, decide_false]
  have e0 : x.Who = y.Who := by simpa using q
  clear q
  refine ⟨fun q => ?_, fun q => ?_⟩
  · have n1 : ¬ (x.Seq = y.Seq) := by simpa using q
    simp only [e0, n1, false_and, and_false, true_and, decide_false]
  have e1 : x.Seq = y.Seq := by simpa using q
  clear q
  refine ⟨fun q => ?_, fun q => ?_⟩
  · have n2 : ¬ (x.Code = y.Code) := by simpa using q
    simp only [e0, e1, n2, false_and, and_false, true_and, decide_false]
  have e2 : x.Code = y.Code := by simpa using q
  clear q
  simp only [e0, e1, e2, true_and, and_true, decide_true]
def x_l_eqMarkS : FnX := ⟨27, [.tmp 4],
  .q [.F 4]
 (.seq (.q [.m 6 0, .n 7 6, .m 8 1, .n 9 8, .b 10 .neq 7 9]
 (.c 10 (.q [.F 4]
 .ret)))
 (.seq (.q [.i 5 0]
 (.block 0 (.loop [0, 1, 5] (.seq (.q [.m 11 5, .m 12 0, .n 13 12, .b 14 .lss 11 13]
 (.cond 14 .skip (.exit 0)))
 (.seq (.block 1 (.seq (.draw [.m 17 0, .m 18 5, .x 19 3 17 18, .L 20 3 19, .m 21 1, .m 22 5, .x 23 3 21 22, .L 24 3 23, .c 25 109 [20, 24], .N 26 25] [[], [], [0, 1], [2], [], [], [4, 5], [6], [3, 7], [8]])
 (.c 26 (.q [.F 4]
 .ret))))
 (.reg [.m 15 5, .B 16 .add 15 1, .m 5 16]))))))
 (.norm [] (.q [.T 4]
 .ret))))⟩
abbrev C_l_eqMarkS (Te : TE) : Prop := ∀ (l m : List MarkV) (hl : l.length ≤ 2 ^ 31), Te 68 [.one (slT false 3 MarkV.row l), .one (slT false 3 MarkV.row m)] ⟨[.one (bT (decide (l = m)))], [[slT false 3 MarkV.row l], [slT false 3 MarkV.row m]]⟩
theorem r_l_eqMarkS {Te : TE} (c_l_eqMark : C_l_eqMark Te) : C_l_eqMarkS (RF Te x_l_eqMarkS) := by
  intro l m hl
  refine run0 ?_
  simp -implicitDefEqProofs (disch := omega) only [x_l_eqMarkS, go_sem, IntWalk.i64_in]
  refine ⟨fun h => ?_, fun h => ?_⟩
  · have : l ≠ m := fun e => by simp [e] at h
    simp [this]
  · have hlen : l.length = m.length := by simp at h; omega
    refine loop_of (σ := Nat) (fun i => ⟨[(0, .one (.ro 3 (l.map MarkV.row))), (1, .one (.ro 3 (m.map MarkV.row))), (5, .one (.pv (.int .i64 i)))], [], [(0, [slT false 3 MarkV.row l]), (1, [slT false 3 MarkV.row m])]⟩) (fun i => i ≤ l.length ∧ l.take i = m.take i) (fun i => l.length - i) 0 ?_ ⟨Nat.zero_le _, by simp⟩ ?_
    · simp -implicitDefEqProofs only [go_sem]; rfl
    · intro i ⟨hi, hs⟩
      simp -implicitDefEqProofs only [go_sem]
      refine ⟨fun h => ?_, fun h => ?_⟩
      · have hi' : i < l.length := by simp only [decide_eq_true_eq] at h; omega
        have hj' : i < m.length := by omega
        simp -implicitDefEqProofs only [go_sem, List.getElem?_eq_getElem hi', List.getElem?_eq_getElem hj']
        refine .of (c_l_eqMark _ _) ?_
        simp -implicitDefEqProofs only [go_sem]
        refine ⟨by decide, fun h2 => ?_, fun h2 => ?_⟩
        · have : l ≠ m := fun e => by subst e; simp at h2
          simp [this]
        · refine ⟨i + 1, by rw [IntWalk.i64_in _ (by omega)]; rfl, ⟨hi', same_step hi' hj' hs ?_⟩, by omega⟩
          simpa using h2
      · have hle : l.length ≤ i := by simp only [decide_eq_false_iff_not] at h; omega
        have : l = m := same_end hle (by omega) hs
        simp [this]
def x_l_markMarkS_2 : XCode := .q [.m 26 0, .m 27 5, .m 28 1, .x 29 3 26 27, .f 30 29 2, .s 100003 1 30 28]
 (.reg [.m 31 1, .B 32 .add 31 1, .m 1 32])
def x_l_markMarkS_1 : XCode := .q [.m 19 0, .m 20 5, .m 21 1, .x 22 3 19 20, .f 23 22 1, .s 100002 1 23 21]
 (.q [.m 24 1, .B 25 .add 24 1, .m 1 25]
 x_l_markMarkS_2)
def x_l_markMarkS : FnX := ⟨34, [.tmp 4],
  .q [.i 4 0]
 (.seq (.q [.i 5 0]
 (.block 0 (.loop [0, 1, 5] (.seq (.q [.m 6 5, .m 7 0, .n 8 7, .b 9 .lss 6 8]
 (.cond 9 .skip (.exit 0)))
 (.seq (.block 1 (.q [.m 12 0, .m 13 5, .m 14 1, .x 15 3 12 13, .f 16 15 0, .s 100001 1 16 14]
 (.q [.m 17 1, .B 18 .add 17 1, .m 1 18]
 x_l_markMarkS_1)))
 (.reg [.m 10 5, .B 11 .add 10 1, .m 5 11]))))))
 (.norm [1] (.q [.m 33 1, .m 4 33]
 .ret)))⟩
abbrev C_l_markMarkS (Te : TE) : Prop := ∀ (l : List MarkV) (k : Int) (hl : l.length ≤ 2 ^ 31) (hk : 0 ≤ k ∧ k ≤ 2 ^ 46), Te 84 [.one (slT true 3 MarkV.row l), .one (iT k)] ⟨[.one (iT (k + (3 * l.length : Nat)))], [[slT true 3 MarkV.row (marks 3 mkMark l.length k)], [iT k]]⟩
theorem r_l_markMarkS {Te : TE} : C_l_markMarkS (RF Te x_l_markMarkS) := by
  intro l k hl hk
  refine run0 ?_
  simp -implicitDefEqProofs (disch := omega) only [x_l_markMarkS, go_sem, IntWalk.i64_in]
  refine loop_of (σ := Nat) (fun i => ⟨[(0, .one (.rf 0 0 [] 3 0 l.length)), (1, .one (.pv (.int .i64 (k + (3 * i : Nat))))), (5, .one (.pv (.int .i64 i)))], [], [(0, [.sl true 3 () ((marks 3 mkMark i k).map MarkV.row ++ (l.drop i).map MarkV.row)]), (1, [iT k])]⟩) (fun i => i ≤ l.length) (fun i => l.length - i) 0 ?_ (Nat.zero_le _) ?_
  · simp -implicitDefEqProofs only [go_sem]; simp [marks]
  · intro i hi
    simp -implicitDefEqProofs only [go_sem]
    refine ⟨fun h => ?_, fun h => ?_⟩
    · have hi' : i < l.length := by simp only [decide_eq_true_eq] at h; omega
      try simp -implicitDefEqProofs (disch := omega) only [go_sem, storeAp, setCells, List.length_set, List.set_set, mark_len MarkV.row 3 mkMark l k hi, List.getD_eq_getElem?_getD, mark_get MarkV.row 3 mkMark l k hi', mark_reget MarkV.row 3 mkMark l k hi', Option.getD_some, IntWalk.i64_in]
      repeat (first | refine ⟨by decide, ?_⟩ | refine ⟨decide_eq_true hi', ?_⟩)
      simp -implicitDefEqProofs (disch := omega) only [x_l_markMarkS_1, go_sem, storeAp, setCells, List.length_set, List.set_set, mark_len MarkV.row 3 mkMark l k hi, List.getD_eq_getElem?_getD, mark_get MarkV.row 3 mkMark l k hi', mark_reget MarkV.row 3 mkMark l k hi', Option.getD_some, IntWalk.i64_in]
      repeat (first | refine ⟨by decide, ?_⟩ | refine ⟨decide_eq_true hi', ?_⟩)
      simp -implicitDefEqProofs (disch := omega) only [x_l_markMarkS_2, go_sem, storeAp, setCells, List.length_set, List.set_set, mark_len MarkV.row 3 mkMark l k hi, List.getD_eq_getElem?_getD, mark_get MarkV.row 3 mkMark l k hi', mark_reget MarkV.row 3 mkMark l k hi', Option.getD_some, IntWalk.i64_in]
      repeat (first | refine ⟨by decide, ?_⟩ | refine ⟨decide_eq_true hi', ?_⟩)
      refine ⟨i + 1, ?_, hi', by omega⟩
      rw [← mark_set MarkV.row 3 mkMark l k hi', show k + ((3 * (i + 1) : Nat) : Int) = k + (3 * i : Nat) + 1 + 1 + 1 by omega]
      rfl
    · have : i = l.length := by simp only [decide_eq_false_iff_not] at h; omega
      subst this
      simp -implicitDefEqProofs only [go_sem, mark_end]
def x_l_heldMarkS_2 : XCode := .seq (.q [.m 30 0, .m 31 5, .x 32 3 30 31, .f 33 32 2, .l 34 33, .m 35 1, .b 36 .neq 34 35]
 (.c 36 (.q [.i 4 (-1)]
 .ret)))
 (.reg [.m 37 1, .B 38 .add 37 1, .m 1 38])
def x_l_heldMarkS_1 : XCode := .seq (.q [.m 21 0, .m 22 5, .x 23 3 21 22, .f 24 23 1, .l 25 24, .m 26 1, .b 27 .neq 25 26]
 (.c 27 (.q [.i 4 (-1)]
 .ret)))
 (.q [.m 28 1, .B 29 .add 28 1, .m 1 29]
 x_l_heldMarkS_2)
def x_l_heldMarkS : FnX := ⟨40, [.tmp 4],
  .q [.i 4 0]
 (.seq (.q [.i 5 0]
 (.block 0 (.loop [0, 1, 5] (.seq (.q [.m 6 5, .m 7 0, .n 8 7, .b 9 .lss 6 8]
 (.cond 9 .skip (.exit 0)))
 (.seq (.block 1 (.seq (.q [.m 12 0, .m 13 5, .x 14 3 12 13, .f 15 14 0, .l 16 15, .m 17 1, .b 18 .neq 16 17]
 (.c 18 (.q [.i 4 (-1)]
 .ret)))
 (.q [.m 19 1, .B 20 .add 19 1, .m 1 20]
 x_l_heldMarkS_1)))
 (.reg [.m 10 5, .B 11 .add 10 1, .m 5 11]))))))
 (.norm [1] (.q [.m 39 1, .m 4 39]
 .ret)))⟩
abbrev C_l_heldMarkS (Te : TE) : Prop := ∀ (n : Nat) (k : Int) (hl : n ≤ 2 ^ 31) (hk : 0 ≤ k ∧ k ≤ 2 ^ 46), Te 88 [.one (slT false 3 MarkV.row (marks 3 mkMark n k)), .one (iT k)] ⟨[.one (iT (k + (3 * n : Nat)))], [[slT false 3 MarkV.row (marks 3 mkMark n k)], [iT k]]⟩
theorem r_l_heldMarkS {Te : TE} : C_l_heldMarkS (RF Te x_l_heldMarkS) := by
  intro n k hl hk
  refine run0 ?_
  simp -implicitDefEqProofs (disch := omega) only [x_l_heldMarkS, go_sem, IntWalk.i64_in]
  refine loop_of (σ := Nat) (fun i => ⟨[(0, .one (.ro 3 ((marks 3 mkMark n k).map MarkV.row))), (1, .one (.pv (.int .i64 (k + (3 * i : Nat))))), (5, .one (.pv (.int .i64 i)))], [], [(0, [slT false 3 MarkV.row (marks 3 mkMark n k)]), (1, [iT k])]⟩) (fun i => i ≤ n) (fun i => n - i) 0 ?_ (Nat.zero_le _) ?_
  · simp -implicitDefEqProofs only [go_sem]; simp
  · intro i hi
    simp -implicitDefEqProofs only [go_sem, marks_length]
    refine ⟨fun h => ?_, fun h => ?_⟩
    · have hi' : i < n := by simp only [decide_eq_true_eq] at h; omega
      try simp -implicitDefEqProofs (disch := omega) only [go_sem, marks_get 3 mkMark k hi', IntWalk.i64_in, mkMark, bne_self_eq_false, decide_true, Bool.not_true]
      simp -implicitDefEqProofs (disch := omega) only [x_l_heldMarkS_1, go_sem, marks_get 3 mkMark k hi', IntWalk.i64_in, mkMark, bne_self_eq_false, decide_true, Bool.not_true]
      simp -implicitDefEqProofs (disch := omega) only [x_l_heldMarkS_2, go_sem, marks_get 3 mkMark k hi', IntWalk.i64_in, mkMark, bne_self_eq_false, decide_true, Bool.not_true]
      refine ⟨i + 1, ?_, hi', by omega⟩
      rw [show k + ((3 * (i + 1) : Nat) : Int) = k + (3 * i : Nat) + 1 + 1 + 1 by omega]
      rfl
    · have : i = n := by simp only [decide_eq_false_iff_not] at h; omega
      subst this
      simp -implicitDefEqProofs only [go_sem]
structure TabV where
  Rows : List RowV
  Phase : Int
  Marks : List MarkV
  deriving DecidableEq
abbrev TabV.enc (o : Bool) (x : TabV) : List Go.X.T := [slT o 7 (RowV.enc o) x.Rows, iT x.Phase, slT o 3 MarkV.row x.Marks]
def TabV.In (n : Nat) (x : TabV) : Prop := (x.Rows.length ≤ n ∧ ∀ y ∈ x.Rows, y.In (n)) ∧ x.Marks.length ≤ n
theorem TabV.In.mono {x : TabV} {n m : Nat} (h : x.In n) (hn : n ≤ m) : x.In m := by
  simp only [TabV.In] at h ⊢
  exact ⟨⟨Nat.le_trans h.1.1 hn, fun y hy => (h.1.2 y hy).mono hn⟩, Nat.le_trans h.2 hn⟩
def szTab (x : TabV) (k : Int) : Int := szAll [(szSl szRow x.Rows), (fun k => left (k - (x.Marks.length : Nat)))] k
theorem szTab_sane (x : TabV) : Sane (szTab x) := Sane.all (.cons (Sane.sl szRow_sane _) (.cons (Sane.left _) .nil))
theorem szTab_in {x : TabV} {k : Int} {n : Nat} (hk : 0 ≤ k) (hn : k ≤ n) (h : 0 ≤ szTab x k) : x.In n := by
  obtain ⟨⟨j0, a0, b0, c0⟩, ⟨j1, a1, b1, c1⟩, _⟩ := szAll_ex (.cons (Sane.sl szRow_sane _) (.cons (Sane.left _) .nil)) hk hn h
  exact ⟨(szSl_in szRow_sane (fun a j h0 hn h => szRow_in h0 hn h) a0 b0 c0), (by have := left_in c1; omega)⟩
def TabV.Len (x : TabV) : Prop := (x.Rows.length ≤ 2 ^ 21 ∧ ∀ y ∈ x.Rows, y.Len) ∧ x.Marks.length ≤ 2 ^ 21
theorem TabV.In.len {x : TabV} {n : Nat} (h : x.In n) (hn : n ≤ 2 ^ 21) : x.Len := by
  obtain ⟨h0, h1⟩ := h
  exact ⟨⟨Nat.le_trans h0.1 hn, fun y hy => ((h0.2 y hy)).len hn⟩, Nat.le_trans h1 hn⟩
def TabV.mark (x : TabV) (k : Int) : TabV := ⟨markL RowV.markE RowV.farE x.Rows (k), x.Phase, marks 3 mkMark x.Marks.length (farL RowV.farE x.Rows (k))⟩
def TabV.far (x : TabV) (k : Int) : Int := farL RowV.farE x.Rows (k) + (3 * x.Marks.length : Nat)
theorem TabV.mark_Rows (x : TabV) (k : Int) : (x.mark k).Rows.length = x.Rows.length := by simp [TabV.mark, marks_length, markL_length]
theorem TabV.take_Rows {β : Type} (f : RowV → β) (x : TabV) (k : Int) : ((x.mark k).Rows.map f).take x.Rows.length = (x.mark k).Rows.map f := by rw [← x.mark_Rows k, take_map]
theorem TabV.mark_Marks (x : TabV) (k : Int) : (x.mark k).Marks.length = x.Marks.length := by simp [TabV.mark, marks_length, markL_length]
theorem TabV.take_Marks {β : Type} (f : MarkV → β) (x : TabV) (k : Int) : ((x.mark k).Marks.map f).take x.Marks.length = (x.mark k).Marks.map f := by rw [← x.mark_Marks k, take_map]
theorem TabV.far_le {x : TabV} (hx : x.Len) (k : Int) : k ≤ x.far k ∧ x.far k ≤ k + 8796109799424 := by
  obtain ⟨h0, h1⟩ := hx
  have w0 := farL_le (k := k) (c := 4194309) h0 (fun y hy k => RowV.farE_le hy k)
  simp only [TabV.far]
  omega
def x_l_eqTab : FnX := ⟨22, [.tmp 4],
  .q [.v 2 0, .v 3 1, .F 4]
 (.seq (.q [.f 5 2 0, .l 6 5, .f 7 3 0, .l 8 7, .c 9 67 [6, 8], .N 10 9]
 (.c 10 (.q [.F 4]
 .ret)))
 (.seq (.q [.f 11 2 1, .l 12 11, .f 13 3 1, .l 14 13, .b 15 .neq 12 14]
 (.c 15 (.q [.F 4]
 .ret)))
 (.seq (.q [.f 16 2 2, .l 17 16, .f 18 3 2, .l 19 18, .c 20 68 [17, 19], .N 21 20]
 (.c 21 (.q [.F 4]
 .ret)))
 (.q [.T 4]
 .ret))))⟩
abbrev C_l_eqTab (Te : TE) : Prop := ∀ (x y : TabV) (hx : x.Len), Te 41 [.agg (x.enc false), .agg (y.enc false)] ⟨[.one (bT (decide (x = y)))], [(x.enc false), (y.enc false)]⟩
theorem r_l_eqTab {Te : TE} (c_l_eqRowS : C_l_eqRowS Te) (c_l_eqMarkS : C_l_eqMarkS Te) : C_l_eqTab (RF Te x_l_eqTab) := by
  intro x y hx
  refine run0 ?_
  obtain ⟨h0, h1⟩ := hx
  have key : (x = y) ↔ x.Rows = y.Rows ∧ x.Phase = y.Phase ∧ x.Marks = y.Marks := by cases x; cases y; simp
  simp only [key]
  clear key
  simp -implicitDefEqProofs only [x_l_eqTab, go_sem]
  refine .of (c_l_eqRowS _ _ h0) ?_
  simp -implicitDefEqProofs only [go_sem]
  refine ⟨fun q => ?_, fun q => ?_⟩
  · have n0 : ¬ (x.Rows = y.Rows) := by simpa using q
    simp only [n0, false_and, and_false, true_and, decide_false]
  have e0 : x.Rows = y.Rows := by simpa using q
  clear q
  refine ⟨fun q => ?_, fun q => ?_⟩
  · have n1 : ¬ (x.Phase = y.Phase) := by simpa using q
    simp only [e0, n1, false_and, and_false, true_and, decide_false]
  have e1 : x.Phase = y.Phase := by simpa using q
  clear q
  refine .of (c_l_eqMarkS _ _ (Nat.le_trans h1 (by decide))) ?_
  simp -implicitDefEqProofs only [go_sem]
  refine ⟨fun q => ?_, fun q => ?_⟩
  · have n2 : ¬ (x.Marks = y.Marks) := by simpa using q
    simp only [e0, e1, n2, false_and, and_false, true_and, decide_false]
  have e2 : x.Marks = y.Marks := by simpa using q
  clear q
  simp only [e0, e1, e2, true_and, and_true, decide_true]
def x_l_markTab : FnX := ⟨14, [.tmp 4],
  .q [.v 2 0, .i 4 0]
 (.q [.f 5 2 0, .l 6 5, .m 7 1, .op 8 (.io 83 (.t 6) [(.t 7)]), .m 1 8]
 (.q [.f 9 2 2, .l 10 9, .m 11 1, .op 12 (.io 84 (.t 10) [(.t 11)]), .m 1 12]
 (.q [.m 13 1, .m 4 13]
 .ret)))⟩
abbrev C_l_markTab (Te : TE) : Prop := ∀ (x : TabV) (k : Int) (hx : x.Len) (hk : 0 ≤ k ∧ k ≤ 2 ^ 44), Te 48 [.agg (x.enc true), .one (iT k)] ⟨[.one (iT (x.far k))], [(x.mark k).enc true, [iT k]]⟩
theorem r_l_markTab {Te : TE} (c_l_markRowS : C_l_markRowS Te) (c_l_markMarkS : C_l_markMarkS Te) : C_l_markTab (RF Te x_l_markTab) := by
  intro x k hx hk
  refine run0 ?_
  obtain ⟨h0, h1⟩ := hx
  simp -implicitDefEqProofs only [x_l_markTab, go_sem]
  repeat (refine ⟨by decide, ?_⟩)
  refine .of (c_l_markRowS _ _ h0 (by omega)) ?_
  simp -implicitDefEqProofs only [go_sem]
  repeat (refine back_bif (by simp -implicitDefEqProofs only [go_sem]) ?_; simp -implicitDefEqProofs only [go_sem])
  have w0 := farL_le (k := k) (c := 4194309) h0 (fun y hy k => RowV.farE_le hy k)
  repeat (refine ⟨by decide, ?_⟩)
  refine .of (c_l_markMarkS _ _ (Nat.le_trans h1 (by decide)) (by omega)) ?_
  simp -implicitDefEqProofs only [go_sem]
  rfl
def x_l_heldTab : FnX := ⟨18, [.tmp 4],
  .q [.v 2 0, .i 4 0]
 (.q [.f 5 2 0, .l 6 5, .m 7 1, .c 8 87 [6, 7], .m 1 8]
 (.seq (.q [.m 9 1, .B 10 .lss 9 0]
 (.c 10 (.q [.i 4 (-1)]
 .ret)))
 (.q [.f 11 2 2, .l 12 11, .m 13 1, .c 14 88 [12, 13], .m 1 14]
 (.seq (.q [.m 15 1, .B 16 .lss 15 0]
 (.c 16 (.q [.i 4 (-1)]
 .ret)))
 (.q [.m 17 1, .m 4 17]
 .ret)))))⟩
abbrev C_l_heldTab (Te : TE) : Prop := ∀ (x : TabV) (k : Int) (hx : x.Len) (hk : 0 ≤ k ∧ k ≤ 2 ^ 44), Te 50 [.agg ((x.mark k).enc false), .one (iT k)] ⟨[.one (iT (x.far k))], [(x.mark k).enc false, [iT k]]⟩
theorem r_l_heldTab {Te : TE} (c_l_heldRowS : C_l_heldRowS Te) (c_l_heldMarkS : C_l_heldMarkS Te) : C_l_heldTab (RF Te x_l_heldTab) := by
  intro x k hx hk
  refine run0 ?_
  obtain ⟨h0, h1⟩ := hx
  simp -implicitDefEqProofs only [x_l_heldTab, go_sem]
  refine .of (c_l_heldRowS x.Rows _ h0 (by omega)) ?_
  simp -implicitDefEqProofs only [go_sem]
  have w0 := farL_le (k := k) (c := 4194309) h0 (fun y hy k => RowV.farE_le hy k)
  refine ⟨fun q => by simp only [decide_eq_true_eq] at q; omega, fun _ => ?_⟩
  refine .of (c_l_heldMarkS x.Marks.length _ (Nat.le_trans h1 (by decide)) (by omega)) ?_
  simp -implicitDefEqProofs only [go_sem]
  refine ⟨fun q => by simp only [decide_eq_true_eq] at q; omega, fun _ => ?_⟩
  rfl
structure StoreV where
  D : DevV
  T : TabV
  Gen : Int
  Place : Int
  deriving DecidableEq
abbrev StoreV.enc (o : Bool) (x : StoreV) : List Go.X.T := [slT o 1 (fun y => [slT o 1 uR y]) x.D.Secs, slT o 2 (WrV.enc o) x.D.Cache, iT x.D.Fuse, bT x.D.Down, slT o 7 (RowV.enc o) x.T.Rows, iT x.T.Phase, slT o 3 MarkV.row x.T.Marks, iT x.Gen, iT x.Place]
def StoreV.In (n : Nat) (x : StoreV) : Prop := x.D.In (n) ∧ x.T.In (n)
theorem StoreV.In.mono {x : StoreV} {n m : Nat} (h : x.In n) (hn : n ≤ m) : x.In m := by
  simp only [StoreV.In] at h ⊢
  exact ⟨h.1.mono hn, h.2.mono hn⟩
def szStore (x : StoreV) (k : Int) : Int := szAll [(szDev x.D), (szTab x.T)] k
theorem szStore_sane (x : StoreV) : Sane (szStore x) := Sane.all (.cons (szDev_sane _) (.cons (szTab_sane _) .nil))
theorem szStore_in {x : StoreV} {k : Int} {n : Nat} (hk : 0 ≤ k) (hn : k ≤ n) (h : 0 ≤ szStore x k) : x.In n := by
  obtain ⟨⟨j0, a0, b0, c0⟩, ⟨j1, a1, b1, c1⟩, _⟩ := szAll_ex (.cons (szDev_sane _) (.cons (szTab_sane _) .nil)) hk hn h
  exact ⟨(szDev_in a0 b0 c0), (szTab_in a1 b1 c1)⟩
def StoreV.Len (x : StoreV) : Prop := x.D.Len ∧ x.T.Len
theorem StoreV.In.len {x : StoreV} {n : Nat} (h : x.In n) (hn : n ≤ 2 ^ 21) : x.Len := by
  obtain ⟨h0, h1⟩ := h
  exact ⟨(h0).len hn, (h1).len hn⟩
def StoreV.mark (x : StoreV) (k : Int) : StoreV := ⟨x.D.mark (k), x.T.mark (x.D.far (k)), x.Gen, x.Place⟩
def StoreV.far (x : StoreV) (k : Int) : Int := x.T.far (x.D.far (k))
theorem StoreV.mark_D_Secs (x : StoreV) (k : Int) : (x.mark k).D.Secs.length = x.D.Secs.length := by simp [StoreV.mark, DevV.mark, TabV.mark, marks_length, markL_length]
theorem StoreV.take_D_Secs {β : Type} (f : List UInt8 → β) (x : StoreV) (k : Int) : ((x.mark k).D.Secs.map f).take x.D.Secs.length = (x.mark k).D.Secs.map f := by rw [← x.mark_D_Secs k, take_map]
theorem StoreV.mark_D_Cache (x : StoreV) (k : Int) : (x.mark k).D.Cache.length = x.D.Cache.length := by simp [StoreV.mark, DevV.mark, TabV.mark, marks_length, markL_length]
theorem StoreV.take_D_Cache {β : Type} (f : WrV → β) (x : StoreV) (k : Int) : ((x.mark k).D.Cache.map f).take x.D.Cache.length = (x.mark k).D.Cache.map f := by rw [← x.mark_D_Cache k, take_map]
theorem StoreV.mark_T_Rows (x : StoreV) (k : Int) : (x.mark k).T.Rows.length = x.T.Rows.length := by simp [StoreV.mark, DevV.mark, TabV.mark, marks_length, markL_length]
theorem StoreV.take_T_Rows {β : Type} (f : RowV → β) (x : StoreV) (k : Int) : ((x.mark k).T.Rows.map f).take x.T.Rows.length = (x.mark k).T.Rows.map f := by rw [← x.mark_T_Rows k, take_map]
theorem StoreV.mark_T_Marks (x : StoreV) (k : Int) : (x.mark k).T.Marks.length = x.T.Marks.length := by simp [StoreV.mark, DevV.mark, TabV.mark, marks_length, markL_length]
theorem StoreV.take_T_Marks {β : Type} (f : MarkV → β) (x : StoreV) (k : Int) : ((x.mark k).T.Marks.map f).take x.T.Marks.length = (x.mark k).T.Marks.map f := by rw [← x.mark_T_Marks k, take_map]
theorem StoreV.far_le {x : StoreV} (hx : x.Len) (k : Int) : k ≤ x.far k ∧ x.far k ≤ k + 17592204918784 := by
  obtain ⟨h0, h1⟩ := hx
  have w0 := DevV.far_le h0 k
  have w1 := TabV.far_le h1 (x.D.far k)
  simp only [StoreV.far]
  omega
def x_l_eqStore : FnX := ⟨27, [.tmp 4],
  .q [.v 2 0, .v 3 1, .F 4]
 (.seq (.q [.f 5 2 0, .L 6 4 5, .f 7 3 0, .L 8 4 7, .c 9 40 [6, 8], .N 10 9]
 (.c 10 (.q [.F 4]
 .ret)))
 (.seq (.q [.f 11 2 4, .L 12 3 11, .f 13 3 4, .L 14 3 13, .c 15 41 [12, 14], .N 16 15]
 (.c 16 (.q [.F 4]
 .ret)))
 (.seq (.q [.f 17 2 7, .l 18 17, .f 19 3 7, .l 20 19, .b 21 .neq 18 20]
 (.c 21 (.q [.F 4]
 .ret)))
 (.seq (.q [.f 22 2 8, .l 23 22, .f 24 3 8, .l 25 24, .b 26 .neq 23 25]
 (.c 26 (.q [.F 4]
 .ret)))
 (.q [.T 4]
 .ret)))))⟩
abbrev C_l_eqStore (Te : TE) : Prop := ∀ (x y : StoreV) (hx : x.Len), Te 22 [.agg (x.enc false), .agg (y.enc false)] ⟨[.one (bT (decide (x = y)))], [(x.enc false), (y.enc false)]⟩
theorem r_l_eqStore {Te : TE} (c_l_eqDev : C_l_eqDev Te) (c_l_eqTab : C_l_eqTab Te) : C_l_eqStore (RF Te x_l_eqStore) := by
  intro x y hx
  refine run0 ?_
  obtain ⟨h0, h1⟩ := hx
  have key : (x = y) ↔ x.D = y.D ∧ x.T = y.T ∧ x.Gen = y.Gen ∧ x.Place = y.Place := by cases x; cases y; simp
  simp only [key]
  clear key
  simp -implicitDefEqProofs only [x_l_eqStore, go_sem]
  refine .of (c_l_eqDev _ _ h0) ?_
  simp -implicitDefEqProofs only [go_sem]
  refine ⟨fun q => ?_, fun q => ?_⟩
  · have n0 : ¬ (x.D = y.D) := by simpa using q
    simp only [n0, false_and, and_false, true_and, decide_false]
  have e0 : x.D = y.D := by simpa using q
  clear q
  refine .of (c_l_eqTab _ _ h1) ?_
  simp -implicitDefEqProofs only [go_sem]
  refine ⟨fun q => ?_, fun q => ?_⟩
  · have n1 : ¬ (x.T = y.T) := by simpa using q
    simp only [e0, n1, false_and, and_false, true_and, decide_false]
  have e1 : x.T = y.T := by simpa using q
  clear q
  refine ⟨fun q => ?_, fun q => ?_⟩
  · have n2 : ¬ (x.Gen = y.Gen) := by simpa using q
    simp only [e0, e1, n2, false_and, and_false, true_and, decide_false]
  have e2 : x.Gen = y.Gen := by simpa using q
  clear q
  refine ⟨fun q => ?_, fun q => ?_⟩
  · have n3 : ¬ (x.Place = y.Place) := by simpa using q
    simp only [e0, e1, e2, n3, false_and, and_false, true_and, decide_false]
  have e3 : x.Place = y.Place := by simpa using q
  clear q
  simp only [e0, e1, e2, e3, true_and, and_true, decide_true]
def x_l_markStore : FnX := ⟨14, [.tmp 4],
  .q [.v 2 0, .i 4 0]
 (.q [.f 5 2 0, .L 6 4 5, .m 7 1, .op 8 (.io 47 (.t 6) [(.t 7)]), .m 1 8]
 (.q [.f 9 2 4, .L 10 3 9, .m 11 1, .op 12 (.io 48 (.t 10) [(.t 11)]), .m 1 12]
 (.q [.m 13 1, .m 4 13]
 .ret)))⟩
abbrev C_l_markStore (Te : TE) : Prop := ∀ (x : StoreV) (k : Int) (hx : x.Len) (hk : 0 ≤ k ∧ k ≤ 2 ^ 42), Te 27 [.agg (x.enc true), .one (iT k)] ⟨[.one (iT (x.far k))], [(x.mark k).enc true, [iT k]]⟩
theorem r_l_markStore {Te : TE} (c_l_markDev : C_l_markDev Te) (c_l_markTab : C_l_markTab Te) : C_l_markStore (RF Te x_l_markStore) := by
  intro x k hx hk
  refine run0 ?_
  obtain ⟨h0, h1⟩ := hx
  simp -implicitDefEqProofs only [x_l_markStore, go_sem]
  repeat (refine ⟨by decide, ?_⟩)
  refine .of (c_l_markDev _ _ h0 (by omega)) ?_
  simp -implicitDefEqProofs only [go_sem]
  repeat (refine back_bif (by simp -implicitDefEqProofs only [go_sem]) ?_; simp -implicitDefEqProofs only [go_sem])
  have w0 := DevV.far_le h0 k
  repeat (refine ⟨by decide, ?_⟩)
  refine .of (c_l_markTab _ _ h1 (by omega)) ?_
  simp -implicitDefEqProofs only [go_sem]
  repeat (refine back_bif (by simp -implicitDefEqProofs only [go_sem]) ?_; simp -implicitDefEqProofs only [go_sem])
  have w1 := TabV.far_le h1 (x.D.far k)
  rfl
def x_l_heldStore : FnX := ⟨18, [.tmp 4],
  .q [.v 2 0, .i 4 0]
 (.q [.f 5 2 0, .L 6 4 5, .m 7 1, .c 8 49 [6, 7], .m 1 8]
 (.seq (.q [.m 9 1, .B 10 .lss 9 0]
 (.c 10 (.q [.i 4 (-1)]
 .ret)))
 (.q [.f 11 2 4, .L 12 3 11, .m 13 1, .c 14 50 [12, 13], .m 1 14]
 (.seq (.q [.m 15 1, .B 16 .lss 15 0]
 (.c 16 (.q [.i 4 (-1)]
 .ret)))
 (.q [.m 17 1, .m 4 17]
 .ret)))))⟩
abbrev C_l_heldStore (Te : TE) : Prop := ∀ (x : StoreV) (k : Int) (hx : x.Len) (hk : 0 ≤ k ∧ k ≤ 2 ^ 42), Te 28 [.agg ((x.mark k).enc false), .one (iT k)] ⟨[.one (iT (x.far k))], [(x.mark k).enc false, [iT k]]⟩
theorem r_l_heldStore {Te : TE} (c_l_heldDev : C_l_heldDev Te) (c_l_heldTab : C_l_heldTab Te) : C_l_heldStore (RF Te x_l_heldStore) := by
  intro x k hx hk
  refine run0 ?_
  obtain ⟨h0, h1⟩ := hx
  simp -implicitDefEqProofs only [x_l_heldStore, go_sem]
  refine .of (c_l_heldDev x.D _ h0 (by omega)) ?_
  simp -implicitDefEqProofs only [go_sem]
  have w0 := DevV.far_le h0 k
  refine ⟨fun q => by simp only [decide_eq_true_eq] at q; omega, fun _ => ?_⟩
  refine .of (c_l_heldTab x.T _ h1 (by omega)) ?_
  simp -implicitDefEqProofs only [go_sem]
  have w1 := TabV.far_le h1 (x.D.far k)
  refine ⟨fun q => by simp only [decide_eq_true_eq] at q; omega, fun _ => ?_⟩
  rfl
structure NodeV where
  S : StoreV
  Cs : Int
  deriving DecidableEq
abbrev NodeV.enc (o : Bool) (x : NodeV) : List Go.X.T := [slT o 1 (fun y => [slT o 1 uR y]) x.S.D.Secs, slT o 2 (WrV.enc o) x.S.D.Cache, iT x.S.D.Fuse, bT x.S.D.Down, slT o 7 (RowV.enc o) x.S.T.Rows, iT x.S.T.Phase, slT o 3 MarkV.row x.S.T.Marks, iT x.S.Gen, iT x.S.Place, iT x.Cs]
def NodeV.In (n : Nat) (x : NodeV) : Prop := x.S.In (n)
theorem NodeV.In.mono {x : NodeV} {n m : Nat} (h : x.In n) (hn : n ≤ m) : x.In m := by
  simp only [NodeV.In] at h ⊢
  exact h.mono hn
def szNode (x : NodeV) (k : Int) : Int := szAll [(szStore x.S)] k
theorem szNode_sane (x : NodeV) : Sane (szNode x) := Sane.all (.cons (szStore_sane _) .nil)
theorem szNode_in {x : NodeV} {k : Int} {n : Nat} (hk : 0 ≤ k) (hn : k ≤ n) (h : 0 ≤ szNode x k) : x.In n := by
  obtain ⟨⟨j0, a0, b0, c0⟩, _⟩ := szAll_ex (.cons (szStore_sane _) .nil) hk hn h
  show x.S.In (n)
  exact (szStore_in a0 b0 c0)
def NodeV.Len (x : NodeV) : Prop := x.S.Len
theorem NodeV.In.len {x : NodeV} {n : Nat} (h : x.In n) (hn : n ≤ 2 ^ 21) : x.Len := by
  have h0 : x.S.In (n) := h
  exact (h0).len hn
def NodeV.mark (x : NodeV) (k : Int) : NodeV := ⟨x.S.mark (k), x.Cs⟩
def NodeV.far (x : NodeV) (k : Int) : Int := x.S.far (k)
theorem NodeV.mark_S_D_Secs (x : NodeV) (k : Int) : (x.mark k).S.D.Secs.length = x.S.D.Secs.length := by simp [NodeV.mark, StoreV.mark, DevV.mark, TabV.mark, marks_length, markL_length]
theorem NodeV.take_S_D_Secs {β : Type} (f : List UInt8 → β) (x : NodeV) (k : Int) : ((x.mark k).S.D.Secs.map f).take x.S.D.Secs.length = (x.mark k).S.D.Secs.map f := by rw [← x.mark_S_D_Secs k, take_map]
theorem NodeV.mark_S_D_Cache (x : NodeV) (k : Int) : (x.mark k).S.D.Cache.length = x.S.D.Cache.length := by simp [NodeV.mark, StoreV.mark, DevV.mark, TabV.mark, marks_length, markL_length]
theorem NodeV.take_S_D_Cache {β : Type} (f : WrV → β) (x : NodeV) (k : Int) : ((x.mark k).S.D.Cache.map f).take x.S.D.Cache.length = (x.mark k).S.D.Cache.map f := by rw [← x.mark_S_D_Cache k, take_map]
theorem NodeV.mark_S_T_Rows (x : NodeV) (k : Int) : (x.mark k).S.T.Rows.length = x.S.T.Rows.length := by simp [NodeV.mark, StoreV.mark, DevV.mark, TabV.mark, marks_length, markL_length]
theorem NodeV.take_S_T_Rows {β : Type} (f : RowV → β) (x : NodeV) (k : Int) : ((x.mark k).S.T.Rows.map f).take x.S.T.Rows.length = (x.mark k).S.T.Rows.map f := by rw [← x.mark_S_T_Rows k, take_map]
theorem NodeV.mark_S_T_Marks (x : NodeV) (k : Int) : (x.mark k).S.T.Marks.length = x.S.T.Marks.length := by simp [NodeV.mark, StoreV.mark, DevV.mark, TabV.mark, marks_length, markL_length]
theorem NodeV.take_S_T_Marks {β : Type} (f : MarkV → β) (x : NodeV) (k : Int) : ((x.mark k).S.T.Marks.map f).take x.S.T.Marks.length = (x.mark k).S.T.Marks.map f := by rw [← x.mark_S_T_Marks k, take_map]
theorem NodeV.far_le {x : NodeV} (hx : x.Len) (k : Int) : k ≤ x.far k ∧ x.far k ≤ k + 17592204918784 := by
  have h0 : x.S.Len := hx
  have w0 := StoreV.far_le h0 k
  simp only [NodeV.far]
  omega
def x_l_eqNode : FnX := ⟨16, [.tmp 4],
  .q [.v 2 0, .v 3 1, .F 4]
 (.seq (.q [.f 5 2 0, .L 6 9 5, .f 7 3 0, .L 8 9 7, .c 9 22 [6, 8], .N 10 9]
 (.c 10 (.q [.F 4]
 .ret)))
 (.seq (.q [.f 11 2 9, .l 12 11, .f 13 3 9, .l 14 13, .b 15 .neq 12 14]
 (.c 15 (.q [.F 4]
 .ret)))
 (.q [.T 4]
 .ret)))⟩
abbrev C_l_eqNode (Te : TE) : Prop := ∀ (x y : NodeV) (hx : x.Len), Te 9 [.agg (x.enc false), .agg (y.enc false)] ⟨[.one (bT (decide (x = y)))], [(x.enc false), (y.enc false)]⟩
theorem r_l_eqNode {Te : TE} (c_l_eqStore : C_l_eqStore Te) : C_l_eqNode (RF Te x_l_eqNode) := by
  intro x y hx
  refine run0 ?_
  have h0 : x.S.Len := hx
  have key : (x = y) ↔ x.S = y.S ∧ x.Cs = y.Cs := by cases x; cases y; simp
  simp only [key]
  clear key
  simp -implicitDefEqProofs only [x_l_eqNode, go_sem]
  refine .of (c_l_eqStore _ _ h0) ?_
  simp -implicitDefEqProofs only [go_sem]
  refine ⟨fun q => ?_, fun q => ?_⟩
  · have n0 : ¬ (x.S = y.S) := by simpa using q
    simp only [n0, false_and, and_false, true_and, decide_false]
  have e0 : x.S = y.S := by simpa using q
  clear q
  refine ⟨fun q => ?_, fun q => ?_⟩
  · have n1 : ¬ (x.Cs = y.Cs) := by simpa using q
    simp only [e0, n1, false_and, and_false, true_and, decide_false]
  have e1 : x.Cs = y.Cs := by simpa using q
  clear q
  simp only [e0, e1, true_and, and_true, decide_true]
def x_l_markNode : FnX := ⟨10, [.tmp 4],
  .q [.v 2 0, .i 4 0]
 (.q [.f 5 2 0, .L 6 9 5, .m 7 1, .op 8 (.io 27 (.t 6) [(.t 7)]), .m 1 8]
 (.q [.m 9 1, .m 4 9]
 .ret))⟩
abbrev C_l_markNode (Te : TE) : Prop := ∀ (x : NodeV) (k : Int) (hx : x.Len) (hk : 0 ≤ k ∧ k ≤ 2 ^ 42), Te 12 [.agg (x.enc true), .one (iT k)] ⟨[.one (iT (x.far k))], [(x.mark k).enc true, [iT k]]⟩
theorem r_l_markNode {Te : TE} (c_l_markStore : C_l_markStore Te) : C_l_markNode (RF Te x_l_markNode) := by
  intro x k hx hk
  refine run0 ?_
  have h0 : x.S.Len := hx
  simp -implicitDefEqProofs only [x_l_markNode, go_sem]
  repeat (refine ⟨by decide, ?_⟩)
  refine .of (c_l_markStore _ _ h0 (by omega)) ?_
  simp -implicitDefEqProofs only [go_sem]
  repeat (refine back_bif (by simp -implicitDefEqProofs only [go_sem]) ?_; simp -implicitDefEqProofs only [go_sem])
  have w0 := StoreV.far_le h0 k
  rfl
def x_l_heldNode : FnX := ⟨12, [.tmp 4],
  .q [.v 2 0, .i 4 0]
 (.q [.f 5 2 0, .L 6 9 5, .m 7 1, .c 8 28 [6, 7], .m 1 8]
 (.seq (.q [.m 9 1, .B 10 .lss 9 0]
 (.c 10 (.q [.i 4 (-1)]
 .ret)))
 (.q [.m 11 1, .m 4 11]
 .ret)))⟩
abbrev C_l_heldNode (Te : TE) : Prop := ∀ (x : NodeV) (k : Int) (hx : x.Len) (hk : 0 ≤ k ∧ k ≤ 2 ^ 42), Te 13 [.agg ((x.mark k).enc false), .one (iT k)] ⟨[.one (iT (x.far k))], [(x.mark k).enc false, [iT k]]⟩
theorem r_l_heldNode {Te : TE} (c_l_heldStore : C_l_heldStore Te) : C_l_heldNode (RF Te x_l_heldNode) := by
  intro x k hx hk
  refine run0 ?_
  have h0 : x.S.Len := hx
  simp -implicitDefEqProofs only [x_l_heldNode, go_sem]
  refine .of (c_l_heldStore x.S _ h0 (by omega)) ?_
  simp -implicitDefEqProofs only [go_sem]
  have w0 := StoreV.far_le h0 k
  refine ⟨fun q => by simp only [decide_eq_true_eq] at q; omega, fun _ => ?_⟩
  rfl
structure RecV where
  Kind : Int
  R : RowV
  Key : ByteArray
  N : Int
  Who : Int
  Seq : Int
  Code : Int
  deriving DecidableEq
abbrev RecV.enc (o : Bool) (x : RecV) : List Go.X.T := [iT x.Kind, sT x.R.Key, iT x.R.Old.Tag, slT o 1 uR x.R.Old.B, iT x.R.New.Tag, slT o 1 uR x.R.New.B, iT x.R.Has, bT x.R.Aside, sT x.Key, iT x.N, iT x.Who, iT x.Seq, iT x.Code]
def RecV.In (n : Nat) (x : RecV) : Prop := x.R.In (n) ∧ x.Key.size ≤ n
theorem RecV.In.mono {x : RecV} {n m : Nat} (h : x.In n) (hn : n ≤ m) : x.In m := by
  simp only [RecV.In] at h ⊢
  exact ⟨h.1.mono hn, Nat.le_trans h.2 hn⟩
def szRec (x : RecV) (k : Int) : Int := szAll [(szRow x.R), (fun k => k - (x.Key.size : Nat))] k
theorem szRec_sane (x : RecV) : Sane (szRec x) := Sane.all (.cons (szRow_sane _) (.cons (Sane.sub _) .nil))
theorem szRec_in {x : RecV} {k : Int} {n : Nat} (hk : 0 ≤ k) (hn : k ≤ n) (h : 0 ≤ szRec x k) : x.In n := by
  obtain ⟨⟨j0, a0, b0, c0⟩, ⟨j1, a1, b1, c1⟩, _⟩ := szAll_ex (.cons (szRow_sane _) (.cons (Sane.sub _) .nil)) hk hn h
  exact ⟨(szRow_in a0 b0 c0), (by have q : (0 : Int) ≤ j1 - _ := c1; omega)⟩
def RecV.Len (x : RecV) : Prop := x.R.Len
theorem RecV.In.len {x : RecV} {n : Nat} (h : x.In n) (hn : n ≤ 2 ^ 21) : x.Len := by
  obtain ⟨h0, h1⟩ := h
  exact (h0).len hn
def RecV.mark (x : RecV) (k : Int) : RecV := ⟨x.Kind, x.R.mark (k), x.Key, x.N, x.Who, x.Seq, x.Code⟩
def RecV.far (x : RecV) (k : Int) : Int := x.R.far (k)
theorem RecV.mark_R_Old_B (x : RecV) (k : Int) : (x.mark k).R.Old.B.length = x.R.Old.B.length := by simp [RecV.mark, RowV.mark, CellV.mark, marks_length, markL_length]
theorem RecV.take_R_Old_B {β : Type} (f : UInt8 → β) (x : RecV) (k : Int) : ((x.mark k).R.Old.B.map f).take x.R.Old.B.length = (x.mark k).R.Old.B.map f := by rw [← x.mark_R_Old_B k, take_map]
theorem RecV.mark_R_New_B (x : RecV) (k : Int) : (x.mark k).R.New.B.length = x.R.New.B.length := by simp [RecV.mark, RowV.mark, CellV.mark, marks_length, markL_length]
theorem RecV.take_R_New_B {β : Type} (f : UInt8 → β) (x : RecV) (k : Int) : ((x.mark k).R.New.B.map f).take x.R.New.B.length = (x.mark k).R.New.B.map f := by rw [← x.mark_R_New_B k, take_map]
theorem RecV.far_le {x : RecV} (hx : x.Len) (k : Int) : k ≤ x.far k ∧ x.far k ≤ k + 4194304 := by
  have h0 : x.R.Len := hx
  have w0 := RowV.far_le h0 k
  simp only [RecV.far]
  omega
structure ActV where
  Kind : Int
  Who : Int
  Seq : Int
  Key : ByteArray
  Text : ByteArray
  Code : Int
  deriving DecidableEq
abbrev ActV.row (x : ActV) : List Go.X.T := [iT x.Kind, iT x.Who, iT x.Seq, sT x.Key, sT x.Text, iT x.Code]
def ActV.In (n : Nat) (x : ActV) : Prop := x.Key.size ≤ n ∧ x.Text.size ≤ n
theorem ActV.In.mono {x : ActV} {n m : Nat} (h : x.In n) (hn : n ≤ m) : x.In m := by
  simp only [ActV.In] at h ⊢
  exact ⟨Nat.le_trans h.1 hn, Nat.le_trans h.2 hn⟩
def szAct (x : ActV) (k : Int) : Int := szAll [(fun k => k - (x.Key.size : Nat)), (fun k => k - (x.Text.size : Nat))] k
theorem szAct_sane (x : ActV) : Sane (szAct x) := Sane.all (.cons (Sane.sub _) (.cons (Sane.sub _) .nil))
theorem szAct_in {x : ActV} {k : Int} {n : Nat} (hk : 0 ≤ k) (hn : k ≤ n) (h : 0 ≤ szAct x k) : x.In n := by
  obtain ⟨⟨j0, a0, b0, c0⟩, ⟨j1, a1, b1, c1⟩, _⟩ := szAll_ex (.cons (Sane.sub _) (.cons (Sane.sub _) .nil)) hk hn h
  exact ⟨(by have q : (0 : Int) ≤ j0 - _ := c0; omega), (by have q : (0 : Int) ≤ j1 - _ := c1; omega)⟩
def mkAct (k : Int) : ActV := ⟨k, k + 1, k + 1 + 1, mkS (k + 1 + 1 + 1), mkS (k + 1 + 1 + 1 + 1), k + 1 + 1 + 1 + 1 + 1⟩
end Go.X

/- F -/
namespace Go.X
set_option maxRecDepth 100000
set_option maxHeartbeats 8000000
/-- n lies between. -/
def win (n a b : Int) : Bool := decide (n ≥ a) && decide (n ≤ b)
def x_i_within : FnX := ⟨15, [.tmp 6],
  .q [.F 6]
 (.q [.m 7 0, .m 8 1, .b 9 .geq 7 8, .m 10 9, ⟨(some (10, true)), some 11, 11, .mv (.t 0)⟩, ⟨(some (10, true)), some 12, 12, .mv (.t 2)⟩, ⟨(some (10, true)), some 13, 13, .bin .leq (.t 11) (.t 12)⟩, .a 14 10 13, .m 6 14]
 .ret)⟩
abbrev C_i_within (Te : TE) : Prop := ∀ (n a b : Int), Te 25 [.one (iT n), .one (iT a), .one (iT b)] ⟨[.one (bT (win n a b))], [[iT n], [iT a], [iT b]]⟩
theorem r_i_within {Te : TE} : C_i_within (RF Te x_i_within) := by
  intro n a b
  refine run0 ?_
  simp -implicitDefEqProofs only [x_i_within, go_sem]
  refine bif_cases (fun h => ?_) (fun h => ?_) <;> simp -implicitDefEqProofs only [h, go_sem, win]
def x_s_l1In : FnX := ⟨15, [.tmp 6],
  .q [.F 6]
 (.q [.m 7 0, .m 8 1, .b 9 .geq 7 8, .m 10 9, ⟨(some (10, true)), some 11, 11, .mv (.t 0)⟩, ⟨(some (10, true)), some 12, 12, .mv (.t 2)⟩, ⟨(some (10, true)), some 13, 13, .bin .leq (.t 11) (.t 12)⟩, .a 14 10 13, .m 6 14]
 .ret)⟩
abbrev C_s_l1In (Te : TE) : Prop := ∀ (n a b : Int), Te 23 [.one (iT n), .one (iT a), .one (iT b)] ⟨[.one (bT (win n a b))], [[iT n], [iT a], [iT b]]⟩
theorem r_s_l1In {Te : TE} : C_s_l1In (RF Te x_s_l1In) := by
  intro n a b
  refine run0 ?_
  simp -implicitDefEqProofs only [x_s_l1In, go_sem]
  refine bif_cases (fun h => ?_) (fun h => ?_) <;> simp -implicitDefEqProofs only [h, go_sem, win]
def x_i_isWord : FnX := ⟨5, [.tmp 2],
  .q [.F 2]
 (.q [.m 3 0, .op 4 (.call 25 [0, 0, 0] [(.t 3), (.i 0), (.i 65535)]), .m 2 4]
 .ret)⟩
abbrev C_i_isWord (Te : TE) : Prop := ∀ (n : Int), Te 123 [.one (iT n)] ⟨[.one (bT (win n 0 65535))], [[iT n]]⟩
theorem r_i_isWord {Te : TE} (c_i_within : C_i_within Te) : C_i_isWord (RF Te x_i_isWord) := by
  intro n
  refine run0 ?_
  simp -implicitDefEqProofs only [x_i_isWord, go_sem]
  refine .of (c_i_within _ _ _) ?_
  simp -implicitDefEqProofs only [go_sem]
def x_s_l1Word : FnX := ⟨5, [.tmp 2],
  .q [.F 2]
 (.q [.m 3 0, .op 4 (.call 23 [0, 0, 0] [(.t 3), (.i 0), (.i 65535)]), .m 2 4]
 .ret)⟩
abbrev C_s_l1Word (Te : TE) : Prop := ∀ (n : Int), Te 113 [.one (iT n)] ⟨[.one (bT (win n 0 65535))], [[iT n]]⟩
theorem r_s_l1Word {Te : TE} (c_s_l1In : C_s_l1In Te) : C_s_l1Word (RF Te x_s_l1Word) := by
  intro n
  refine run0 ?_
  simp -implicitDefEqProofs only [x_s_l1Word, go_sem]
  refine .of (c_s_l1In _ _ _) ?_
  simp -implicitDefEqProofs only [go_sem]
end Go.X

/- K -/
namespace Go.X
set_option maxRecDepth 100000
set_option maxHeartbeats 8000000
abbrev bytesR (o : Bool) (l : List UInt8) : List T := [slT o 1 uR l]
theorem toNat_ofInt (a : Nat) (h : a < 2 ^ 62) : (BitVec.ofInt 64 (a : Int)).toNat = a := by
  rw [BitVec.toNat_ofInt]
  omega
theorem xor_nat (a b : Nat) (ha : a < 2 ^ 62) (hb : b < 2 ^ 62) : xorK .i64 (a : Int) (b : Int) = ((a ^^^ b : Nat) : Int) := by
  rw [xorK_def, show IntKind.i64.bits = 64 from rfl, BitVec.toNat_xor, toNat_ofInt a ha, toNat_ofInt b hb, IntWalk.i64_in]
  have := Nat.xor_lt_two_pow ha hb
  omega
theorem or_nat (a b : Nat) (ha : a < 2 ^ 62) (hb : b < 2 ^ 62) : orK .i64 (a : Int) (b : Int) = ((a ||| b : Nat) : Int) := by
  rw [orK_def, show IntKind.i64.bits = 64 from rfl, BitVec.toNat_or, toNat_ofInt a ha, toNat_ofInt b hb, IntWalk.i64_in]
  have := Nat.or_lt_two_pow ha hb
  omega
theorem and_nat (a b : Nat) (ha : a < 2 ^ 62) (hb : b < 2 ^ 62) : andK .i64 (a : Int) (b : Int) = ((a &&& b : Nat) : Int) := by
  rw [andK_def, show IntKind.i64.bits = 64 from rfl, BitVec.toNat_and, toNat_ofInt a ha, toNat_ofInt b hb, IntWalk.i64_in]
  have := Nat.and_lt_two_pow a hb
  omega
theorem min8 : Nat.min 8 64 = 8 := rfl
theorem and255 (a : Int) : mkU (andK .i64 a 255) = mkU a := by
  rw [andK_def]
  show mkU (IntKind.i64.wrap ((BitVec.ofInt 64 a &&& BitVec.ofInt 64 255).toNat)) = mkU a
  have e : (BitVec.ofInt 64 a &&& BitVec.ofInt 64 255).toNat = (a % 256).toNat := by
    rw [BitVec.toNat_and, BitVec.toNat_ofInt, show (BitVec.ofInt 64 255).toNat = 2 ^ 8 - 1 by decide, Nat.and_two_pow_sub_one_eq_mod]
    omega
  rw [e, IntWalk.i64_in _ (by omega)]
  simp only [mkU]
  congr 1
  omega
theorem ofBytes_eq (l : List UInt8) : ofBytes l = l.map uR := rfl
def hiB (n : Int) : UInt8 := mkU (n.fdiv 256)
def putW (b : List UInt8) (n : Int) : List UInt8 := b ++ [hiB n, mkU n]
def putText (b : List UInt8) (s : ByteArray) : List UInt8 := if (s.size : Int) > 60 then b else putW b s.size ++ s.data.toList
def sumBit (s : Nat) : Nat := if 2 * s > 65535 then 2 * s ^^^ 69665 else 2 * s
def sumBits : Nat → Nat → Nat
  | 0, s => s
  | n + 1, s => sumBit (sumBits n s)
def sumByte (s : Nat) (b : UInt8) : Nat := sumBits 8 (s ^^^ (256 * b.toNat))
def sum (l : List UInt8) : Nat := l.foldl sumByte 65535 &&& 65535
theorem sumBit_lt {s : Nat} (h : s < 65536) : sumBit s < 65536 := by
  unfold sumBit
  split
  · rename_i q
    have h1 : 2 * s < 2 ^ 17 := by omega
    refine Nat.lt_pow_two_of_testBit (n := 16) _ fun i hi => ?_
    rw [Nat.testBit_xor]
    by_cases h16 : i = 16
    · subst h16
      have : (2 * s).testBit 16 = true := by
        rw [Nat.testBit_eq_decide_div_mod_eq]
        have : 2 * s / 2 ^ 16 = 1 := by omega
        simp [this]
      rw [this]; decide
    · rw [Nat.testBit_lt_two_pow (Nat.lt_of_lt_of_le h1 (Nat.pow_le_pow_right (by decide) (by omega))), Nat.testBit_lt_two_pow (Nat.lt_of_lt_of_le (show 69665 < 2 ^ 17 by decide) (Nat.pow_le_pow_right (by decide) (by omega)))]
      rfl
  · omega
theorem sumBits_lt (n : Nat) {s : Nat} (h : s < 65536) : sumBits n s < 65536 := by
  induction n with
  | zero => exact h
  | succ n ih => exact sumBit_lt ih
theorem sumX_lt {s : Nat} (b : UInt8) (h : s < 65536) : s ^^^ (256 * b.toNat) < 65536 := Nat.xor_lt_two_pow (n := 16) h (by have := b.toNat_lt; omega)
theorem sumByte_lt {s : Nat} (b : UInt8) (h : s < 65536) : sumByte s b < 65536 := sumBits_lt 8 (sumX_lt b h)
def x_i_joined : FnX := ⟨18, [.tmp 2],
  .q [.op 2 (.mv (.k (.one (.nils 1))))]
 (.q [.op 6 (.bslice 1 []), .m 3 6]
 (.seq (.q [.m 7 0, .n 8 7, .i 9 0]
 (.block 0 (.loop [3, 7, 8, 9] (.q [.b 10 .lss 9 8]
 (.seq (.cond 10 .skip (.exit 0))
 (.seq (.block 1 (.q [.x 11 1 7 9, .l 12 11, .m 5 12]
 (.reg [.m 13 3, .m 14 5, .op 15 (.app 1 1 (.t 13) (.t 14)), .m 3 15])))
 (.reg [.B 16 .add 9 1, .m 9 16])))))))
 (.norm [3] (.q [.m 17 3, .m 2 17]
 .ret))))⟩
abbrev C_i_joined (Te : TE) : Prop := ∀ (ps : List (List UInt8)) (h : ps.flatten.length ≤ 2 ^ 31) (h2 : ps.length ≤ 2 ^ 31), Te 121 [.one (slT false 1 (bytesR false) ps)] ⟨[.one (slT true 1 uR ps.flatten)], [[slT false 1 (bytesR false) ps]]⟩
theorem r_i_joined {Te : TE} : C_i_joined (RF Te x_i_joined) := by
  intro ps h h2
  refine run0 ?_
  simp -implicitDefEqProofs only [x_i_joined, go_sem]
  refine loop_of (σ := Nat × List UInt8) (fun x => ⟨[(3, .one (.rf 19 0 [] 1 0 x.2.length)), (7, .one (.ro 1 (ps.map (bytesR false)))), (8, .one (.pv (.int .i64 ps.length))), (9, .one (.pv (.int .i64 x.1)))], [], [(0, [slT false 1 (bytesR false) ps]), (19, [slT true 1 uR x.2])]⟩) (fun x => x.1 ≤ ps.length ∧ x.2 = (ps.take x.1).flatten) (fun x => ps.length - x.1) (0, []) ?_ ⟨Nat.zero_le _, rfl⟩ ?_
  · simp -implicitDefEqProofs only [go_sem]; rfl
  · rintro ⟨i, a⟩ ⟨hi, he⟩
    simp only at hi he
    simp -implicitDefEqProofs only [go_sem]
    refine ⟨fun h => ?_, fun h => ?_⟩
    · have hi' : i < ps.length := by simp only [decide_eq_true_eq] at h; omega
      simp -implicitDefEqProofs only [go_sem, List.getElem?_eq_getElem hi']
      have hlen : a.length + ps[i].length ≤ ps.flatten.length := by
        rw [he, ← List.length_append]
        have e := List.take_succ_eq_append_getElem hi'
        have : (ps.take i).flatten ++ ps[i] = (ps.take (i + 1)).flatten := by rw [e, List.flatten_append]; simp
        rw [this]
        have h5 : ps.flatten = (ps.take (i + 1)).flatten ++ (ps.drop (i + 1)).flatten := by rw [← List.flatten_append, List.take_append_drop]
        rw [h5, List.length_append]
        omega
      refine ⟨⟨decide_eq_true (by omega), decide_eq_true (by omega)⟩, (i + 1, a ++ ps[i]), ?_, ⟨hi', ?_⟩, by simp only; omega⟩
      · rw [IntWalk.i64_in _ (by omega)]
        rw [show List.map uR a ++ List.map uR ps[i] = List.map uR (a ++ ps[i]) from List.map_append.symm, show a.length + ps[i].length = (a ++ ps[i]).length from List.length_append.symm]
        rfl
      · rw [he, List.take_succ_eq_append_getElem hi', List.flatten_append]
        simp
    · have hle : ps.length ≤ i := by simp only [decide_eq_false_iff_not] at h; omega
      rw [List.take_of_length_le hle] at he
      subst he
      simp -implicitDefEqProofs only [go_sem]
def x_i_Sum : FnX := ⟨29, [.tmp 2],
  .q [.i 2 0]
 (.q [.i 3 65535]
 (.seq (.q [.m 6 0, .n 7 6, .i 8 0]
 (.block 0 (.loop [3, 6, 7, 8] (.q [.b 9 .lss 8 7]
 (.seq (.cond 9 .skip (.exit 0))
 (.seq (.block 1 (.q [.x 10 1 6 8, .l 11 10, .m 5 11]
 (.q [.m 12 3, .m 13 5, .op 14 (.conv (.int .i64) (.t 13)), .op 15 (.bin .mul (.i 256) (.t 14)), .b 16 .xor 12 15, .m 3 16]
 (.q [.i 17 0]
 (.block 2 (.loop [3, 6, 7, 8, 17] (.q [.B 18 .lss 17 8]
 (.seq (.cond 18 .skip (.exit 2))
 (.seq (.block 3 (.q [.m 19 3, .B 20 .mul 19 2, .m 3 20]
 (.q [.m 21 3, .B 22 .gtr 21 65535]
 (.c 22 (.reg [.m 23 3, .B 24 .xor 23 69665, .m 3 24])))))
 (.reg [.B 25 .add 17 1, .m 17 25]))))))))))
 (.norm [3, 6, 7, 8] (.reg [.B 26 .add 8 1, .m 8 26]))))))))
 (.norm [3] (.q [.m 27 3, .B 28 .and 27 65535, .m 2 28]
 .ret))))⟩
abbrev C_i_Sum (Te : TE) : Prop := ∀ (l : List UInt8) (h : l.length ≤ 2 ^ 31), Te 127 [.one (slT false 1 uR l)] ⟨[.one (iT (sum l))], [[slT false 1 uR l]]⟩
theorem r_i_Sum {Te : TE} : C_i_Sum (RF Te x_i_Sum) := by
  intro l h
  refine run0 ?_
  simp -implicitDefEqProofs only [x_i_Sum, go_sem]
  refine loop_of (σ := Nat × Nat) (fun x => ⟨[(3, .one (.pv (.int .i64 x.2))), (6, .one (.ro 1 (l.map uR))), (7, .one (.pv (.int .i64 l.length))), (8, .one (.pv (.int .i64 x.1)))], [], [(0, [slT false 1 uR l])]⟩) (fun x => x.1 ≤ l.length ∧ x.2 < 65536 ∧ x.2 = (l.take x.1).foldl sumByte 65535) (fun x => l.length - x.1) (0, 65535) ?_ ⟨Nat.zero_le _, by decide, rfl⟩ ?_
  · simp -implicitDefEqProofs only [go_sem]; rfl
  · rintro ⟨i, s⟩ ⟨hi, hs, he⟩
    simp only at hi hs he
    simp -implicitDefEqProofs only [go_sem]
    refine ⟨fun h => ?_, fun h => ?_⟩
    · have hi' : i < l.length := by simp only [decide_eq_true_eq] at h; omega
      have hb := l[i].toNat_lt
      have e1 : IntKind.i64.wrap (l[i].toNat : Int) = (l[i].toNat : Int) := IntWalk.i64_in _ (by omega)
      have e2 : IntKind.i64.wrap (256 * (l[i].toNat : Int)) = ((256 * l[i].toNat : Nat) : Int) := by rw [IntWalk.i64_in _ (by omega)]; rfl
      simp -implicitDefEqProofs only [go_sem, List.getElem?_eq_getElem hi', e1, e2, xor_nat s (256 * l[i].toNat) (by omega) (by omega)]
      have hx := sumX_lt l[i] hs
      have e9 : sumByte s l[i] = sumBits 8 (s ^^^ (256 * l[i].toNat)) := rfl
      generalize s ^^^ (256 * l[i].toNat) = S at *
      refine loop_of (σ := Nat × Nat) (fun x => ⟨[(3, .one (.pv (.int .i64 x.2))), (6, .one (.ro 1 (l.map uR))), (7, .one (.pv (.int .i64 l.length))), (8, .one (.pv (.int .i64 i))), (17, .one (.pv (.int .i64 x.1)))], [], [(0, [slT false 1 uR l])]⟩) (fun x => x.1 ≤ 8 ∧ x.2 = sumBits x.1 S) (fun x => 8 - x.1) (0, S) ?_ ⟨Nat.zero_le _, rfl⟩ ?_
      · simp -implicitDefEqProofs only [go_sem]; rfl
      · rintro ⟨j, v⟩ ⟨hj, hv⟩
        simp only at hj hv
        have hz : v < 65536 := by rw [hv]; exact sumBits_lt j hx
        have e3 : IntKind.i64.wrap ((v : Int) * 2) = ((2 * v : Nat) : Int) := by rw [IntWalk.i64_in _ (by omega)]; omega
        have e4 := xor_nat (2 * v) 69665 (by omega) (by decide)
        have e5 : ((69665 : Nat) : Int) = 69665 := rfl
        rw [e5] at e4
        have e6 : sumBits (j + 1) S = sumBit v := by rw [hv]; rfl
        simp -implicitDefEqProofs only [go_sem]
        refine ⟨fun h => ?_, fun h => ?_⟩
        · have hj' : j < 8 := by simp only [decide_eq_true_eq] at h; omega
          simp -implicitDefEqProofs only [go_sem, e3]
          refine ⟨fun h6 => ?_, fun h6 => ?_⟩
          · simp -implicitDefEqProofs only [go_sem, e4]
            refine ⟨(j + 1, 2 * v ^^^ 69665), by rw [IntWalk.i64_in _ (by omega)]; rfl, ⟨hj', ?_⟩, by simp only; omega⟩
            rw [e6, sumBit, if_pos (by simp only [decide_eq_true_eq] at h6; omega)]
          · refine ⟨(j + 1, 2 * v), by rw [IntWalk.i64_in _ (by omega)]; rfl, ⟨hj', ?_⟩, by simp only; omega⟩
            rw [e6, sumBit, if_neg (by simp only [decide_eq_false_iff_not] at h6; omega)]
        · have hj' : j = 8 := by simp only [decide_eq_false_iff_not] at h; omega
          subst hj'
          rw [← e9] at hv
          refine ⟨(i + 1, v), by rw [IntWalk.i64_in _ (by omega)]; rfl, ⟨hi', hz, ?_⟩, by simp only; omega⟩
          simp only
          rw [List.take_succ_eq_append_getElem hi', List.foldl_append, ← he, hv, List.foldl_cons, List.foldl_nil]
    · have hle : l.length ≤ i := by simp only [decide_eq_false_iff_not] at h; omega
      rw [List.take_of_length_le hle] at he
      have e7 := and_nat s 65535 (by omega) (by decide)
      have e8 : ((65535 : Nat) : Int) = 65535 := rfl
      rw [e8] at e7
      simp -implicitDefEqProofs only [go_sem, e7, sum, ← he]
def x_s_Sum : FnX := ⟨32, [.tmp 2],
  .q [.i 2 0]
 (.q [.i 3 65535]
 (.seq (.q [.i 4 0]
 (.block 0 (.loop [0, 3, 4] (.seq (.q [.m 6 4, .m 7 0, .n 8 7, .b 9 .lss 6 8]
 (.cond 9 .skip (.exit 0)))
 (.seq (.block 1 (.q [.m 12 3, .m 13 0, .m 14 4, .x 15 1 13 14, .l 16 15, .op 17 (.conv (.int .i64) (.t 16)), .op 18 (.bin .shl (.t 17) (.k (.one (.pv (.int .u64 8))))), .b 19 .xor 12 18, .m 3 19]
 (.q [.i 5 0]
 (.block 2 (.loop [0, 3, 4, 5] (.seq (.q [.m 20 5, .B 21 .lss 20 8]
 (.cond 21 .skip (.exit 2)))
 (.seq (.block 3 (.q [.m 24 3, .op 25 (.bin .shl (.t 24) (.k (.one (.pv (.int .u64 1))))), .m 3 25]
 (.q [.m 26 3, .B 27 .gtr 26 65535]
 (.c 27 (.reg [.m 28 3, .B 29 .xor 28 69665, .m 3 29])))))
 (.reg [.m 22 5, .B 23 .add 22 1, .m 5 23]))))))))
 (.norm [0, 3, 4] (.reg [.m 10 4, .B 11 .add 10 1, .m 4 11])))))))
 (.norm [3] (.q [.m 30 3, .B 31 .and 30 65535, .m 2 31]
 .ret))))⟩
abbrev C_s_Sum (Te : TE) : Prop := ∀ (l : List UInt8) (h : l.length ≤ 2 ^ 31), Te 117 [.one (slT false 1 uR l)] ⟨[.one (iT (sum l))], [[slT false 1 uR l]]⟩
theorem r_s_Sum {Te : TE} : C_s_Sum (RF Te x_s_Sum) := by
  intro l h
  refine run0 ?_
  simp -implicitDefEqProofs only [x_s_Sum, go_sem]
  refine loop_of (σ := Nat × Nat) (fun x => ⟨[(0, .one (.ro 1 (l.map uR))), (3, .one (.pv (.int .i64 x.2))), (4, .one (.pv (.int .i64 x.1)))], [], [(0, [slT false 1 uR l])]⟩) (fun x => x.1 ≤ l.length ∧ x.2 < 65536 ∧ x.2 = (l.take x.1).foldl sumByte 65535) (fun x => l.length - x.1) (0, 65535) ?_ ⟨Nat.zero_le _, by decide, rfl⟩ ?_
  · simp -implicitDefEqProofs only [go_sem]; rfl
  · rintro ⟨i, s⟩ ⟨hi, hs, he⟩
    simp only at hi hs he
    simp -implicitDefEqProofs only [go_sem]
    refine ⟨fun h => ?_, fun h => ?_⟩
    · have hi' : i < l.length := by simp only [decide_eq_true_eq] at h; omega
      have hb := l[i].toNat_lt
      have e1 : IntKind.i64.wrap (l[i].toNat : Int) = (l[i].toNat : Int) := IntWalk.i64_in _ (by omega)
      have e2 : IntKind.i64.wrap ((l[i].toNat : Int) * 2 ^ 8) = ((256 * l[i].toNat : Nat) : Int) := by rw [IntWalk.i64_in _ (by omega)]; omega
      simp -implicitDefEqProofs only [go_sem, List.getElem?_eq_getElem hi', min8, e1, e2, xor_nat s (256 * l[i].toNat) (by omega) (by omega)]
      have hx := sumX_lt l[i] hs
      have e9 : sumByte s l[i] = sumBits 8 (s ^^^ (256 * l[i].toNat)) := rfl
      generalize s ^^^ (256 * l[i].toNat) = S at *
      refine loop_of (σ := Nat × Nat) (fun x => ⟨[(0, .one (.ro 1 (l.map uR))), (3, .one (.pv (.int .i64 x.2))), (4, .one (.pv (.int .i64 i))), (5, .one (.pv (.int .i64 x.1)))], [], [(0, [slT false 1 uR l])]⟩) (fun x => x.1 ≤ 8 ∧ x.2 = sumBits x.1 S) (fun x => 8 - x.1) (0, S) ?_ ⟨Nat.zero_le _, rfl⟩ ?_
      · simp -implicitDefEqProofs only [go_sem]; rfl
      · rintro ⟨j, v⟩ ⟨hj, hv⟩
        simp only at hj hv
        have hz : v < 65536 := by rw [hv]; exact sumBits_lt j hx
        have e3 : IntKind.i64.wrap ((v : Int) * 2 ^ 1) = ((2 * v : Nat) : Int) := by rw [IntWalk.i64_in _ (by omega)]; omega
        have e4 := xor_nat (2 * v) 69665 (by omega) (by decide)
        have e5 : ((69665 : Nat) : Int) = 69665 := rfl
        rw [e5] at e4
        have e6 : sumBits (j + 1) S = sumBit v := by rw [hv]; rfl
        simp -implicitDefEqProofs only [go_sem]
        refine ⟨fun h => ?_, fun h => ?_⟩
        · have hj' : j < 8 := by simp only [decide_eq_true_eq] at h; omega
          simp -implicitDefEqProofs only [go_sem, show Nat.min 1 64 = 1 from rfl, e3]
          refine ⟨fun h6 => ?_, fun h6 => ?_⟩
          · simp -implicitDefEqProofs only [go_sem, e4]
            refine ⟨(j + 1, 2 * v ^^^ 69665), by rw [IntWalk.i64_in _ (by omega)]; rfl, ⟨hj', ?_⟩, by simp only; omega⟩
            rw [e6, sumBit, if_pos (by simp only [decide_eq_true_eq] at h6; omega)]
          · refine ⟨(j + 1, 2 * v), by rw [IntWalk.i64_in _ (by omega)]; rfl, ⟨hj', ?_⟩, by simp only; omega⟩
            rw [e6, sumBit, if_neg (by simp only [decide_eq_false_iff_not] at h6; omega)]
        · have hj' : j = 8 := by simp only [decide_eq_false_iff_not] at h; omega
          subst hj'
          rw [← e9] at hv
          refine ⟨(i + 1, v), by rw [IntWalk.i64_in _ (by omega)]; rfl, ⟨hi', hz, ?_⟩, by simp only; omega⟩
          simp only
          rw [List.take_succ_eq_append_getElem hi', List.foldl_append, ← he, hv, List.foldl_cons, List.foldl_nil]
    · have hle : l.length ≤ i := by simp only [decide_eq_false_iff_not] at h; omega
      rw [List.take_of_length_le hle] at he
      have e7 := and_nat s 65535 (by omega) (by decide)
      have e8 : ((65535 : Nat) : Int) = 65535 := rfl
      rw [e8] at e7
      simp -implicitDefEqProofs only [go_sem, e7, sum, ← he]
def x_i_PutW : FnX := ⟨16, [.tmp 4],
  .q [.op 4 (.mv (.k (.one (.nils 1))))]
 (.q [.m 5 0, .m 6 1, .op 7 (.bin .shr (.t 6) (.k (.one (.pv (.int .u64 8))))), .B 8 .and 7 255, .op 9 (.conv (.int .u8) (.t 8)), .m 10 1, .B 11 .and 10 255, .op 12 (.conv (.int .u8) (.t 11)), .op 13 (.bslice 1 [(.t 9), (.t 12)]), .op 14 (.bslice 1 [(.t 5), (.t 13)]), .c 15 121 [14], .m 4 15]
 .ret)⟩
abbrev C_i_PutW (Te : TE) : Prop := ∀ (b : List UInt8) (n : Int) (h : b.length ≤ 2 ^ 30), Te 124 [.one (slT false 1 uR b), .one (iT n)] ⟨[.one (slT true 1 uR (putW b n))], [[slT false 1 uR b], [iT n]]⟩
theorem r_i_PutW {Te : TE} (c_i_joined : C_i_joined Te) : C_i_PutW (RF Te x_i_PutW) := by
  intro b n h
  refine run0 ?_
  have e1 : mkU (n.fdiv (2 ^ 8)) = hiB n := rfl
  simp -implicitDefEqProofs only [x_i_PutW, go_sem, min8, mkU_wrap, and255, e1]
  refine .of (c_i_joined [b, [hiB n, mkU n]] (by simp; omega) (by simp)) ?_
  have e2 : [b, [hiB n, mkU n]].flatten = putW b n := by simp [putW]
  simp -implicitDefEqProofs only [go_sem, e2]
def x_s_PutW : FnX := ⟨17, [.tmp 4],
  .q [.op 4 (.mv (.k (.one (.nils 1))))]
 (.q [.op 6 (.bslice 1 []), .m 7 0, .op 8 (.app 1 1 (.t 6) (.t 7)), .m 5 8]
 (.q [.m 9 5, .m 10 1, .op 11 (.bin .shr (.t 10) (.k (.one (.pv (.int .u64 8))))), .op 12 (.conv (.int .u8) (.t 11)), .m 13 1, .op 14 (.conv (.int .u8) (.t 13)), .op 15 (.bslice 1 [(.t 12), (.t 14)]), .op 16 (.app 1 1 (.t 9) (.t 15)), .m 4 16]
 .ret))⟩
abbrev C_s_PutW (Te : TE) : Prop := ∀ (b : List UInt8) (n : Int) (h : b.length ≤ 2 ^ 30), Te 114 [.one (slT false 1 uR b), .one (iT n)] ⟨[.one (slT true 1 uR (putW b n))], [[slT false 1 uR b], [iT n]]⟩
theorem r_s_PutW {Te : TE} : C_s_PutW (RF Te x_s_PutW) := by
  intro b n h
  refine run0 ?_
  have e1 : mkU (n.fdiv (2 ^ 8)) = hiB n := rfl
  have e2 : List.take (b.length + 2) (List.map uR b ++ [[uT (hiB n)], [uT (mkU n)]]) = List.map uR (putW b n) := by rw [List.take_of_length_le (by simp)]; simp [putW]
  simp -implicitDefEqProofs only [x_s_PutW, go_sem, min8, mkU_wrap, e1, e2]
  exact ⟨⟨decide_eq_true (by omega), decide_eq_true (by omega)⟩, decide_eq_true (by omega), decide_eq_true (by omega)⟩
theorem putW_len (b : List UInt8) (n : Int) : (putW b n).length = b.length + 2 := by simp only [putW, List.length_append]; rfl
theorem putText_len (b : List UInt8) (t : ByteArray) : (putText b t).length ≤ b.length + 62 := by
  unfold putText
  split
  · omega
  · have : t.data.toList.length = t.size := by rw [Array.length_toList]; rfl
    rw [List.length_append, putW_len]
    omega
theorem flat1 {α : Type} (a : List α) : [a].flatten = a := by rw [List.flatten_cons, List.flatten_nil, List.append_nil]
theorem flat2 {α : Type} (a b : List α) : [a, b].flatten = a ++ b := by rw [List.flatten_cons, flat1]
def x_s_PutText : FnX := ⟨17, [.tmp 4],
  .q [.op 4 (.mv (.k (.one (.nils 1))))]
 (.seq (.q [.m 5 1, .op 6 (.slen (.t 5)), .B 7 .gtr 6 60]
 (.c 7 (.q [.op 8 (.bslice 1 []), .m 9 0, .op 10 (.app 1 1 (.t 8) (.t 9)), .m 4 10]
 .ret)))
 (.q [.m 11 0, .m 12 1, .op 13 (.slen (.t 12)), .c 14 114 [11, 13], .m 15 1, .op 16 (.apps 1 1 (.t 14) (.t 15)), .m 4 16]
 .ret))⟩
abbrev C_s_PutText (Te : TE) : Prop := ∀ (b : List UInt8) (t : ByteArray) (h : b.length ≤ 2 ^ 29) (ht : t.size ≤ 2 ^ 48), Te 116 [.one (slT false 1 uR b), .one (sT t)] ⟨[.one (slT true 1 uR (putText b t))], [[slT false 1 uR b], [sT t]]⟩
theorem r_s_PutText {Te : TE} (c_s_PutW : C_s_PutW Te) : C_s_PutText (RF Te x_s_PutText) := by
  intro b t h ht
  refine run0 ?_
  simp -implicitDefEqProofs only [x_s_PutText, go_sem]
  refine ⟨fun q => ?_, fun q => ?_⟩
  · have q' : (t.size : Int) > 60 := by simpa using q
    simp only [putText, if_pos q']
    exact ⟨⟨decide_eq_true (by omega), decide_eq_true (by omega)⟩, trivial⟩
  · have q' : ¬ ((t.size : Int) > 60) := by simpa using q
    have q3 : t.data.toList.length = t.size := by rw [Array.length_toList]; rfl
    have el := putW_len b t.size
    have e1 : List.take (b.length + 2) (List.map uR (putW b t.size)) = List.map uR (putW b t.size) := List.take_of_length_le (by rw [List.length_map, el]; exact Nat.le_refl _)
    have e2 : List.take (b.length + 2 + t.data.toList.length) (List.map uR (putW b t.size) ++ List.map uR t.data.toList) = List.map uR (putW b t.size ++ t.data.toList) := by
      rw [List.take_of_length_le (by rw [List.length_append, List.length_map, List.length_map, el]; exact Nat.le_refl _), List.map_append]
    simp only [putText, if_neg q']
    refine .of (c_s_PutW b _ (by omega)) ?_
    simp -implicitDefEqProofs only [go_sem, ofBytes_eq, el, e1, e2]
    repeat refine ⟨sc, ?_⟩
    exact decide_eq_true (Nat.le_refl _)
def x_i_PutText : FnX := ⟨19, [.tmp 4],
  .q [.op 4 (.mv (.k (.one (.nils 1))))]
 (.seq (.q [.m 5 1, .op 6 (.slen (.t 5)), .B 7 .gtr 6 60]
 (.c 7 (.q [.m 8 0, .op 9 (.bslice 1 [(.t 8)]), .c 10 121 [9], .m 4 10]
 .ret)))
 (.q [.m 11 0, .m 12 1, .op 13 (.slen (.t 12)), .c 14 124 [11, 13], .m 15 1, .op 16 (.conv .s2b (.t 15)), .op 17 (.bslice 1 [(.t 14), (.t 16)]), .c 18 121 [17], .m 4 18]
 .ret))⟩
abbrev C_i_PutText (Te : TE) : Prop := ∀ (b : List UInt8) (t : ByteArray) (h : b.length ≤ 2 ^ 29) (ht : t.size ≤ 2 ^ 48), Te 126 [.one (slT false 1 uR b), .one (sT t)] ⟨[.one (slT true 1 uR (putText b t))], [[slT false 1 uR b], [sT t]]⟩
theorem r_i_PutText {Te : TE} (c_i_joined : C_i_joined Te) (c_i_PutW : C_i_PutW Te) : C_i_PutText (RF Te x_i_PutText) := by
  intro b t h ht
  refine run0 ?_
  simp -implicitDefEqProofs only [x_i_PutText, go_sem]
  refine ⟨fun q => ?_, fun q => ?_⟩
  · have q' : (t.size : Int) > 60 := by simpa using q
    simp only [putText, if_pos q']
    refine .of (c_i_joined [b] (by rw [flat1]; omega) (by show 1 ≤ 2 ^ 31; decide)) ?_
    simp -implicitDefEqProofs only [go_sem, flat1]
  · have q' : ¬ ((t.size : Int) > 60) := by simpa using q
    have q3 : t.data.toList.length = t.size := by rw [Array.length_toList]; rfl
    have el := putW_len b t.size
    simp only [putText, if_neg q']
    refine .of (c_i_PutW b _ (by omega)) ?_
    simp -implicitDefEqProofs only [go_sem, ofBytes_eq]
    repeat refine ⟨sc, ?_⟩
    refine .of (c_i_joined [putW b t.size, t.data.toList] (by rw [flat2, List.length_append, el]; omega) (by show 2 ≤ 2 ^ 31; decide)) ?_
    simp -implicitDefEqProofs only [go_sem, flat2]
    refine ⟨decide_eq_true (Nat.le_refl _), ?_⟩
    rw [List.take_of_length_le (by rw [List.length_map, List.length_append]; exact Nat.le_refl _)]
end Go.X

/- R -/
namespace Go.X
set_option maxRecDepth 100000
set_option maxHeartbeats 8000000
def koiL : List Int := [1102, 1072, 1073, 1094, 1076, 1077, 1092, 1075, 1093, 1080, 1081, 1082, 1083, 1084, 1085, 1086, 1087, 1103, 1088, 1089, 1090, 1091, 1078, 1074, 1100, 1099, 1079, 1096, 1101, 1097, 1095, 1098]
def winL : List Int := [8364, 0, 8218, 402, 8222, 8230, 8224, 8225, 710, 8240, 352, 8249, 338, 0, 381, 0, 0, 8216, 8217, 8220, 8221, 8226, 8211, 8212, 732, 8482, 353, 8250, 339, 0, 382, 376]
def winM : List Int := [8364, -1, 8218, 402, 8222, 8230, 8224, 8225, 710, 8240, 352, 8249, 338, -1, 381, -1, -1, 8216, 8217, 8220, 8221, 8226, 8211, 8212, 732, 8482, 353, 8250, 339, -1, 382, 376]
def nine (b : Int) : Int := bif b == 164 then 8364 else bif b == 166 then 352 else bif b == 168 then 353 else bif b == 180 then 381 else bif b == 184 then 382 else bif b == 188 then 338 else bif b == 189 then 339 else bif b == 190 then 376 else b
def koi (d b : Int) : Int := bif decide (b ≥ 224) then koiL.getD (b - 224).toNat 0 - 32 else bif decide (b ≥ 192) then koiL.getD (b - 192).toNat 0 else bif b == 163 then 1105 else bif b == 179 then 1025 else d
def winB (l : List Int) (b : Int) : Int := bif decide (b ≥ 160) then b else l.getD (b - 128).toNat 0
theorem koi_in : ∀ k : Fin 32, 0 ≤ koiL.getD k.val 0 ∧ koiL.getD k.val 0 ≤ 65535 := by decide
theorem getD_at {l : List Int} {k : Nat} (hk : k < l.length) : l[k]? = some (l.getD k 0) := by rw [List.getD_eq_getElem?_getD, List.getElem?_eq_getElem hk]; rfl
theorem koi_cel {k : Nat} (hk : k < 32) : ([Cel.pv (Value.int IntKind.i64 1102), Cel.pv (Value.int IntKind.i64 1072), Cel.pv (Value.int IntKind.i64 1073), Cel.pv (Value.int IntKind.i64 1094), Cel.pv (Value.int IntKind.i64 1076), Cel.pv (Value.int IntKind.i64 1077), Cel.pv (Value.int IntKind.i64 1092), Cel.pv (Value.int IntKind.i64 1075), Cel.pv (Value.int IntKind.i64 1093), Cel.pv (Value.int IntKind.i64 1080), Cel.pv (Value.int IntKind.i64 1081), Cel.pv (Value.int IntKind.i64 1082), Cel.pv (Value.int IntKind.i64 1083), Cel.pv (Value.int IntKind.i64 1084), Cel.pv (Value.int IntKind.i64 1085), Cel.pv (Value.int IntKind.i64 1086), Cel.pv (Value.int IntKind.i64 1087), Cel.pv (Value.int IntKind.i64 1103), Cel.pv (Value.int IntKind.i64 1088), Cel.pv (Value.int IntKind.i64 1089), Cel.pv (Value.int IntKind.i64 1090), Cel.pv (Value.int IntKind.i64 1091), Cel.pv (Value.int IntKind.i64 1078), Cel.pv (Value.int IntKind.i64 1074), Cel.pv (Value.int IntKind.i64 1100), Cel.pv (Value.int IntKind.i64 1099), Cel.pv (Value.int IntKind.i64 1079), Cel.pv (Value.int IntKind.i64 1096), Cel.pv (Value.int IntKind.i64 1101), Cel.pv (Value.int IntKind.i64 1097), Cel.pv (Value.int IntKind.i64 1095), Cel.pv (Value.int IntKind.i64 1098)] : List Cel)[k]? = some (Cel.pv (Value.int IntKind.i64 (koiL.getD k 0))) := by
  show (koiL.map fun a => Cel.pv (Value.int IntKind.i64 a))[k]? = _
  rw [List.getElem?_map, getD_at (l := koiL) hk]; rfl
theorem win_cel {k : Nat} (hk : k < 32) : ([Cel.pv (Value.int IntKind.i64 8364), Cel.pv (Value.int IntKind.i64 0), Cel.pv (Value.int IntKind.i64 8218), Cel.pv (Value.int IntKind.i64 402), Cel.pv (Value.int IntKind.i64 8222), Cel.pv (Value.int IntKind.i64 8230), Cel.pv (Value.int IntKind.i64 8224), Cel.pv (Value.int IntKind.i64 8225), Cel.pv (Value.int IntKind.i64 710), Cel.pv (Value.int IntKind.i64 8240), Cel.pv (Value.int IntKind.i64 352), Cel.pv (Value.int IntKind.i64 8249), Cel.pv (Value.int IntKind.i64 338), Cel.pv (Value.int IntKind.i64 0), Cel.pv (Value.int IntKind.i64 381), Cel.pv (Value.int IntKind.i64 0), Cel.pv (Value.int IntKind.i64 0), Cel.pv (Value.int IntKind.i64 8216), Cel.pv (Value.int IntKind.i64 8217), Cel.pv (Value.int IntKind.i64 8220), Cel.pv (Value.int IntKind.i64 8221), Cel.pv (Value.int IntKind.i64 8226), Cel.pv (Value.int IntKind.i64 8211), Cel.pv (Value.int IntKind.i64 8212), Cel.pv (Value.int IntKind.i64 732), Cel.pv (Value.int IntKind.i64 8482), Cel.pv (Value.int IntKind.i64 353), Cel.pv (Value.int IntKind.i64 8250), Cel.pv (Value.int IntKind.i64 339), Cel.pv (Value.int IntKind.i64 0), Cel.pv (Value.int IntKind.i64 382), Cel.pv (Value.int IntKind.i64 376)] : List Cel)[k]? = some (Cel.pv (Value.int IntKind.i64 (winL.getD k 0))) := by
  show (winL.map fun a => Cel.pv (Value.int IntKind.i64 a))[k]? = _
  rw [List.getElem?_map, getD_at (l := winL) hk]; rfl
theorem koi_row {k : Nat} (hk : k < 32) : ([[Tr.pv (Value.int IntKind.i64 1102)], [Tr.pv (Value.int IntKind.i64 1072)], [Tr.pv (Value.int IntKind.i64 1073)], [Tr.pv (Value.int IntKind.i64 1094)], [Tr.pv (Value.int IntKind.i64 1076)], [Tr.pv (Value.int IntKind.i64 1077)], [Tr.pv (Value.int IntKind.i64 1092)], [Tr.pv (Value.int IntKind.i64 1075)], [Tr.pv (Value.int IntKind.i64 1093)], [Tr.pv (Value.int IntKind.i64 1080)], [Tr.pv (Value.int IntKind.i64 1081)], [Tr.pv (Value.int IntKind.i64 1082)], [Tr.pv (Value.int IntKind.i64 1083)], [Tr.pv (Value.int IntKind.i64 1084)], [Tr.pv (Value.int IntKind.i64 1085)], [Tr.pv (Value.int IntKind.i64 1086)], [Tr.pv (Value.int IntKind.i64 1087)], [Tr.pv (Value.int IntKind.i64 1103)], [Tr.pv (Value.int IntKind.i64 1088)], [Tr.pv (Value.int IntKind.i64 1089)], [Tr.pv (Value.int IntKind.i64 1090)], [Tr.pv (Value.int IntKind.i64 1091)], [Tr.pv (Value.int IntKind.i64 1078)], [Tr.pv (Value.int IntKind.i64 1074)], [Tr.pv (Value.int IntKind.i64 1100)], [Tr.pv (Value.int IntKind.i64 1099)], [Tr.pv (Value.int IntKind.i64 1079)], [Tr.pv (Value.int IntKind.i64 1096)], [Tr.pv (Value.int IntKind.i64 1101)], [Tr.pv (Value.int IntKind.i64 1097)], [Tr.pv (Value.int IntKind.i64 1095)], [Tr.pv (Value.int IntKind.i64 1098)]] : List (List T))[k]? = some ([Tr.pv (Value.int IntKind.i64 (koiL.getD k 0))]) := by
  show (koiL.map fun a => [Tr.pv (Value.int IntKind.i64 a)])[k]? = _
  rw [List.getElem?_map, getD_at (l := koiL) hk]; rfl
theorem win_row {k : Nat} (hk : k < 32) : ([[Tr.pv (Value.int IntKind.i64 8364)], [Tr.pv (Value.int IntKind.i64 (-1))], [Tr.pv (Value.int IntKind.i64 8218)], [Tr.pv (Value.int IntKind.i64 402)], [Tr.pv (Value.int IntKind.i64 8222)], [Tr.pv (Value.int IntKind.i64 8230)], [Tr.pv (Value.int IntKind.i64 8224)], [Tr.pv (Value.int IntKind.i64 8225)], [Tr.pv (Value.int IntKind.i64 710)], [Tr.pv (Value.int IntKind.i64 8240)], [Tr.pv (Value.int IntKind.i64 352)], [Tr.pv (Value.int IntKind.i64 8249)], [Tr.pv (Value.int IntKind.i64 338)], [Tr.pv (Value.int IntKind.i64 (-1))], [Tr.pv (Value.int IntKind.i64 381)], [Tr.pv (Value.int IntKind.i64 (-1))], [Tr.pv (Value.int IntKind.i64 (-1))], [Tr.pv (Value.int IntKind.i64 8216)], [Tr.pv (Value.int IntKind.i64 8217)], [Tr.pv (Value.int IntKind.i64 8220)], [Tr.pv (Value.int IntKind.i64 8221)], [Tr.pv (Value.int IntKind.i64 8226)], [Tr.pv (Value.int IntKind.i64 8211)], [Tr.pv (Value.int IntKind.i64 8212)], [Tr.pv (Value.int IntKind.i64 732)], [Tr.pv (Value.int IntKind.i64 8482)], [Tr.pv (Value.int IntKind.i64 353)], [Tr.pv (Value.int IntKind.i64 8250)], [Tr.pv (Value.int IntKind.i64 339)], [Tr.pv (Value.int IntKind.i64 (-1))], [Tr.pv (Value.int IntKind.i64 382)], [Tr.pv (Value.int IntKind.i64 376)]] : List (List T))[k]? = some ([Tr.pv (Value.int IntKind.i64 (winM.getD k 0))]) := by
  show (winM.map fun a => [Tr.pv (Value.int IntKind.i64 a)])[k]? = _
  rw [List.getElem?_map, getD_at (l := winM) hk]; rfl
def x_i_nineSign : FnX := ⟨21, [.tmp 2],
  .q [.i 2 0]
 (.seq (.q [.m 3 0]
 (.block 0 (.q [.B 5 .eql 3 164, .m 4 5]
 (.cond 4 (.q [.i 2 8364]
 .ret) (.q [.B 7 .eql 3 166, .m 6 7]
 (.cond 6 (.q [.i 2 352]
 .ret) (.q [.B 9 .eql 3 168, .m 8 9]
 (.cond 8 (.q [.i 2 353]
 .ret) (.q [.B 11 .eql 3 180, .m 10 11]
 (.cond 10 (.q [.i 2 381]
 .ret) (.q [.B 13 .eql 3 184, .m 12 13]
 (.cond 12 (.q [.i 2 382]
 .ret) (.q [.B 15 .eql 3 188, .m 14 15]
 (.cond 14 (.q [.i 2 338]
 .ret) (.q [.B 17 .eql 3 189, .m 16 17]
 (.cond 16 (.q [.i 2 339]
 .ret) (.q [.B 19 .eql 3 190, .m 18 19]
 (.c 18 (.q [.i 2 376]
 .ret)))))))))))))))))))
 (.q [.m 20 0, .m 2 20]
 .ret))⟩
abbrev C_i_nineSign (Te : TE) : Prop := ∀ (b : Int), Te 167 [.one (iT b)] ⟨[.one (iT (nine b))], [[iT b]]⟩
theorem r_i_nineSign {Te : TE} : C_i_nineSign (RF Te x_i_nineSign) := by
  intro b
  refine run0 ?_
  cases g0 : (b == 164)
  rotate_left
  · simp -implicitDefEqProofs only [x_i_nineSign, go_sem, nine, g0]
    repeat refine ⟨sc, ?_⟩
    try exact sf
  cases g1 : (b == 166)
  rotate_left
  · simp -implicitDefEqProofs only [x_i_nineSign, go_sem, nine, g1, g0]
    repeat refine ⟨sc, ?_⟩
    try exact sf
  cases g2 : (b == 168)
  rotate_left
  · simp -implicitDefEqProofs only [x_i_nineSign, go_sem, nine, g2, g0, g1]
    repeat refine ⟨sc, ?_⟩
    try exact sf
  cases g3 : (b == 180)
  rotate_left
  · simp -implicitDefEqProofs only [x_i_nineSign, go_sem, nine, g3, g0, g1, g2]
    repeat refine ⟨sc, ?_⟩
    try exact sf
  cases g4 : (b == 184)
  rotate_left
  · simp -implicitDefEqProofs only [x_i_nineSign, go_sem, nine, g4, g0, g1, g2, g3]
    repeat refine ⟨sc, ?_⟩
    try exact sf
  cases g5 : (b == 188)
  rotate_left
  · simp -implicitDefEqProofs only [x_i_nineSign, go_sem, nine, g5, g0, g1, g2, g3, g4]
    repeat refine ⟨sc, ?_⟩
    try exact sf
  cases g6 : (b == 189)
  rotate_left
  · simp -implicitDefEqProofs only [x_i_nineSign, go_sem, nine, g6, g0, g1, g2, g3, g4, g5]
    repeat refine ⟨sc, ?_⟩
    try exact sf
  cases g7 : (b == 190)
  rotate_left
  · simp -implicitDefEqProofs only [x_i_nineSign, go_sem, nine, g7, g0, g1, g2, g3, g4, g5, g6]
    repeat refine ⟨sc, ?_⟩
    try exact sf
  simp -implicitDefEqProofs only [x_i_nineSign, go_sem, nine, g0, g1, g2, g3, g4, g5, g6, g7]
  repeat refine ⟨sc, ?_⟩
  try exact sf
def x_s_l3Nine : FnX := ⟨21, [.tmp 2],
  .q [.i 2 0]
 (.seq (.q [.m 3 0]
 (.block 0 (.q [.B 5 .eql 3 164, .m 4 5]
 (.cond 4 (.q [.i 2 8364]
 .ret) (.q [.B 7 .eql 3 166, .m 6 7]
 (.cond 6 (.q [.i 2 352]
 .ret) (.q [.B 9 .eql 3 168, .m 8 9]
 (.cond 8 (.q [.i 2 353]
 .ret) (.q [.B 11 .eql 3 180, .m 10 11]
 (.cond 10 (.q [.i 2 381]
 .ret) (.q [.B 13 .eql 3 184, .m 12 13]
 (.cond 12 (.q [.i 2 382]
 .ret) (.q [.B 15 .eql 3 188, .m 14 15]
 (.cond 14 (.q [.i 2 338]
 .ret) (.q [.B 17 .eql 3 189, .m 16 17]
 (.cond 16 (.q [.i 2 339]
 .ret) (.q [.B 19 .eql 3 190, .m 18 19]
 (.c 18 (.q [.i 2 376]
 .ret)))))))))))))))))))
 (.q [.m 20 0, .m 2 20]
 .ret))⟩
abbrev C_s_l3Nine (Te : TE) : Prop := ∀ (b : Int), Te 160 [.one (iT b)] ⟨[.one (iT (nine b))], [[iT b]]⟩
theorem r_s_l3Nine {Te : TE} : C_s_l3Nine (RF Te x_s_l3Nine) := by
  intro b
  refine run0 ?_
  cases g0 : (b == 164)
  rotate_left
  · simp -implicitDefEqProofs only [x_s_l3Nine, go_sem, nine, g0]
    repeat refine ⟨sc, ?_⟩
    try exact sf
  cases g1 : (b == 166)
  rotate_left
  · simp -implicitDefEqProofs only [x_s_l3Nine, go_sem, nine, g1, g0]
    repeat refine ⟨sc, ?_⟩
    try exact sf
  cases g2 : (b == 168)
  rotate_left
  · simp -implicitDefEqProofs only [x_s_l3Nine, go_sem, nine, g2, g0, g1]
    repeat refine ⟨sc, ?_⟩
    try exact sf
  cases g3 : (b == 180)
  rotate_left
  · simp -implicitDefEqProofs only [x_s_l3Nine, go_sem, nine, g3, g0, g1, g2]
    repeat refine ⟨sc, ?_⟩
    try exact sf
  cases g4 : (b == 184)
  rotate_left
  · simp -implicitDefEqProofs only [x_s_l3Nine, go_sem, nine, g4, g0, g1, g2, g3]
    repeat refine ⟨sc, ?_⟩
    try exact sf
  cases g5 : (b == 188)
  rotate_left
  · simp -implicitDefEqProofs only [x_s_l3Nine, go_sem, nine, g5, g0, g1, g2, g3, g4]
    repeat refine ⟨sc, ?_⟩
    try exact sf
  cases g6 : (b == 189)
  rotate_left
  · simp -implicitDefEqProofs only [x_s_l3Nine, go_sem, nine, g6, g0, g1, g2, g3, g4, g5]
    repeat refine ⟨sc, ?_⟩
    try exact sf
  cases g7 : (b == 190)
  rotate_left
  · simp -implicitDefEqProofs only [x_s_l3Nine, go_sem, nine, g7, g0, g1, g2, g3, g4, g5, g6]
    repeat refine ⟨sc, ?_⟩
    try exact sf
  simp -implicitDefEqProofs only [x_s_l3Nine, go_sem, nine, g0, g1, g2, g3, g4, g5, g6, g7]
  repeat refine ⟨sc, ?_⟩
  try exact sf
def x_i_koiSign : FnX := ⟨26, [.tmp 2],
  .q [.i 2 0]
 (.q [.op 4 (.build [.i 0, .i 0, .i 0, .i 0, .i 0, .i 0, .i 0, .i 0, .i 0, .i 0, .i 0, .i 0, .i 0, .i 0, .i 0, .i 0, .i 0, .i 0, .i 0, .i 0, .i 0, .i 0, .i 0, .i 0, .i 0, .i 0, .i 0, .i 0, .i 0, .i 0, .i 0, .i 0] [(0, 1, (.i 1102)), (1, 1, (.i 1072)), (2, 1, (.i 1073)), (3, 1, (.i 1094)), (4, 1, (.i 1076)), (5, 1, (.i 1077)), (6, 1, (.i 1092)), (7, 1, (.i 1075)), (8, 1, (.i 1093)), (9, 1, (.i 1080)), (10, 1, (.i 1081)), (11, 1, (.i 1082)), (12, 1, (.i 1083)), (13, 1, (.i 1084)), (14, 1, (.i 1085)), (15, 1, (.i 1086)), (16, 1, (.i 1087)), (17, 1, (.i 1103)), (18, 1, (.i 1088)), (19, 1, (.i 1089)), (20, 1, (.i 1090)), (21, 1, (.i 1091)), (22, 1, (.i 1078)), (23, 1, (.i 1074)), (24, 1, (.i 1100)), (25, 1, (.i 1099)), (26, 1, (.i 1079)), (27, 1, (.i 1096)), (28, 1, (.i 1101)), (29, 1, (.i 1097)), (30, 1, (.i 1095)), (31, 1, (.i 1098))]), .op 3 (.alloc [.i 0, .i 0, .i 0, .i 0, .i 0, .i 0, .i 0, .i 0, .i 0, .i 0, .i 0, .i 0, .i 0, .i 0, .i 0, .i 0, .i 0, .i 0, .i 0, .i 0, .i 0, .i 0, .i 0, .i 0, .i 0, .i 0, .i 0, .i 0, .i 0, .i 0, .i 0, .i 0]), .s 100001 32 3 4]
 (.seq (.block 0 (.q [.m 6 0, .B 7 .geq 6 224, .m 5 7]
 (.cond 5 (.q [.m 8 0, .B 9 .sub 8 224, .op 10 (.aaddr 32 1 (.t 3) (.t 9)), .l 11 10, .B 12 .sub 11 32, .m 2 12]
 .ret) (.q [.m 14 0, .B 15 .geq 14 192, .m 13 15]
 (.cond 13 (.q [.m 16 0, .B 17 .sub 16 192, .op 18 (.aaddr 32 1 (.t 3) (.t 17)), .l 19 18, .m 2 19]
 .ret) (.q [.m 21 0, .B 22 .eql 21 163, .m 20 22]
 (.cond 20 (.q [.i 2 1105]
 .ret) (.q [.m 24 0, .B 25 .eql 24 179, .m 23 25]
 (.c 23 (.q [.i 2 1025]
 .ret))))))))))
 (.q [.i 2 0]
 .ret)))⟩
abbrev C_i_koiSign (Te : TE) : Prop := ∀ (b : Int) (hb : 128 ≤ b ∧ b ≤ 255), Te 168 [.one (iT b)] ⟨[.one (iT (koi 0 b))], [[iT b]]⟩
theorem r_i_koiSign {Te : TE} : C_i_koiSign (RF Te x_i_koiSign) := by
  intro b hb
  refine run0 ?_
  cases g1 : decide (b ≥ 224)
  · cases g2 : decide (b ≥ 192)
    · cases g3 : (b == 163)
      · cases g4 : (b == 179)
        · simp -implicitDefEqProofs only [x_i_koiSign, go_sem, koi, g1, g2, g3, g4]
          repeat refine ⟨sc, ?_⟩
          try exact sf
        · simp -implicitDefEqProofs only [x_i_koiSign, go_sem, koi, g1, g2, g3, g4]
          repeat refine ⟨sc, ?_⟩
          try exact sf
      · simp -implicitDefEqProofs only [x_i_koiSign, go_sem, koi, g1, g2, g3]
        repeat refine ⟨sc, ?_⟩
        try exact sf
    · simp only [decide_eq_true_eq] at g2
      have e : IntKind.i64.wrap (b - 192) = b - 192 := IntWalk.i64_in _ (by omega)
      simp only [decide_eq_false_iff_not] at g1
      have hk : (b - 192).toNat < 32 := by omega
      have q1 := decide_eq_false g1
      have q2 := decide_eq_true g2
      simp -implicitDefEqProofs only [x_i_koiSign, go_sem, koi, q1, q2, e, Nat.mul_one]
      repeat refine ⟨sc, ?_⟩
      try exact sf
      try simp -implicitDefEqProofs only [go_sem, koi_cel hk, q1, q2]
      repeat refine ⟨sc, ?_⟩
      try exact sf
  · simp only [decide_eq_true_eq] at g1
    have e : IntKind.i64.wrap (b - 224) = b - 224 := IntWalk.i64_in _ (by omega)
    have hk : (b - 224).toNat < 32 := by omega
    have q1 := decide_eq_true g1
    have hv := koi_in ⟨(b - 224).toNat, hk⟩
    have e2 : IntKind.i64.wrap (koiL.getD (b - 224).toNat 0 - 32) = koiL.getD (b - 224).toNat 0 - 32 := IntWalk.i64_in _ (by simp only at hv; omega)
    simp -implicitDefEqProofs only [x_i_koiSign, go_sem, koi, q1, e, Nat.mul_one]
    repeat refine ⟨sc, ?_⟩
    try exact sf
    try simp -implicitDefEqProofs only [go_sem, koi_cel hk, q1, e2]
    repeat refine ⟨sc, ?_⟩
    try exact sf
def x_s_l3Koi : FnX := ⟨28, [.tmp 2],
  .q [.i 2 0]
 (.q [.op 4 (.bslice 1 [(.i 1102), (.i 1072), (.i 1073), (.i 1094), (.i 1076), (.i 1077), (.i 1092), (.i 1075), (.i 1093), (.i 1080), (.i 1081), (.i 1082), (.i 1083), (.i 1084), (.i 1085), (.i 1086), (.i 1087), (.i 1103), (.i 1088), (.i 1089), (.i 1090), (.i 1091), (.i 1078), (.i 1074), (.i 1100), (.i 1099), (.i 1079), (.i 1096), (.i 1101), (.i 1097), (.i 1095), (.i 1098)]), .m 3 4]
 (.seq (.block 0 (.q [.m 6 0, .B 7 .geq 6 224, .m 5 7]
 (.cond 5 (.q [.m 8 3, .m 9 0, .B 10 .sub 9 224, .x 11 1 8 10, .l 12 11, .B 13 .sub 12 32, .m 2 13]
 .ret) (.q [.m 15 0, .B 16 .geq 15 192, .m 14 16]
 (.cond 14 (.q [.m 17 3, .m 18 0, .B 19 .sub 18 192, .x 20 1 17 19, .l 21 20, .m 2 21]
 .ret) (.q [.m 23 0, .B 24 .eql 23 163, .m 22 24]
 (.cond 22 (.q [.i 2 1105]
 .ret) (.q [.m 26 0, .B 27 .eql 26 179, .m 25 27]
 (.c 25 (.q [.i 2 1025]
 .ret))))))))))
 (.q [.i 2 (-1)]
 .ret)))⟩
abbrev C_s_l3Koi (Te : TE) : Prop := ∀ (b : Int) (hb : 128 ≤ b ∧ b ≤ 255), Te 161 [.one (iT b)] ⟨[.one (iT (koi (-1) b))], [[iT b]]⟩
theorem r_s_l3Koi {Te : TE} : C_s_l3Koi (RF Te x_s_l3Koi) := by
  intro b hb
  refine run0 ?_
  cases g1 : decide (b ≥ 224)
  · cases g2 : decide (b ≥ 192)
    · cases g3 : (b == 163)
      · cases g4 : (b == 179)
        · simp -implicitDefEqProofs only [x_s_l3Koi, go_sem, koi, g1, g2, g3, g4]
          repeat refine ⟨sc, ?_⟩
          try exact sf
        · simp -implicitDefEqProofs only [x_s_l3Koi, go_sem, koi, g1, g2, g3, g4]
          repeat refine ⟨sc, ?_⟩
          try exact sf
      · simp -implicitDefEqProofs only [x_s_l3Koi, go_sem, koi, g1, g2, g3]
        repeat refine ⟨sc, ?_⟩
        try exact sf
    · simp only [decide_eq_true_eq] at g2
      have e : IntKind.i64.wrap (b - 192) = b - 192 := IntWalk.i64_in _ (by omega)
      simp only [decide_eq_false_iff_not] at g1
      have hk : (b - 192).toNat < 32 := by omega
      have q1 := decide_eq_false g1
      have q2 := decide_eq_true g2
      simp -implicitDefEqProofs only [x_s_l3Koi, go_sem, koi, q1, q2, e, Nat.mul_one, List.getD_eq_getElem?_getD]
      repeat refine ⟨sc, ?_⟩
      try exact sf
      try simp -implicitDefEqProofs only [go_sem, koi_row hk, q1, q2]
      repeat refine ⟨sc, ?_⟩
      try exact sf
      try simp only [List.getD_eq_getElem?_getD]
  · simp only [decide_eq_true_eq] at g1
    have e : IntKind.i64.wrap (b - 224) = b - 224 := IntWalk.i64_in _ (by omega)
    have hk : (b - 224).toNat < 32 := by omega
    have q1 := decide_eq_true g1
    have hv := koi_in ⟨(b - 224).toNat, hk⟩
    have e2 : IntKind.i64.wrap (koiL.getD (b - 224).toNat 0 - 32) = koiL.getD (b - 224).toNat 0 - 32 := IntWalk.i64_in _ (by simp only at hv; omega)
    simp -implicitDefEqProofs only [x_s_l3Koi, go_sem, koi, q1, e, Nat.mul_one, List.getD_eq_getElem?_getD]
    repeat refine ⟨sc, ?_⟩
    try exact sf
    try simp -implicitDefEqProofs only [go_sem, koi_row hk, q1, e2]
    repeat refine ⟨sc, ?_⟩
    try exact sf
    try simp only [List.getD_eq_getElem?_getD]
def x_i_winSign : FnX := ⟨12, [.tmp 2],
  .q [.i 2 0]
 (.q [.op 4 (.build [.i 0, .i 0, .i 0, .i 0, .i 0, .i 0, .i 0, .i 0, .i 0, .i 0, .i 0, .i 0, .i 0, .i 0, .i 0, .i 0, .i 0, .i 0, .i 0, .i 0, .i 0, .i 0, .i 0, .i 0, .i 0, .i 0, .i 0, .i 0, .i 0, .i 0, .i 0, .i 0] [(0, 1, (.i 8364)), (1, 1, (.i 0)), (2, 1, (.i 8218)), (3, 1, (.i 402)), (4, 1, (.i 8222)), (5, 1, (.i 8230)), (6, 1, (.i 8224)), (7, 1, (.i 8225)), (8, 1, (.i 710)), (9, 1, (.i 8240)), (10, 1, (.i 352)), (11, 1, (.i 8249)), (12, 1, (.i 338)), (13, 1, (.i 0)), (14, 1, (.i 381)), (15, 1, (.i 0)), (16, 1, (.i 0)), (17, 1, (.i 8216)), (18, 1, (.i 8217)), (19, 1, (.i 8220)), (20, 1, (.i 8221)), (21, 1, (.i 8226)), (22, 1, (.i 8211)), (23, 1, (.i 8212)), (24, 1, (.i 732)), (25, 1, (.i 8482)), (26, 1, (.i 353)), (27, 1, (.i 8250)), (28, 1, (.i 339)), (29, 1, (.i 0)), (30, 1, (.i 382)), (31, 1, (.i 376))]), .op 3 (.alloc [.i 0, .i 0, .i 0, .i 0, .i 0, .i 0, .i 0, .i 0, .i 0, .i 0, .i 0, .i 0, .i 0, .i 0, .i 0, .i 0, .i 0, .i 0, .i 0, .i 0, .i 0, .i 0, .i 0, .i 0, .i 0, .i 0, .i 0, .i 0, .i 0, .i 0, .i 0, .i 0]), .s 100001 32 3 4]
 (.seq (.q [.m 5 0, .B 6 .geq 5 160]
 (.c 6 (.q [.m 7 0, .m 2 7]
 .ret)))
 (.q [.m 8 0, .B 9 .sub 8 128, .op 10 (.aaddr 32 1 (.t 3) (.t 9)), .l 11 10, .m 2 11]
 .ret)))⟩
abbrev C_i_winSign (Te : TE) : Prop := ∀ (b : Int) (hb : 128 ≤ b ∧ b ≤ 255), Te 169 [.one (iT b)] ⟨[.one (iT (winB winL b))], [[iT b]]⟩
theorem r_i_winSign {Te : TE} : C_i_winSign (RF Te x_i_winSign) := by
  intro b hb
  refine run0 ?_
  cases g1 : decide (b ≥ 160)
  · have e : IntKind.i64.wrap (b - 128) = b - 128 := IntWalk.i64_in _ (by omega)
    have hk : (b - 128).toNat < 32 := by simp only [decide_eq_false_iff_not] at g1; omega
    simp -implicitDefEqProofs only [x_i_winSign, go_sem, winB, g1, e, Nat.mul_one]
    repeat refine ⟨sc, ?_⟩
    try exact sf
    try simp -implicitDefEqProofs only [go_sem, win_cel hk, g1]
    repeat refine ⟨sc, ?_⟩
    try exact sf
  · simp -implicitDefEqProofs only [x_i_winSign, go_sem, winB, g1]
    repeat refine ⟨sc, ?_⟩
    try exact sf
def x_s_l3Win : FnX := ⟨13, [.tmp 2],
  .q [.i 2 0]
 (.q [.op 4 (.bslice 1 [(.i 8364), (.i (-1)), (.i 8218), (.i 402), (.i 8222), (.i 8230), (.i 8224), (.i 8225), (.i 710), (.i 8240), (.i 352), (.i 8249), (.i 338), (.i (-1)), (.i 381), (.i (-1)), (.i (-1)), (.i 8216), (.i 8217), (.i 8220), (.i 8221), (.i 8226), (.i 8211), (.i 8212), (.i 732), (.i 8482), (.i 353), (.i 8250), (.i 339), (.i (-1)), (.i 382), (.i 376)]), .m 3 4]
 (.seq (.q [.m 5 0, .B 6 .geq 5 160]
 (.c 6 (.q [.m 7 0, .m 2 7]
 .ret)))
 (.q [.m 8 3, .m 9 0, .B 10 .sub 9 128, .x 11 1 8 10, .l 12 11, .m 2 12]
 .ret)))⟩
abbrev C_s_l3Win (Te : TE) : Prop := ∀ (b : Int) (hb : 128 ≤ b ∧ b ≤ 255), Te 162 [.one (iT b)] ⟨[.one (iT (winB winM b))], [[iT b]]⟩
theorem r_s_l3Win {Te : TE} : C_s_l3Win (RF Te x_s_l3Win) := by
  intro b hb
  refine run0 ?_
  cases g1 : decide (b ≥ 160)
  · have e : IntKind.i64.wrap (b - 128) = b - 128 := IntWalk.i64_in _ (by omega)
    have hk : (b - 128).toNat < 32 := by simp only [decide_eq_false_iff_not] at g1; omega
    simp -implicitDefEqProofs only [x_s_l3Win, go_sem, winB, g1, e, Nat.mul_one, List.getD_eq_getElem?_getD]
    repeat refine ⟨sc, ?_⟩
    try exact sf
    try simp -implicitDefEqProofs only [go_sem, win_row hk, g1]
    repeat refine ⟨sc, ?_⟩
    try exact sf
    try simp only [List.getD_eq_getElem?_getD]
  · simp -implicitDefEqProofs only [x_s_l3Win, go_sem, winB, g1]
    repeat refine ⟨sc, ?_⟩
    try exact sf
end Go.X

/- S -/
namespace Go.X
set_option maxRecDepth 100000
set_option maxHeartbeats 8000000
def signOf (cs b : Int) : Int := bif cs == 2 then nine b else bif cs == 3 then koi 0 b else bif cs == 4 then winB winL b else b
def byteSign (cs b : Int) : Int × Bool := bif win cs 1 4 && win b 0 255 then (bif decide (b ≤ 127) then (b, true) else (signOf cs b, signOf cs b != 0)) else (0, false)
theorem koi_two : ∀ k : Fin 128, koi (-1) ((k.val : Int) + 128) = (bif koi 0 ((k.val : Int) + 128) == 0 then -1 else koi 0 ((k.val : Int) + 128)) ∧ 0 ≤ koi 0 ((k.val : Int) + 128) := by decide
theorem win_two : ∀ k : Fin 128, winB winM ((k.val : Int) + 128) = (bif winB winL ((k.val : Int) + 128) == 0 then -1 else winB winL ((k.val : Int) + 128)) ∧ 0 ≤ winB winL ((k.val : Int) + 128) := by decide
theorem nine_up : ∀ k : Fin 128, 0 < nine ((k.val : Int) + 128) := by decide
theorem at128 {p : Int → Prop} (h : ∀ k : Fin 128, p ((k.val : Int) + 128)) {b : Int} (hb : 128 ≤ b ∧ b ≤ 255) : p b := by
  have := h ⟨(b - 128).toNat, by omega⟩
  rwa [show (((b - 128).toNat : Nat) : Int) + 128 = b by omega] at this
theorem koi_rel {b : Int} (hb : 128 ≤ b ∧ b ≤ 255) : koi (-1) b = (bif koi 0 b == 0 then -1 else koi 0 b) ∧ 0 ≤ koi 0 b := at128 (p := fun b => koi (-1) b = (bif koi 0 b == 0 then -1 else koi 0 b) ∧ 0 ≤ koi 0 b) koi_two hb
theorem win_rel {b : Int} (hb : 128 ≤ b ∧ b ≤ 255) : winB winM b = (bif winB winL b == 0 then -1 else winB winL b) ∧ 0 ≤ winB winL b := at128 (p := fun b => winB winM b = (bif winB winL b == 0 then -1 else winB winL b) ∧ 0 ≤ winB winL b) win_two hb
theorem nine_rel {b : Int} (hb : 128 ≤ b ∧ b ≤ 255) : 0 < nine b := at128 (p := fun b => 0 < nine b) nine_up hb
def x_i_ByteSign : FnX := ⟨35, [.tmp 4, .tmp 5],
  .q [.i 4 0, .F 5]
 (.seq (.q [.m 7 0, .op 8 (.call 25 [0, 0, 0] [(.t 7), (.i 1), (.i 4)]), .N 9 8, .m 10 9, ⟨(some (10, false)), some 11, 11, .mv (.t 1)⟩, ⟨(some (10, false)), some 12, 12, .call 25 [0, 0, 0] [(.t 11), (.i 0), (.i 255)]⟩, ⟨(some (10, false)), some 13, 13, .not (.t 12)⟩, .r 14 10 13]
 (.c 14 (.q [.i 4 0, .F 5]
 .ret)))
 (.seq (.q [.m 15 1, .B 16 .leq 15 127]
 (.c 16 (.q [.m 17 1, .m 4 17, .T 5]
 .ret)))
 (.q [.m 18 1, .m 6 18]
 (.seq (.q [.m 19 0]
 (.block 0 (.q [.B 21 .eql 19 2, .m 20 21]
 (.cond 20 (.reg [.m 22 1, .c 23 167 [22], .m 6 23]) (.q [.B 25 .eql 19 3, .m 24 25]
 (.cond 24 (.reg [.m 26 1, .c 27 168 [26], .m 6 27]) (.q [.B 29 .eql 19 4, .m 28 29]
 (.c 28 (.reg [.m 30 1, .c 31 169 [30], .m 6 31])))))))))
 (.q [.m 32 6, .m 33 6, .B 34 .neq 33 0, .m 4 32, .m 5 34]
 .ret)))))⟩
abbrev C_i_ByteSign (Te : TE) : Prop := ∀ (cs b : Int), Te 142 [.one (iT cs), .one (iT b)] ⟨[.one (iT (byteSign cs b).1), .one (bT (byteSign cs b).2)], [[iT cs], [iT b]]⟩
theorem r_i_ByteSign {Te : TE} (c_i_within : C_i_within Te) (c_i_nineSign : C_i_nineSign Te) (c_i_koiSign : C_i_koiSign Te) (c_i_winSign : C_i_winSign Te) : C_i_ByteSign (RF Te x_i_ByteSign) := by
  intro cs b
  refine run0 ?_
  simp -implicitDefEqProofs only [x_i_ByteSign, go_sem]
  repeat refine ⟨sc, ?_⟩
  try exact sf
  refine .of (c_i_within _ _ _) ?_
  try simp -implicitDefEqProofs only [go_sem]
  repeat refine ⟨sc, ?_⟩
  try exact sf
  cases g1 : win cs 1 4
  · try simp -implicitDefEqProofs only [go_sem, byteSign, g1]
    repeat refine ⟨sc, ?_⟩
    try exact sf
  · try simp -implicitDefEqProofs only [go_sem]
    repeat refine ⟨sc, ?_⟩
    try exact sf
    refine .of (c_i_within _ _ _) ?_
    try simp -implicitDefEqProofs only [go_sem]
    repeat refine ⟨sc, ?_⟩
    try exact sf
    cases g2 : win b 0 255
    · try simp -implicitDefEqProofs only [go_sem, byteSign, g1, g2]
      repeat refine ⟨sc, ?_⟩
      try exact sf
    · cases g3 : decide (b ≤ 127)
      · have hb : 128 ≤ b ∧ b ≤ 255 := by simp only [win, Bool.and_eq_true, decide_eq_true_eq] at g2; simp only [decide_eq_false_iff_not] at g3; omega
        try simp -implicitDefEqProofs only [go_sem, g3]
        repeat refine ⟨sc, ?_⟩
        try exact sf
        cases g4 : (cs == 2)
        · cases g5 : (cs == 3)
          · cases g6 : (cs == 4)
            · try simp -implicitDefEqProofs only [go_sem, g4, g5, g6, byteSign, signOf, g1, g2, g3]
              repeat refine ⟨sc, ?_⟩
              try exact sf
            · try simp -implicitDefEqProofs only [go_sem, g4, g5, g6]
              repeat refine ⟨sc, ?_⟩
              try exact sf
              refine .of (c_i_winSign _ hb) ?_
              try simp -implicitDefEqProofs only [go_sem, byteSign, signOf, g1, g2, g3, g4, g5, g6]
              repeat refine ⟨sc, ?_⟩
              try exact sf
          · try simp -implicitDefEqProofs only [go_sem, g4, g5]
            repeat refine ⟨sc, ?_⟩
            try exact sf
            refine .of (c_i_koiSign _ hb) ?_
            try simp -implicitDefEqProofs only [go_sem, byteSign, signOf, g1, g2, g3, g4, g5]
            repeat refine ⟨sc, ?_⟩
            try exact sf
        · try simp -implicitDefEqProofs only [go_sem, g4]
          repeat refine ⟨sc, ?_⟩
          try exact sf
          refine .of (c_i_nineSign _) ?_
          try simp -implicitDefEqProofs only [go_sem, byteSign, signOf, g1, g2, g3, g4]
          repeat refine ⟨sc, ?_⟩
          try exact sf
      · try simp -implicitDefEqProofs only [go_sem, g3, byteSign, g1, g2]
        repeat refine ⟨sc, ?_⟩
        try exact sf
def x_s_ByteSign : FnX := ⟨34, [.tmp 4, .tmp 5],
  .q [.i 4 0, .F 5]
 (.seq (.q [.m 7 0, .op 8 (.call 23 [0, 0, 0] [(.t 7), (.i 1), (.i 4)]), .N 9 8, .m 10 9, ⟨(some (10, false)), some 11, 11, .mv (.t 1)⟩, ⟨(some (10, false)), some 12, 12, .call 23 [0, 0, 0] [(.t 11), (.i 0), (.i 255)]⟩, ⟨(some (10, false)), some 13, 13, .not (.t 12)⟩, .r 14 10 13]
 (.c 14 (.q [.i 4 0, .F 5]
 .ret)))
 (.q [.m 15 1, .m 6 15]
 (.seq (.q [.m 16 1, .B 17 .geq 16 128]
 (.c 17 (.q [.m 18 0]
 (.block 0 (.q [.B 20 .eql 18 2, .m 19 20]
 (.cond 19 (.reg [.m 21 1, .c 22 160 [21], .m 6 22]) (.q [.B 24 .eql 18 3, .m 23 24]
 (.cond 23 (.reg [.m 25 1, .c 26 161 [25], .m 6 26]) (.q [.B 28 .eql 18 4, .m 27 28]
 (.c 27 (.reg [.m 29 1, .c 30 162 [29], .m 6 30])))))))))))
 (.seq (.q [.m 31 6, .B 32 .lss 31 0]
 (.c 32 (.q [.i 4 0, .F 5]
 .ret)))
 (.q [.m 33 6, .m 4 33, .T 5]
 .ret)))))⟩
abbrev C_s_ByteSign (Te : TE) : Prop := ∀ (cs b : Int), Te 136 [.one (iT cs), .one (iT b)] ⟨[.one (iT (byteSign cs b).1), .one (bT (byteSign cs b).2)], [[iT cs], [iT b]]⟩
theorem r_s_ByteSign {Te : TE} (c_s_l1In : C_s_l1In Te) (c_s_l3Nine : C_s_l3Nine Te) (c_s_l3Koi : C_s_l3Koi Te) (c_s_l3Win : C_s_l3Win Te) : C_s_ByteSign (RF Te x_s_ByteSign) := by
  intro cs b
  refine run0 ?_
  simp -implicitDefEqProofs only [x_s_ByteSign, go_sem]
  repeat refine ⟨sc, ?_⟩
  try exact sf
  refine .of (c_s_l1In _ _ _) ?_
  try simp -implicitDefEqProofs only [go_sem]
  repeat refine ⟨sc, ?_⟩
  try exact sf
  cases g1 : win cs 1 4
  · try simp -implicitDefEqProofs only [go_sem, byteSign, g1]
    repeat refine ⟨sc, ?_⟩
    try exact sf
  · try simp -implicitDefEqProofs only [go_sem]
    repeat refine ⟨sc, ?_⟩
    try exact sf
    refine .of (c_s_l1In _ _ _) ?_
    try simp -implicitDefEqProofs only [go_sem]
    repeat refine ⟨sc, ?_⟩
    try exact sf
    cases g2 : win b 0 255
    · try simp -implicitDefEqProofs only [go_sem, byteSign, g1, g2]
      repeat refine ⟨sc, ?_⟩
      try exact sf
    · have h2 : 0 ≤ b ∧ b ≤ 255 := by simpa only [win, Bool.and_eq_true, decide_eq_true_eq] using g2
      cases g3 : decide (b ≥ 128)
      · have g3' : decide (b ≤ 127) = true := by simp only [decide_eq_false_iff_not] at g3; exact decide_eq_true (by omega)
        have g7 : decide (b < 0) = false := decide_eq_false (by omega)
        try simp -implicitDefEqProofs only [go_sem, g3, g7, byteSign, g1, g2, g3']
        repeat refine ⟨sc, ?_⟩
        try exact sf
      · have hb : 128 ≤ b ∧ b ≤ 255 := by simp only [decide_eq_true_eq] at g3; omega
        have g3' : decide (b ≤ 127) = false := decide_eq_false (by omega)
        try simp -implicitDefEqProofs only [go_sem, g3]
        repeat refine ⟨sc, ?_⟩
        try exact sf
        cases g4 : (cs == 2)
        · cases g5 : (cs == 3)
          · cases g6 : (cs == 4)
            · have g7 : decide (b < 0) = false := decide_eq_false (by omega)
              have g8 : (b != 0) = true := by simp; omega
              try simp -implicitDefEqProofs only [go_sem, g4, g5, g6, g7, g8, byteSign, signOf, g1, g2, g3']
              repeat refine ⟨sc, ?_⟩
              try exact sf
            · try simp -implicitDefEqProofs only [go_sem, g4, g5, g6]
              repeat refine ⟨sc, ?_⟩
              try exact sf
              refine .of (c_s_l3Win _ hb) ?_
              try simp -implicitDefEqProofs only [go_sem]
              repeat refine ⟨sc, ?_⟩
              try exact sf
              obtain ⟨w1, w2⟩ := win_rel hb
              cases g9 : (winB winL b == 0)
              · have g7 : decide (winB winL b < 0) = false := decide_eq_false (by omega)
                have g8 : (winB winL b != 0) = true := by simpa using g9
                simp only [g9, cond_false] at w1
                try simp -implicitDefEqProofs only [go_sem, w1, g7, g8, byteSign, signOf, g1, g2, g3', g4, g5, g6]
                repeat refine ⟨sc, ?_⟩
                try exact sf
              · have g8 : winB winL b = 0 := by simpa using g9
                simp only [g9, cond_true] at w1
                try simp -implicitDefEqProofs only [go_sem, w1, g8, byteSign, signOf, g1, g2, g3', g4, g5, g6]
                repeat refine ⟨sc, ?_⟩
                try exact sf
                try rfl
          · try simp -implicitDefEqProofs only [go_sem, g4, g5]
            repeat refine ⟨sc, ?_⟩
            try exact sf
            refine .of (c_s_l3Koi _ hb) ?_
            try simp -implicitDefEqProofs only [go_sem]
            repeat refine ⟨sc, ?_⟩
            try exact sf
            obtain ⟨w1, w2⟩ := koi_rel hb
            cases g9 : (koi 0 b == 0)
            · have g7 : decide (koi 0 b < 0) = false := decide_eq_false (by omega)
              have g8 : (koi 0 b != 0) = true := by simpa using g9
              simp only [g9, cond_false] at w1
              try simp -implicitDefEqProofs only [go_sem, w1, g7, g8, byteSign, signOf, g1, g2, g3', g4, g5]
              repeat refine ⟨sc, ?_⟩
              try exact sf
            · have g8 : koi 0 b = 0 := by simpa using g9
              simp only [g9, cond_true] at w1
              try simp -implicitDefEqProofs only [go_sem, w1, g8, byteSign, signOf, g1, g2, g3', g4, g5]
              repeat refine ⟨sc, ?_⟩
              try exact sf
              try rfl
        · try simp -implicitDefEqProofs only [go_sem, g4]
          repeat refine ⟨sc, ?_⟩
          try exact sf
          refine .of (c_s_l3Nine _) ?_
          try simp -implicitDefEqProofs only [go_sem]
          repeat refine ⟨sc, ?_⟩
          try exact sf
          have w1 := nine_rel hb
          have g7 : decide (nine b < 0) = false := decide_eq_false (by omega)
          have g8 : (nine b != 0) = true := by simp; omega
          try simp -implicitDefEqProofs only [go_sem, g7, g8, byteSign, signOf, g1, g2, g3', g4]
          repeat refine ⟨sc, ?_⟩
          try exact sf
end Go.X

