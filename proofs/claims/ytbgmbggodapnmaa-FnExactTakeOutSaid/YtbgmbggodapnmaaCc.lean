/- Texts: XOpen CA CC CF CJ CW_TakeOut. -/
import Derived.Test.YtbgmbggodapnmaaCb
import Derived.SizedLaws
import Derived.Deep.Slices
import Derived.ChangeArms
import Derived.WideShapes
import Derived.Below
set_option linter.unusedVariables false
set_option linter.unusedSimpArgs false
/- How what comes in reads; how a law is asked. -/
namespace Go.X
open Go.WideShapes Go.RowKit
def Old (w : World) : Nat → Prop := fun b => b < w.heap.size
def RdL (S : Nat → Prop) (w : World) (ts : List T) (vs : List Value) : Prop := ts.length = vs.length ∧ ∀ (k : Nat) (t : T) (v : Value), ts[k]? = some t → vs[k]? = some v → Rd S w t v
theorem RdL.app {S : Nat → Prop} {w : World} {a b : List T} {vs us : List Value} (h : RdL S w a vs) (h' : RdL S w b us) : RdL S w (a ++ b) (vs ++ us) :=
  ⟨by simp [h.1, h'.1], fun k t v ht hv => by
    by_cases hk : k < a.length
    · rw [List.getElem?_append_left hk] at ht
      rw [List.getElem?_append_left (by have := h.1; omega)] at hv
      exact h.2 k t v ht hv
    · rw [List.getElem?_append_right (by omega)] at ht
      rw [List.getElem?_append_right (by have := h.1; omega), ← h.1] at hv
      exact h'.2 _ t v ht hv⟩
theorem RdL.one {S : Nat → Prop} {w : World} {t : T} {v : Value} (h : Rd S w t v) : RdL S w [t] [v] := ⟨rfl, fun k t' v' ht hv => by
  cases k with
  | zero => simp at ht hv; subst ht; subst hv; exact h
  | succ k => simp at ht⟩
/-- Every reading of type t is a value that is told so and meets p. -/
def OpT {α : Type} (P : Program) (t : TypeId) (e : α → List T) (p : α → Prop) : Prop :=
  ∀ (H : Type) (enc : TypeId × Value → H) (w : World) (fuel : Nat) (cs : List Value) (x : DataW H × List MemPlace), DataW.trod enc P w 0 (fun _ => true) true fuel t cs = some x →
    (∀ n ∈ x.1.weights P t, n ≤ 140737488351232) → ∃ a, p a ∧ RdL (Old w) w (e a) cs
def FT {α : Type} (P : Program) (fs : List Field) (off z : Nat) (e : α → List T) (p : α → Prop) : Prop :=
  ∀ (H : Type) (enc : TypeId × Value → H) (w : World) (n : Nat) (cs : List Value) (xs : List (DataW H × List MemPlace)),
    (∀ (i : Nat) (f : Field), fs[i]? = some f → DataW.trod enc P w 0 (fun _ => true) true n f.type ((cs.drop f.offset).take (P.cellsOf f.type)) = xs[i]?) → xs.length = fs.length →
    (∀ m ∈ DataW.weightsEach P (fs.map (·.type)) (xs.map (·.1)), m ≤ 140737488351232) → cs.length = off + z → ∃ a, p a ∧ RdL (Old w) w (e a) (cs.drop off)
def InI (k : IntKind) (a : Int) : Prop := (Lit.int k a).wf = true
section
variable {P : Program} {t : TypeId}
theorem OpT.int {k : IntKind} (ht : P.underlying t = some (.int k)) : OpT P t (fun a => [.pv (.int k a)]) (InI k) := fun H enc w fuel cs x h _ => by
  obtain ⟨n, rfl, _, hw⟩ := DataW.trod_int ht h
  exact ⟨n, hw, .one (.pv rfl)⟩
theorem OpT.bool (ht : P.underlying t = some .bool) : OpT P t (fun a => [.pv (.bool a)]) (fun _ => True) := fun H enc w fuel cs x h _ => by
  obtain ⟨n, rfl, _⟩ := DataW.trod_bool ht h
  exact ⟨n, trivial, .one (.pv rfl)⟩
theorem OpT.string (ht : P.underlying t = some .string) : OpT P t (fun a => [.pv (.string a)]) (fun a => a.size ≤ 140737488351232) := fun H enc w fuel cs x h hw => by
  obtain ⟨s, rfl, rfl, hs⟩ := DataW.trod_string ht h
  refine ⟨s, ?_, .one (.pv rfl)⟩
  have := hw s.data.toList.length (by simp [DataW.weights])
  simpa using this
theorem old_of_cell {w : World} {ad : Addr} {v : Value} (h : w.cell? ad = some v) : ad.block < w.heap.size := by
  unfold World.cell? at h
  cases hb : w.heap[ad.block]? with
  | none => simp [hb] at h
  | some _ => exact (Array.getElem?_eq_some_iff.1 hb).1
theorem mem_allW {H : Type} {e : TypeId} {d : DataW H} {n : Nat} (hn : n ∈ d.weights P e) : ∀ {l : List (DataW H)}, d ∈ l → n ∈ DataW.weightsAll P e l
  | [], h => by cases h
  | y :: l, h => by
    simp only [DataW.weightsAll, List.mem_append]
    rcases List.mem_cons.1 h with rfl | h
    · exact .inl hn
    · exact .inr (mem_allW hn h)
theorem OpT.slice {α : Type} {e : TypeId} {en : α → List T} {p : α → Prop} (z B : Nat) (ht : P.underlying t = some (.slice e)) (hc : P.cellsOf e = z) (hB : P.bytesOf e = B) (h : OpT P e en p) :
    OpT P t (fun l : List α => [.sl false z () (l.map en)]) (fun l => l.length * B ≤ 140737488351232 ∧ ∀ a ∈ l, p a) := fun H enc w fuel cs x hx hw => by
  rcases Deep.open_slice ht hx with ⟨rfl, rfl⟩ | ⟨ad, len, cap, m, n, D, Pl, rfl, _, hl, hm, hmm, rfl, hel⟩
  · refine ⟨[], ⟨by simp, fun _ h => by cases h⟩, .one ?_⟩
    exact Rd.sl (rows := []) (fun _ _ => undef) (Nat.le_refl _) (by simp [maxLen]) (fun r hr => by cases hr) (fun i r j t hr => by simp at hr) (fun i r j t hr => by simp at hr)
  · simp only [if_true] at hmm
    replace hmm := hmm.symm
    subst hmm
    have hel' : ∀ i, i < len → ∃ a, p a ∧ ∃ c : List Value, c.length = z ∧ RdL (Old w) w (en a) c ∧ ∀ j u, c[j]? = some u → w.cell? (ad.add (i * z + j)) = some u := fun i hi => by
      obtain ⟨c, h1, h2⟩ := hel i (by omega)
      have hww : ∀ k ∈ (D i).weights P e, k ≤ 140737488351232 := fun k hk => hw k (by
        simp only [DataW.weights, ht, List.mem_cons, List.mem_append]
        exact .inr (.inl (mem_allW hk (List.mem_map.2 ⟨i, by simpa using hi, rfl⟩))))
      obtain ⟨a, hpa, ha⟩ := h H enc w n c _ h2 hww
      obtain ⟨_, hlen, hcell⟩ := World.cells?_some h1
      refine ⟨a, hpa, c, hlen.trans hc, ha, fun j u hu => ?_⟩
      have hj : j < c.length := (List.getElem?_eq_some_iff.1 hu).1
      have := hcell j (by omega)
      rw [hu, Deep.add_add, hc] at this
      exact this
    have : ∃ l : List α, l.length = len ∧ ∀ i a, l[i]? = some a → p a ∧ ∃ c : List Value, c.length = z ∧ RdL (Old w) w (en a) c ∧ ∀ j u, c[j]? = some u → w.cell? (ad.add (i * z + j)) = some u := by
      clear hx hw hel hl
      induction len with
      | zero => exact ⟨[], rfl, fun i a h => by simp at h⟩
      | succ len ih =>
        obtain ⟨l, hl, hh⟩ := ih (fun i hi => hel' i (by omega))
        obtain ⟨a, ha⟩ := hel' len (by omega)
        refine ⟨l ++ [a], by simp [hl], fun i b hb => ?_⟩
        by_cases hi : i < l.length
        · exact hh i b (by rwa [List.getElem?_append_left hi] at hb)
        · have hi' : i = len := by
            have := (List.getElem?_eq_some_iff.1 hb).1
            simp at this
            omega
          subst hi'
          rw [List.getElem?_append_right (by omega), hl] at hb
          simp at hb
          subst hb
          exact ha
    obtain ⟨l, hll, hh⟩ := this
    have hsz : len * B ≤ 140737488351232 := by
      have z := hw ((((List.range len).map D).length + ((List.range (cap - len)).map fun j => D (len + j)).length) * P.bytesOf e) (by simp [DataW.weights, ht])
      rw [hB] at z
      simp only [List.length_map, List.length_range] at z
      exact Nat.le_trans (Nat.mul_le_mul_right _ (by omega)) z
    refine ⟨l, ⟨by rw [hll]; exact hsz, fun a ha => ?_⟩, .one ?_⟩
    · obtain ⟨i, hi, rfl⟩ := List.mem_iff_getElem.1 ha
      exact (hh i _ (List.getElem?_eq_getElem hi)).1
    · have key : ∀ i r j t, (l.map en)[i]? = some r → r[j]? = some t → w.cell? (ad.add (i * z + j)) = some ((w.cell? (ad.add (i * z + j))).getD undef) ∧ Rd (Old w) w t ((w.cell? (ad.add (i * z + j))).getD undef) := fun i r j t hr hj => by
        rw [List.getElem?_map] at hr
        cases hi : l[i]? with
        | none => simp [hi] at hr
        | some a =>
          simp [hi] at hr
          subst hr
          obtain ⟨_, c, h1, h2, h3⟩ := hh i a hi
          have hjl : j < c.length := by rw [← h2.1]; exact (List.getElem?_eq_some_iff.1 hj).1
          have h4 := h3 j c[j] (List.getElem?_eq_getElem hjl)
          rw [h4]
          exact ⟨rfl, h2.2 j t _ hj (List.getElem?_eq_getElem hjl)⟩
      have := Rd.sl (S := Old w) (w := w) (z := z) (cap := cap) (a := some ad) (rows := l.map en) (fun i j => (w.cell? (ad.add (i * z + j))).getD undef) (by simp; omega) hm (fun r hr => by
        obtain ⟨a, ha, rfl⟩ := List.mem_map.1 hr
        obtain ⟨i, hi, rfl⟩ := List.mem_iff_getElem.1 ha
        obtain ⟨_, c, h1, h2, h3⟩ := hh i _ (List.getElem?_eq_getElem hi)
        rw [h2.1, h1]) (fun i r j t hr hj => by
        obtain ⟨h1, h2⟩ := key i r j t hr hj
        refine ⟨ad, rfl, ?_, h1⟩
        have := old_of_cell h1
        rwa [add_block] at this) (fun i r j t hr hj => (key i r j t hr hj).2)
      rw [List.length_map, hll] at this
      exact this
theorem FT.one {α : Type} {e : α → List T} {p : α → Prop} {f : Field} {off z : Nat} (ho : f.offset = off) (hc : P.cellsOf f.type = z) (h : OpT P f.type e p) : FT P [f] off z e p := fun H enc w n cs xs hx hl hw hlen => by
  match xs, hl with
  | [x], _ =>
    have h0 := hx 0 f rfl
    rw [ho, hc, List.take_of_length_le (by rw [List.length_drop]; omega)] at h0
    exact h H enc w n _ x (by simpa using h0) (fun m hm => hw m (by simp only [List.map_cons, List.map_nil, DataW.weightsEach, List.append_nil]; exact hm))
theorem FT.cons {α β : Type} {e : α → List T} {e' : β → List T} {p : α → Prop} {p' : β → Prop} {f : Field} {fs : List Field} {off z z' : Nat} (ho : f.offset = off) (hc : P.cellsOf f.type = z) (h : OpT P f.type e p) (h' : FT P fs (off + z) z' e' p') :
    FT P (f :: fs) off (z + z') (fun a : α × β => e a.1 ++ e' a.2) (fun a => p a.1 ∧ p' a.2) := fun H enc w n cs xs hx hl hw hlen => by
  match xs, hl with
  | x :: xs, hl =>
    have h0 := hx 0 f rfl
    rw [ho, hc] at h0
    obtain ⟨a, hpa, ha⟩ := h H enc w n _ x (by simpa using h0) (fun m hm => hw m (by simp only [List.map_cons, DataW.weightsEach, List.mem_append]; exact .inl hm))
    obtain ⟨b, hpb, hb⟩ := h' H enc w n cs xs (fun i g hg => by simpa using hx (i + 1) g (by simpa using hg)) (by simpa using hl)
      (fun m hm => hw m (by simp only [List.map_cons, DataW.weightsEach, List.mem_append]; exact .inr hm)) (by omega)
    refine ⟨(a, b), ⟨hpa, hpb⟩, ?_⟩
    have := ha.app hb
    rwa [← List.drop_drop, List.take_append_drop] at this
theorem OpT.struct {α β : Type} {e : α → List T} {e' : β → List T} {p : α → Prop} {q : β → Prop} {fs : Array Field} {z : Nat} (ht : P.underlying t = some (.struct fs)) (hc : P.cellsOf t = z) (h : FT P fs.toList 0 z e p) (g : α → β) (hg : ∀ a, e' (g a) = e a) (hq : ∀ a, p a → q (g a)) :
    OpT P t e' q := fun H enc w fuel cs x hx hw => by
  obtain ⟨xs, n, _, rfl, hl, hlen, hf⟩ := DataW.trod_struct ht hx
  obtain ⟨a, hpa, ha⟩ := h H enc w n cs xs (fun i f hi => hf i f (by simpa using hi)) (by simpa using hlen) (fun m hm => hw m (by simpa only [DataW.weights, ht] using hm)) (by omega)
  exact ⟨g a, hq a hpa, by rw [hg]; simpa using ha⟩
theorem OpT.weaken {α : Type} {e : α → List T} {p q : α → Prop} (h : OpT P t e p) (hq : ∀ a, p a → q a) : OpT P t e q := fun H enc w fuel cs x hx hw => by
  obtain ⟨a, hp, ha⟩ := h H enc w fuel cs x hx hw
  exact ⟨a, hq a hp, ha⟩
/-- A parameter's value. -/
theorem OpT.param {α : Type} {e : α → List T} {p : α → Prop} (h : OpT P t e p) {H : Type} {enc : TypeId × Value → H} {W : World} {v : Value} {x : DataW H} {ps : List MemPlace} {ts : List TypeId} {ds : List (DataW H)} (hT : DataW.Trod enc P W 0 (fun _ => true) true t v x ps)
    (hsz : (DataW.weightsEach P ts ds).all (· ≤ reachBytes) = true) (j : Nat) (hj : ts[j]? = some t) (hd : ds[j]? = some x) : ∃ a, p a ∧ RdL (Old W) W (e a) v.cells.toList := by
  obtain ⟨fuel, hf⟩ := hT
  exact h H enc W fuel _ _ hf (fun n hn => by
    have := List.all_eq_true.1 hsz _ (DataW.weights_mem_each hj hd n hn)
    exact of_decide_eq_true this)
theorem lt_of_trod {H : Type} {enc : TypeId × Value → H} {W : World} {v : Value} {x : DataW H} {ps : List MemPlace} (h : DataW.Trod enc P W 0 (fun _ => true) true t v x ps) : ∀ y ∈ ps, y.block < W.heap.size := by
  obtain ⟨m, hm⟩ := h
  exact DataW.trod_lt m _ _ _ hm
/-- An argument, and how it reads. -/
def RdA (w : World) : AV → Value → Prop
  | .one t, v => Rd (Old w) w t v
  | .agg ts, v => ∃ vs : List Value, v = .agg vs.toArray ∧ RdL (Old w) w ts vs
  | .ptr _, _ => False
def RdAs (w : World) : List AV → List Value → Prop
  | [], [] => True
  | a :: as, v :: vs => RdA w a v ∧ RdAs w as vs
  | _, _ => False
theorem rdL_ghost {w : World} : ∀ {ts : List T} {vs : List Value}, RdL (Old w) w ts vs → ∃ gs : List G, gs.map er = ts ∧ gs.map hdr = vs ∧ ∀ t ∈ gs, Rp (Old w) w t ∧ ∀ b, cnt b t = 0
  | [], [], _ => ⟨[], rfl, rfl, fun t h => by cases h⟩
  | t :: ts, v :: vs, h => by
    obtain ⟨gs, e1, e2, e3⟩ := rdL_ghost (ts := ts) (vs := vs) ⟨by simpa using h.1, fun k t v ht hv => h.2 (k + 1) t v (by simpa using ht) (by simpa using hv)⟩
    obtain ⟨f1, f2, f3⟩ := gro_ok (h.2 0 t v rfl rfl)
    exact ⟨gro t v :: gs, by simp [gro_er, e1], by simp [f1, e2], fun t' ht' => by
      rcases List.mem_cons.1 ht' with rfl | ht'
      · exact ⟨f2, f3⟩
      · exact e3 t' ht'⟩
  | [], _ :: _, h => by simp [RdL] at h
  | _ :: _, [], h => by simp [RdL] at h
theorem rdAs_ghost {w : World} : ∀ {as : List AV} {vs : List Value}, RdAs w as vs → ∃ gs : List GA, gs.map GA.er = as ∧ gs.map GA.val = vs ∧ (∀ x ∈ gs, x.ok (Old w) w ∧ noPtr x) ∧ ∀ b, treeCnt b gs + ptrCnt b gs = 0
  | [], [], _ => ⟨[], rfl, rfl, fun x h => (by cases h), fun b => rfl⟩
  | a :: as, v :: vs, h => by
    obtain ⟨gs, e1, e2, e3, e4⟩ := rdAs_ghost h.2
    have h1 := h.1
    cases a with
    | one t =>
      obtain ⟨f1, f2, f3⟩ := gro_ok (show Rd (Old w) w t v from h1)
      refine ⟨.one (gro t v) :: gs, by simp [GA.er, gro_er, e1], by simp [GA.val, f1, e2], fun x hx => ?_, fun b => ?_⟩
      · rcases List.mem_cons.1 hx with rfl | hx
        · exact ⟨⟨fun t ht => by simp only [GA.ts, List.mem_singleton] at ht; subst ht; exact f2, fun A ts e => by cases e⟩, trivial⟩
        · exact e3 x hx
      · have := e4 b
        have := f3 b
        simp only [treeCnt, ptrCnt, List.flatMap_cons, cntL_append, GA.ts, GA.pb, cntL] at *
        omega
    | agg ts =>
      obtain ⟨us, rfl, hR⟩ := h1
      obtain ⟨ys, f1, f2, f3⟩ := rdL_ghost hR
      refine ⟨.agg ys :: gs, by simp [GA.er, f1, e1], by simp [GA.val, f2, e2], fun x hx => ?_, fun b => ?_⟩
      · rcases List.mem_cons.1 hx with rfl | hx
        · exact ⟨⟨fun t ht => (f3 t ht).1, fun A ts e => by cases e⟩, trivial⟩
        · exact e3 x hx
      · have h4 := e4 b
        have z : cntL b ys = 0 := by
          have : ∀ l : List G, (∀ t ∈ l, cnt b t = 0) → cntL b l = 0 := fun l => by
            induction l with
            | nil => intro _; rfl
            | cons t l ih => intro h; simp [cntL, h t (List.mem_cons_self ..), ih (fun t ht => h t (List.mem_cons_of_mem _ ht))]
          exact this _ (fun t ht => (f3 t ht).2 b)
        simp only [treeCnt, ptrCnt, List.flatMap_cons, cntL_append, GA.ts, GA.pb] at *
        omega
    | ptr => exact h1.elim
  | [], _ :: _, h => h.elim
  | _ :: _, [], h => h.elim
/-- A law is asked. -/
theorem asked {f : Nat} {as : List AV} {args : Array Value} {w : World} {u : Value} {os : List (List T)} (hT : Tells P f as ⟨[.one (.pv u)], os⟩) (ha : RdAs w as args.toList) : Calls P f args w fun e w' => e = .returned u ∧ Below w.heap.size w w' := by
  obtain ⟨gs, e1, e2, e3, e4⟩ := rdAs_ghost ha
  have := hT (Old w) gs w e1 (fun b h => h) (fun x hx => (e3 x hx).1) (fun b => by have := e4 b; omega) (fun b hb => by have := e4 b; omega)
  rw [e2] at this
  refine this.mono ?_
  rintro e w1 ⟨rs, os', rfl, er1, er2, hrs, hos, hOut, hc1, hc2, hF, _⟩
  have hrs' : rs = [.one (.pv u)] := by
    cases rs with
    | nil => simp at er1
    | cons y ys =>
      cases ys with
      | cons => simp at er1
      | nil =>
        simp at er1
        cases y with
        | one t =>
          simp only [GA.er, AV.one.injEq] at er1
          cases t <;> simp_all [er]
        | _ => simp [GA.er] at er1
  subst hrs'
  exact ⟨rfl, ⟨hF.os, hF.tape, hF.output, hF.size, fun b hb => hF.block b hb (e4 b)⟩⟩
end
end Go.X

/- A -/
namespace Go.X
set_option maxRecDepth 100000
set_option maxHeartbeats 8000000
abbrev iT (a : Int) : T := .pv (.int .i64 a)
abbrev bT (a : Bool) : T := .pv (.bool a)
abbrev sT (s : ByteArray) : T := .pv (.string s)
abbrev uT (a : UInt8) : T := .pv (.int .u8 a.toNat)
abbrev slT {α : Type} (o : Bool) (z : Nat) (f : α → List T) (l : List α) : T := .sl o z () (l.map f)
abbrev bR (a : Bool) : List T := [bT a]
abbrev sR (a : ByteArray) : List T := [sT a]
abbrev iR (a : Int) : List T := [iT a]
abbrev uR (a : UInt8) : List T := [uT a]
/-- What is left of a measure. -/
def left (a : Int) : Int := if a < 0 then -1 else a
def Sane (f : Int → Int) : Prop := ∀ k, 0 ≤ k → f k ≤ k
def SaneL (fs : List (Int → Int)) : Prop := ∀ f ∈ fs, Sane f
theorem SaneL.nil : SaneL [] := fun _ h => by cases h
theorem SaneL.cons {f : Int → Int} {fs : List (Int → Int)} (h : Sane f) (t : SaneL fs) : SaneL (f :: fs) := fun g hg => by
  rcases List.mem_cons.1 hg with rfl | hg
  · exact h
  · exact t _ hg
/-- One measure behind the other, as long as something is left. -/
def szAll : List (Int → Int) → Int → Int
  | [], k => k
  | f :: fs, k => if f k < 0 then -1 else szAll fs (f k)
def ExL (n : Int) : List (Int → Int) → Prop
  | [] => True
  | f :: fs => (∃ j, 0 ≤ j ∧ j ≤ n ∧ 0 ≤ f j) ∧ ExL n fs
theorem Sane.all {fs : List (Int → Int)} (h : SaneL fs) : Sane (szAll fs) := by
  induction fs with
  | nil => intro k hk; exact Int.le_refl _
  | cons f fs ih =>
    intro k hk
    have h1 := h f (List.mem_cons_self ..) k hk
    simp only [szAll]
    split
    · omega
    · have := ih (fun g hg => h g (List.mem_cons_of_mem _ hg)) (f k) (by omega)
      omega
theorem szAll_ex {fs : List (Int → Int)} (h : SaneL fs) {k n : Int} (hk : 0 ≤ k) (hn : k ≤ n) (h0 : 0 ≤ szAll fs k) : ExL n fs := by
  induction fs generalizing k with
  | nil => trivial
  | cons f fs ih =>
    have h1 := h f (List.mem_cons_self ..) k hk
    simp only [szAll] at h0
    split at h0
    · omega
    · exact ⟨⟨k, hk, hn, by omega⟩, ih (fun g hg => h g (List.mem_cons_of_mem _ hg)) (k := f k) (by omega) (by omega) h0⟩
theorem Sane.sub (n : Nat) : Sane (fun k => k - n) := fun k hk => by show k - (n : Int) ≤ k; omega
theorem Sane.left (n : Nat) : Sane (fun k => left (k - n)) := fun k hk => by
  show Go.X.left (k - (n : Int)) ≤ k
  unfold Go.X.left
  split <;> omega
theorem left_nn {a : Int} (h : ¬ left a < 0) : left a = a := by
  unfold left at h ⊢
  split at h
  · omega
  · rw [if_neg (by assumption)]
theorem left_in {k : Int} {n : Nat} (h : 0 ≤ left (k - n)) : (n : Int) ≤ k := by
  unfold left at h
  split at h <;> omega
/-- What is left of a measure behind a row of things. -/
def szSl {α : Type} (f : α → Int → Int) (l : List α) (k : Int) : Int := szAll ((fun k => k - l.length) :: l.map f) k
theorem Sane.sl {α : Type} {f : α → Int → Int} (hf : ∀ a, Sane (f a)) (l : List α) : Sane (szSl f l) := by
  refine Sane.all (.cons (.sub _) fun g hg => ?_)
  obtain ⟨a, _, rfl⟩ := List.mem_map.1 hg
  exact hf a
theorem ExL_map {α : Type} {f : α → Int → Int} {n : Int} : ∀ {l : List α}, ExL n (l.map f) → ∀ a ∈ l, ∃ j, 0 ≤ j ∧ j ≤ n ∧ 0 ≤ f a j
  | [], _, a, h => by cases h
  | b :: l, ⟨h1, h2⟩, a, h => by
    rcases List.mem_cons.1 h with rfl | h
    · exact h1
    · exact ExL_map h2 a h
theorem szSl_in {α : Type} {f : α → Int → Int} {P : α → Prop} {n : Nat} (hf : ∀ a, Sane (f a)) (hP : ∀ a j, 0 ≤ j → j ≤ (n : Int) → 0 ≤ f a j → P a) {l : List α} {k : Int} (hk : 0 ≤ k) (hn : k ≤ n) (h : 0 ≤ szSl f l k) : l.length ≤ n ∧ ∀ a ∈ l, P a := by
  obtain ⟨⟨j, h1, h2, h3⟩, h4⟩ := szAll_ex (.cons (.sub _) fun g hg => by obtain ⟨a, _, rfl⟩ := List.mem_map.1 hg; exact hf a) hk hn h
  refine ⟨by have h5 : (0 : Int) ≤ j - (l.length : Nat) := h3; omega, fun a ha => ?_⟩
  obtain ⟨j, q1, q2, q3⟩ := ExL_map h4 a ha
  exact hP a j q1 q2 q3
def szStr (s : ByteArray) (k : Int) : Int := left (k - s.size)
theorem szStr_sane (s : ByteArray) : Sane (szStr s) := Sane.left _
theorem fill_get {α : Type} (f : α → List T) (l : List α) (z : List T) {i : Nat} (hi : i < l.length) : ((l.take i).map f ++ List.replicate (l.length - i) z)[i]? = some z := by
  rw [List.getElem?_append_right (by simp; omega), List.getElem?_replicate, if_pos (by simp; omega)]
theorem fill_set {α : Type} (f : α → List T) (l : List α) (z : List T) {i : Nat} (hi : i < l.length) : ((l.take i).map f ++ List.replicate (l.length - i) z).set i (f l[i]) = (l.take (i + 1)).map f ++ List.replicate (l.length - (i + 1)) z := by
  rw [List.set_append_right _ _ (by simp; omega), List.take_succ_eq_append_getElem hi, List.map_append, List.append_assoc]
  congr 1
  have e : l.length - i = (l.length - (i + 1)) + 1 := by omega
  rw [e, List.replicate_succ]
  have : i - ((l.take i).map f).length = 0 := by simp; omega
  rw [this]
  rfl
theorem fill_len {α : Type} (f : α → List T) (l : List α) (z : List T) {i : Nat} (hi : i ≤ l.length) : ((l.take i).map f ++ List.replicate (l.length - i) z).length = l.length := by simp; omega
theorem fill_end {α : Type} (f : α → List T) (l : List α) (z : List T) : (l.take l.length).map f ++ List.replicate (l.length - l.length) z = l.map f := by simp
/-- As far as i they are the same. -/
theorem same_step {α : Type} {l m : List α} {i : Nat} (hl : i < l.length) (hm : i < m.length) (h : l.take i = m.take i) (he : l[i] = m[i]) : l.take (i + 1) = m.take (i + 1) := by
  rw [List.take_succ_eq_append_getElem hl, List.take_succ_eq_append_getElem hm, h, he]
theorem same_end {α : Type} {l m : List α} {i : Nat} (hl : l.length ≤ i) (hm : m.length ≤ i) (h : l.take i = m.take i) : l = m := by
  rwa [List.take_of_length_le hl, List.take_of_length_le hm] at h
theorem all_step {α : Type} {l : List α} {p : α → Bool} {i : Nat} (hi : i < l.length) (h : (l.take i).all p = true) (h2 : p l[i] = true) : (l.take (i + 1)).all p = true := by
  rw [List.take_succ_eq_append_getElem hi, List.all_append, h, List.all_cons, h2]; rfl
theorem all_not {α : Type} {l : List α} {p : α → Bool} {i : Nat} (hi : i < l.length) (h2 : p l[i] = false) : l.all p = false := by
  rw [List.all_eq_false]; exact ⟨l[i], List.getElem_mem hi, by simp [h2]⟩
theorem all_end {α : Type} {l : List α} {p : α → Bool} {i : Nat} (hi : l.length ≤ i) (h : (l.take i).all p = true) : l.all p = true := by
  rwa [List.take_of_length_le hi] at h
/-- The marks of n things from k on, w to each. -/
def marks {α : Type} (w : Nat) (mk : Int → α) (n : Nat) (k : Int) : List α := (List.range n).map fun i => mk (k + (w * i : Nat))
theorem marks_length {α : Type} (w : Nat) (mk : Int → α) (n : Nat) (k : Int) : (marks w mk n k).length = n := by simp [marks]
theorem marks_succ {α : Type} (w : Nat) (mk : Int → α) (n : Nat) (k : Int) : marks w mk (n + 1) k = marks w mk n k ++ [mk (k + (w * n : Nat))] := by simp [marks, List.range_succ]
theorem marks_get {α : Type} (w : Nat) (mk : Int → α) {n i : Nat} (k : Int) (h : i < n) : (marks w mk n k)[i]? = some (mk (k + (w * i : Nat))) := by simp [marks, h]
theorem mark_get {α : Type} (f : α → List T) (w : Nat) (mk : Int → α) (l : List α) (k : Int) {i : Nat} (hi : i < l.length) : ((marks w mk i k).map f ++ (l.drop i).map f)[i]? = some (f l[i]) := by
  rw [List.getElem?_append_right (by simp [marks_length]), List.length_map, marks_length, Nat.sub_self, List.getElem?_map, List.getElem?_drop]
  simp [hi]
theorem mark_set {α : Type} (f : α → List T) (w : Nat) (mk : Int → α) (l : List α) (k : Int) {i : Nat} (hi : i < l.length) : ((marks w mk i k).map f ++ (l.drop i).map f).set i (f (mk (k + (w * i : Nat)))) = (marks w mk (i + 1) k).map f ++ (l.drop (i + 1)).map f := by
  rw [List.set_append_right _ _ (by simp [marks_length]), List.length_map, marks_length, Nat.sub_self, List.drop_eq_getElem_cons hi, List.map_cons, List.set_cons_zero, marks_succ, List.map_append, List.append_assoc]
  rfl
theorem mark_len {α : Type} (f : α → List T) (w : Nat) (mk : Int → α) (l : List α) (k : Int) {i : Nat} (hi : i ≤ l.length) : ((marks w mk i k).map f ++ (l.drop i).map f).length = l.length := by simp [marks_length]; omega
theorem mark_reget {α : Type} (f : α → List T) (w : Nat) (mk : Int → α) (l : List α) (k : Int) {i : Nat} (hi : i < l.length) (r : List T) : (((marks w mk i k).map f ++ (l.drop i).map f).set i r)[i]? = some r := by
  rw [List.getElem?_set_self (by rw [mark_len f w mk l k (by omega)]; exact hi)]
theorem mark_end {α : Type} (f : α → List T) (w : Nat) (mk : Int → α) (l : List α) (k : Int) : (marks w mk l.length k).map f ++ (l.drop l.length).map f = (marks w mk l.length k).map f := by simp
theorem marks_take {α β : Type} (f : α → β) (w : Nat) (mk : Int → α) (n : Nat) (k : Int) : ((marks w mk n k).map f).take n = (marks w mk n k).map f := by rw [List.take_of_length_le (by simp [marks_length])]
def mkB (k : Int) : Bool := k.tmod 3 == 0
theorem byte_neq (a b : UInt8) : binV .neq (.int .u8 a.toNat) (.int .u8 b.toNat) = some (.bool (!decide (a = b))) := by
  have : ((a.toNat : Int) = b.toNat) ↔ a = b := by rw [Int.ofNat_inj]; exact UInt8.toNat_inj
  rw [bI_neq]
  by_cases h : a = b
  · subst h; simp
  · have h2 : ¬ ((a.toNat : Int) = b.toNat) := fun e => h (this.1 e)
    simp [h, bne, h2]
def digs (n : Nat) (out : ByteArray) : ByteArray := if h : n = 0 then out else digs (n / 10) (⟨#[UInt8.ofNat (48 + n % 10)]⟩ ++ out)
termination_by n
decreasing_by omega
def mkS (k : Int) : ByteArray := if k ≤ 0 then ⟨#[109, 48]⟩ else ⟨#[109]⟩ ++ digs k.toNat ⟨#[]⟩
def mkI (k : Int) : Int := k
def mkU (k : Int) : UInt8 := UInt8.ofNat (k % 256).toNat
theorem mkU_wrap (k : Int) : IntKind.u8.wrap k = ((mkU k).toNat : Int) := by
  have h1 := Int.emod_nonneg k (show (256 : Int) ≠ 0 by decide)
  have h2 := Int.emod_lt_of_pos k (show (0 : Int) < 256 by decide)
  have h3 : (mkU k).toNat = (k % 256).toNat := by
    rw [mkU, UInt8.toNat_ofNat', Nat.mod_eq_of_lt (by omega)]
  rw [h3, IntKind.wrap_u8]
  omega
def x_l_markText : FnX := ⟨20, [.tmp 2],
  .seq (.reg [⟨none, some 2, 2, .mv (.k (.one (.pv (.string ⟨#[]⟩))))⟩])
 (.seq (.seq (.reg [⟨none, some 4, 4, .mv (.t 0)⟩,
   ⟨none, some 5, 5, .bin .leq (.t 4) (.k (.one (.pv (.int .i64 0))))⟩])
 (.cond 5 (.seq (.reg [⟨none, some 2, 2, .mv (.k (.one (.pv (.string ⟨#[109, 48]⟩))))⟩])
 (.ret)) (.skip)))
 (.seq (.reg [⟨none, some 3, 3, .mv (.k (.one (.pv (.string ⟨#[]⟩))))⟩])
 (.seq (.block 0 (.loop [0, 3] (.seq (.seq (.reg [⟨none, some 6, 6, .mv (.t 0)⟩,
   ⟨none, some 7, 7, .bin .gtr (.t 6) (.k (.one (.pv (.int .i64 0))))⟩])
 (.cond 7 (.skip) (.exit 0)))
 (.block 1 (.seq (.reg [⟨none, some 8, 8, .mv (.t 0)⟩,
   ⟨none, some 9, 9, .bin .rem (.t 8) (.k (.one (.pv (.int .i64 10))))⟩,
   ⟨none, some 10, 10, .bin .add (.k (.one (.pv (.int .i64 48)))) (.t 9)⟩,
   ⟨none, some 11, 11, .conv (.int .u8) (.t 10)⟩,
   ⟨none, some 12, 12, .bslice 1 [(.t 11)]⟩,
   ⟨none, some 13, 13, .conv .b2s (.t 12)⟩,
   ⟨none, some 14, 14, .mv (.t 3)⟩,
   ⟨none, some 15, 15, .bin .add (.t 13) (.t 14)⟩,
   ⟨none, some 3, 3, .mv (.t 15)⟩])
 (.reg [⟨none, some 16, 16, .mv (.t 0)⟩,
   ⟨none, some 17, 17, .bin .quo (.t 16) (.k (.one (.pv (.int .i64 10))))⟩,
   ⟨none, some 0, 0, .mv (.t 17)⟩]))))))
 (.norm [3] (.seq (.reg [⟨none, some 18, 18, .mv (.t 3)⟩,
   ⟨none, some 19, 19, .bin .add (.k (.one (.pv (.string ⟨#[109]⟩)))) (.t 18)⟩,
   ⟨none, some 2, 2, .mv (.t 19)⟩])
 (.ret))))))⟩
abbrev C_l_markText (Te : Nat → List AV → Res → Prop) : Prop := ∀ (k : Int) (hk : 0 ≤ k ∧ k ≤ 2 ^ 48), Te 67 [.one (iT k)] ⟨[.one (sT (mkS k))], [[iT k]]⟩
theorem r_l_markText {Te : Nat → List AV → Res → Prop} : ∀ (k : Int) (hk : 0 ≤ k ∧ k ≤ 2 ^ 48), RunFn Te x_l_markText [.one (iT k)] ⟨[.one (sT (mkS k))], [[iT k]]⟩ := by
  intro k hk
  refine ⟨by simp -implicitDefEqProofs (maxSteps := 1000000) only [x_l_markText, go_sem], ?_⟩
  simp -implicitDefEqProofs (maxSteps := 1000000) only [x_l_markText, go_sem]
  refine ⟨fun h => ?_, fun h => ?_⟩
  · simp only [decide_eq_true_eq] at h
    simp only [mkS, if_pos h]
  · simp only [decide_eq_false_iff_not] at h
    refine loop_of (σ := Nat × ByteArray) (fun x => ⟨[(0, .one (.pv (.int .i64 x.1))), (3, .one (.pv (.string x.2)))], [], [(0, [iT k])]⟩) (fun x => x.2.size ≤ 15 ∧ x.1 * 10 ^ x.2.size ≤ 2 ^ 48 ∧ digs k.toNat ⟨#[]⟩ = digs x.1 x.2) (fun x => x.1) (k.toNat, ⟨#[]⟩) ?_ ?_ ?_
    · simp -implicitDefEqProofs (maxSteps := 1000000) only [go_sem]
      rw [Int.toNat_of_nonneg hk.1]
    · exact ⟨by simp [ByteArray.size], by simp [ByteArray.size]; omega, rfl⟩
    · rintro ⟨j, s⟩ ⟨h1, h2, h3⟩
      simp only at h1 h2 h3
      simp -implicitDefEqProofs (maxSteps := 1000000) only [go_sem]
      have hj : j ≤ 2 ^ 48 := Nat.le_trans (Nat.le_mul_of_pos_right j (Nat.pow_pos (by decide))) h2
      refine ⟨fun h0 => ?_, fun h0 => ?_⟩
      · have h0' : 0 < j := by simp only [decide_eq_true_eq] at h0; omega
        have hs : s.size ≤ 14 := by
          by_cases h15 : s.size ≤ 14
          · exact h15
          · have e1 := Nat.pow_le_pow_right (n := 10) (by decide) (show 15 ≤ s.size by omega)
            have e2 := Nat.le_mul_of_pos_left (10 ^ s.size) h0'
            omega
        have em : (j : Int).tmod 10 = ((j % 10 : Nat) : Int) := by rw [Int.tmod_eq_emod_of_nonneg (by omega)]; rfl
        have ed : (j : Int).tdiv 10 = ((j / 10 : Nat) : Int) := by rw [Int.tdiv_eq_ediv_of_nonneg (by omega)]; rfl
        have hlt : j % 10 < 10 := Nat.mod_lt _ (by decide)
        rw [em, ed, IntWalk.i64_in _ (by omega), IntWalk.i64_in _ (by omega), IntWalk.u8_in _ (by omega)]
        refine ⟨rfl, ?_⟩
        have e5 : bytesOf [[(Tr.pv (Value.int IntKind.u8 (48 + ((j % 10 : Nat) : Int))) : T)]] = [UInt8.ofNat (48 + j % 10)] := by
          simp only [bytesOf, List.map_cons, List.map_nil, List.headD_cons, byteOf]
          rw [show (48 + ((j % 10 : Nat) : Int)).toNat = 48 + j % 10 by omega]
        rw [e5, show decide ([UInt8.ofNat (48 + j % 10)].toArray.size + s.size ≤ 4294967296) = true by simp; omega]
        simp only [cond_true, onSome]
        have esz : ((⟨[UInt8.ofNat (48 + j % 10)].toArray⟩ : ByteArray) ++ s).size = s.size + 1 := by rw [ByteArray.size_append]; show 1 + s.size = s.size + 1; omega
        refine ⟨(j / 10, ⟨[UInt8.ofNat (48 + j % 10)].toArray⟩ ++ s), rfl, ⟨by simp only [esz]; omega, ?_, ?_⟩, Nat.div_lt_self h0' (by decide)⟩
        · simp only [esz]
          have e6 : j / 10 * 10 ^ (s.size + 1) = (j / 10 * 10) * 10 ^ s.size := by rw [Nat.pow_succ, Nat.mul_assoc, Nat.mul_comm 10]
          rw [e6]
          exact Nat.le_trans (Nat.mul_le_mul_right _ (by omega)) h2
        · rw [h3, digs, dif_neg (by omega)]
      · have h0' : j = 0 := by simp only [decide_eq_false_iff_not] at h0; omega
        subst h0'
        rw [show decide (#[(109 : UInt8)].size + s.size ≤ 4294967296) = true by simp; omega]
        simp only [cond_true, onSome]
        have e0 : digs 0 s = s := by rw [digs, dif_pos rfl]
        rw [e0] at h3
        simp only [mkS, if_neg h, h3]
end Go.X

/- C -/
namespace Go.X
set_option maxRecDepth 100000
set_option maxHeartbeats 8000000
structure Msg where
  Kind : Int
  From : Int
  To : Int
  Seq : Int
  Key : ByteArray
  Text : ByteArray
  N : Int
  Code : Int
  deriving DecidableEq
abbrev Msg.row (x : Msg) : List T := [iT x.Kind, iT x.From, iT x.To, iT x.Seq, sT x.Key, sT x.Text, iT x.N, iT x.Code]
def Msg.In (n : Nat) (x : Msg) : Prop := x.Key.size ≤ n ∧ x.Text.size ≤ n
theorem Msg.In.mono {x : Msg} {n m : Nat} (h : x.In n) (hn : n ≤ m) : x.In m := by
  simp only [Msg.In] at h ⊢
  exact ⟨Nat.le_trans h.1 hn, Nat.le_trans h.2 hn⟩
def szMsg (x : Msg) (k : Int) : Int := szAll [(fun k => k - (x.Key.size : Nat)), (fun k => k - (x.Text.size : Nat))] k
theorem szMsg_sane (x : Msg) : Sane (szMsg x) := Sane.all (.cons (Sane.sub _) (.cons (Sane.sub _) .nil))
theorem szMsg_in {x : Msg} {k : Int} {n : Nat} (hk : 0 ≤ k) (hn : k ≤ n) (h : 0 ≤ szMsg x k) : x.In n := by
  obtain ⟨⟨j0, a0, b0, c0⟩, ⟨j1, a1, b1, c1⟩, _⟩ := szAll_ex (.cons (Sane.sub _) (.cons (Sane.sub _) .nil)) hk hn h
  exact ⟨(by have q : (0 : Int) ≤ j0 - _ := c0; omega), (by have q : (0 : Int) ≤ j1 - _ := c1; omega)⟩
def mkMsg (k : Int) : Msg := ⟨k, k + 1, k + 1 + 1, k + 1 + 1 + 1, mkS (k + 1 + 1 + 1 + 1), mkS (k + 1 + 1 + 1 + 1 + 1), k + 1 + 1 + 1 + 1 + 1 + 1, k + 1 + 1 + 1 + 1 + 1 + 1 + 1⟩
def x_l_szMsg : FnX := ⟨20, [.tmp 4],
  .seq (.reg [⟨none, some 2, 2, .box (.t 0)⟩,
   ⟨none, some 4, 4, .mv (.k (.one (.pv (.int .i64 0))))⟩])
 (.seq (.reg [⟨none, some 5, 5, .mv (.t 1)⟩,
   ⟨none, some 6, 6, .faddr (.t 2) 4⟩,
   ⟨none, some 7, 7, .load none (.t 6)⟩,
   ⟨none, some 8, 8, .slen (.t 7)⟩,
   ⟨none, some 9, 9, .bin .sub (.t 5) (.t 8)⟩,
   ⟨none, some 1, 1, .mv (.t 9)⟩])
 (.seq (.seq (.reg [⟨none, some 10, 10, .mv (.t 1)⟩,
   ⟨none, some 11, 11, .bin .lss (.t 10) (.k (.one (.pv (.int .i64 0))))⟩])
 (.cond 11 (.seq (.reg [⟨none, some 4, 4, .mv (.k (.one (.pv (.int .i64 (-1)))))⟩])
 (.ret)) (.skip)))
 (.seq (.reg [⟨none, some 12, 12, .mv (.t 1)⟩,
   ⟨none, some 13, 13, .faddr (.t 2) 5⟩,
   ⟨none, some 14, 14, .load none (.t 13)⟩,
   ⟨none, some 15, 15, .slen (.t 14)⟩,
   ⟨none, some 16, 16, .bin .sub (.t 12) (.t 15)⟩,
   ⟨none, some 1, 1, .mv (.t 16)⟩])
 (.seq (.seq (.reg [⟨none, some 17, 17, .mv (.t 1)⟩,
   ⟨none, some 18, 18, .bin .lss (.t 17) (.k (.one (.pv (.int .i64 0))))⟩])
 (.cond 18 (.seq (.reg [⟨none, some 4, 4, .mv (.k (.one (.pv (.int .i64 (-1)))))⟩])
 (.ret)) (.skip)))
 (.seq (.reg [⟨none, some 19, 19, .mv (.t 1)⟩,
   ⟨none, some 4, 4, .mv (.t 19)⟩])
 (.ret))))))⟩
abbrev C_l_szMsg (Te : Nat → List AV → Res → Prop) : Prop := ∀ (x : Msg) (k : Int) (hx : x.In (2 ^ 48)) (hk : 0 ≤ k ∧ k ≤ 2 ^ 48), Te 11 [.agg x.row, .one (iT k)] ⟨[.one (iT (szMsg x k))], [x.row, [iT k]]⟩
theorem r_l_szMsg {Te : Nat → List AV → Res → Prop} : ∀ (x : Msg) (k : Int) (hx : x.In (2 ^ 48)) (hk : 0 ≤ k ∧ k ≤ 2 ^ 48), RunFn Te x_l_szMsg [.agg x.row, .one (iT k)] ⟨[.one (iT (szMsg x k))], [x.row, [iT k]]⟩ := by
  intro x k hx hk
  refine ⟨by simp -implicitDefEqProofs (maxSteps := 1000000) only [x_l_szMsg, go_sem], ?_⟩
  obtain ⟨h0, h1⟩ := hx
  simp -implicitDefEqProofs (maxSteps := 1000000) (disch := omega) only [x_l_szMsg, go_sem, IntWalk.i64_in]
  refine ⟨fun q0 => ?_, fun q0 => ?_⟩
  · simp only [decide_eq_true_eq] at q0
    simp only [szMsg, szAll, if_pos q0]
  · simp only [decide_eq_false_iff_not] at q0
    have k1 : 0 ≤ (k - (x.Key.size : Nat)) ∧ (k - (x.Key.size : Nat)) ≤ 2 ^ 48 := ⟨by omega, Int.le_trans (Sane.sub _ _ hk.1) hk.2⟩
    try simp -implicitDefEqProofs (maxSteps := 1000000) (disch := omega) only [go_sem, IntWalk.i64_in]
    refine ⟨fun q1 => ?_, fun q1 => ?_⟩
    · simp only [decide_eq_true_eq] at q1
      simp only [szMsg, szAll, if_neg q0, if_pos q1]
    · simp only [decide_eq_false_iff_not] at q1
      have k2 : 0 ≤ ((k - (x.Key.size : Nat)) - (x.Text.size : Nat)) ∧ ((k - (x.Key.size : Nat)) - (x.Text.size : Nat)) ≤ 2 ^ 48 := ⟨by omega, Int.le_trans (Sane.sub _ _ k1.1) k1.2⟩
      simp only [szMsg, szAll, if_neg q0, if_neg q1]
def x_l_toMsg_5 : XCode := .seq (.reg [⟨none, some 28, 28, .load (some 8) (.t 3)⟩,
   ⟨none, none, 100009, .store 8 (.t 2) (.t 28)⟩])
 (.ret)
def x_l_toMsg_4 : XCode := .seq (.reg [⟨none, some 22, 22, .faddr (.t 1) 6⟩,
   ⟨none, some 23, 23, .load none (.t 22)⟩,
   ⟨none, some 24, 24, .faddr (.t 3) 6⟩,
   ⟨none, none, 100007, .store 1 (.t 24) (.t 23)⟩])
 (.seq (.reg [⟨none, some 25, 25, .faddr (.t 1) 7⟩,
   ⟨none, some 26, 26, .load none (.t 25)⟩,
   ⟨none, some 27, 27, .faddr (.t 3) 7⟩,
   ⟨none, none, 100008, .store 1 (.t 27) (.t 26)⟩])
 (x_l_toMsg_5))
def x_l_toMsg_3 : XCode := .seq (.reg [⟨none, some 16, 16, .faddr (.t 1) 4⟩,
   ⟨none, some 17, 17, .load none (.t 16)⟩,
   ⟨none, some 18, 18, .faddr (.t 3) 4⟩,
   ⟨none, none, 100005, .store 1 (.t 18) (.t 17)⟩])
 (.seq (.reg [⟨none, some 19, 19, .faddr (.t 1) 5⟩,
   ⟨none, some 20, 20, .load none (.t 19)⟩,
   ⟨none, some 21, 21, .faddr (.t 3) 5⟩,
   ⟨none, none, 100006, .store 1 (.t 21) (.t 20)⟩])
 (x_l_toMsg_4))
def x_l_toMsg_2 : XCode := .seq (.reg [⟨none, some 10, 10, .faddr (.t 1) 2⟩,
   ⟨none, some 11, 11, .load none (.t 10)⟩,
   ⟨none, some 12, 12, .faddr (.t 3) 2⟩,
   ⟨none, none, 100003, .store 1 (.t 12) (.t 11)⟩])
 (.seq (.reg [⟨none, some 13, 13, .faddr (.t 1) 3⟩,
   ⟨none, some 14, 14, .load none (.t 13)⟩,
   ⟨none, some 15, 15, .faddr (.t 3) 3⟩,
   ⟨none, none, 100004, .store 1 (.t 15) (.t 14)⟩])
 (x_l_toMsg_3))
def x_l_toMsg_1 : XCode := .seq (.reg [⟨none, some 4, 4, .faddr (.t 1) 0⟩,
   ⟨none, some 5, 5, .load none (.t 4)⟩,
   ⟨none, some 6, 6, .faddr (.t 3) 0⟩,
   ⟨none, none, 100001, .store 1 (.t 6) (.t 5)⟩])
 (.seq (.reg [⟨none, some 7, 7, .faddr (.t 1) 1⟩,
   ⟨none, some 8, 8, .load none (.t 7)⟩,
   ⟨none, some 9, 9, .faddr (.t 3) 1⟩,
   ⟨none, none, 100002, .store 1 (.t 9) (.t 8)⟩])
 (x_l_toMsg_2))
def x_l_toMsg : FnX := ⟨29, [.cell 2 (some 8)],
  .seq (.reg [⟨none, some 1, 1, .box (.t 0)⟩,
   ⟨none, some 2, 2, .alloc [.pv (.int .i64 0), .pv (.int .i64 0), .pv (.int .i64 0), .pv (.int .i64 0), .pv (.string ⟨#[]⟩), .pv (.string ⟨#[]⟩), .pv (.int .i64 0), .pv (.int .i64 0)]⟩])
 (.seq (.reg [⟨none, some 3, 3, .alloc [.pv (.int .i64 0), .pv (.int .i64 0), .pv (.int .i64 0), .pv (.int .i64 0), .pv (.string ⟨#[]⟩), .pv (.string ⟨#[]⟩), .pv (.int .i64 0), .pv (.int .i64 0)]⟩])
 (x_l_toMsg_1))⟩
abbrev C_l_toMsg (Te : Nat → List AV → Res → Prop) : Prop := ∀ (x : Msg), Te 13 [.agg x.row] ⟨[.agg x.row], [x.row]⟩
theorem r_l_toMsg {Te : Nat → List AV → Res → Prop} : ∀ (x : Msg), RunFn Te x_l_toMsg [.agg x.row] ⟨[.agg x.row], [x.row]⟩ := by
  intro x
  refine ⟨by simp -implicitDefEqProofs (maxSteps := 1000000) only [x_l_toMsg, go_sem], ?_⟩
  simp -implicitDefEqProofs (maxSteps := 1000000) only [x_l_toMsg, go_sem]
  simp -implicitDefEqProofs (maxSteps := 1000000) only [x_l_toMsg_1, go_sem]
  simp -implicitDefEqProofs (maxSteps := 1000000) only [x_l_toMsg_2, go_sem]
  simp -implicitDefEqProofs (maxSteps := 1000000) only [x_l_toMsg_3, go_sem]
  simp -implicitDefEqProofs (maxSteps := 1000000) only [x_l_toMsg_4, go_sem]
  simp -implicitDefEqProofs (maxSteps := 1000000) only [x_l_toMsg_5, go_sem]
def x_l_eqMsg : FnX := ⟨45, [.tmp 4],
  .seq (.reg [⟨none, some 2, 2, .box (.t 0)⟩,
   ⟨none, some 3, 3, .box (.t 1)⟩,
   ⟨none, some 4, 4, .mv (.k (.one (.pv (.bool false))))⟩])
 (.seq (.seq (.reg [⟨none, some 5, 5, .faddr (.t 2) 0⟩,
   ⟨none, some 6, 6, .load none (.t 5)⟩,
   ⟨none, some 7, 7, .faddr (.t 3) 0⟩,
   ⟨none, some 8, 8, .load none (.t 7)⟩,
   ⟨none, some 9, 9, .bin .neq (.t 6) (.t 8)⟩])
 (.cond 9 (.seq (.reg [⟨none, some 4, 4, .mv (.k (.one (.pv (.bool false))))⟩])
 (.ret)) (.skip)))
 (.seq (.seq (.reg [⟨none, some 10, 10, .faddr (.t 2) 1⟩,
   ⟨none, some 11, 11, .load none (.t 10)⟩,
   ⟨none, some 12, 12, .faddr (.t 3) 1⟩,
   ⟨none, some 13, 13, .load none (.t 12)⟩,
   ⟨none, some 14, 14, .bin .neq (.t 11) (.t 13)⟩])
 (.cond 14 (.seq (.reg [⟨none, some 4, 4, .mv (.k (.one (.pv (.bool false))))⟩])
 (.ret)) (.skip)))
 (.seq (.seq (.reg [⟨none, some 15, 15, .faddr (.t 2) 2⟩,
   ⟨none, some 16, 16, .load none (.t 15)⟩,
   ⟨none, some 17, 17, .faddr (.t 3) 2⟩,
   ⟨none, some 18, 18, .load none (.t 17)⟩,
   ⟨none, some 19, 19, .bin .neq (.t 16) (.t 18)⟩])
 (.cond 19 (.seq (.reg [⟨none, some 4, 4, .mv (.k (.one (.pv (.bool false))))⟩])
 (.ret)) (.skip)))
 (.seq (.seq (.reg [⟨none, some 20, 20, .faddr (.t 2) 3⟩,
   ⟨none, some 21, 21, .load none (.t 20)⟩,
   ⟨none, some 22, 22, .faddr (.t 3) 3⟩,
   ⟨none, some 23, 23, .load none (.t 22)⟩,
   ⟨none, some 24, 24, .bin .neq (.t 21) (.t 23)⟩])
 (.cond 24 (.seq (.reg [⟨none, some 4, 4, .mv (.k (.one (.pv (.bool false))))⟩])
 (.ret)) (.skip)))
 (.seq (.seq (.reg [⟨none, some 25, 25, .faddr (.t 2) 4⟩,
   ⟨none, some 26, 26, .load none (.t 25)⟩,
   ⟨none, some 27, 27, .faddr (.t 3) 4⟩,
   ⟨none, some 28, 28, .load none (.t 27)⟩,
   ⟨none, some 29, 29, .bin .neq (.t 26) (.t 28)⟩])
 (.cond 29 (.seq (.reg [⟨none, some 4, 4, .mv (.k (.one (.pv (.bool false))))⟩])
 (.ret)) (.skip)))
 (.seq (.seq (.reg [⟨none, some 30, 30, .faddr (.t 2) 5⟩,
   ⟨none, some 31, 31, .load none (.t 30)⟩,
   ⟨none, some 32, 32, .faddr (.t 3) 5⟩,
   ⟨none, some 33, 33, .load none (.t 32)⟩,
   ⟨none, some 34, 34, .bin .neq (.t 31) (.t 33)⟩])
 (.cond 34 (.seq (.reg [⟨none, some 4, 4, .mv (.k (.one (.pv (.bool false))))⟩])
 (.ret)) (.skip)))
 (.seq (.seq (.reg [⟨none, some 35, 35, .faddr (.t 2) 6⟩,
   ⟨none, some 36, 36, .load none (.t 35)⟩,
   ⟨none, some 37, 37, .faddr (.t 3) 6⟩,
   ⟨none, some 38, 38, .load none (.t 37)⟩,
   ⟨none, some 39, 39, .bin .neq (.t 36) (.t 38)⟩])
 (.cond 39 (.seq (.reg [⟨none, some 4, 4, .mv (.k (.one (.pv (.bool false))))⟩])
 (.ret)) (.skip)))
 (.seq (.seq (.reg [⟨none, some 40, 40, .faddr (.t 2) 7⟩,
   ⟨none, some 41, 41, .load none (.t 40)⟩,
   ⟨none, some 42, 42, .faddr (.t 3) 7⟩,
   ⟨none, some 43, 43, .load none (.t 42)⟩,
   ⟨none, some 44, 44, .bin .neq (.t 41) (.t 43)⟩])
 (.cond 44 (.seq (.reg [⟨none, some 4, 4, .mv (.k (.one (.pv (.bool false))))⟩])
 (.ret)) (.skip)))
 (.seq (.reg [⟨none, some 4, 4, .mv (.k (.one (.pv (.bool true))))⟩])
 (.ret))))))))))⟩
abbrev C_l_eqMsg (Te : Nat → List AV → Res → Prop) : Prop := ∀ (x y : Msg), Te 21 [.agg x.row, .agg y.row] ⟨[.one (bT (decide (x = y)))], [x.row, y.row]⟩
theorem r_l_eqMsg {Te : Nat → List AV → Res → Prop} : ∀ (x y : Msg), RunFn Te x_l_eqMsg [.agg x.row, .agg y.row] ⟨[.one (bT (decide (x = y)))], [x.row, y.row]⟩ := by
  intro x y
  refine ⟨by simp -implicitDefEqProofs (maxSteps := 1000000) only [x_l_eqMsg, go_sem], ?_⟩
  have key : (x = y) ↔ x.Kind = y.Kind ∧ x.From = y.From ∧ x.To = y.To ∧ x.Seq = y.Seq ∧ x.Key = y.Key ∧ x.Text = y.Text ∧ x.N = y.N ∧ x.Code = y.Code := by cases x; cases y; simp
  simp only [key]
  clear key
  simp -implicitDefEqProofs (maxSteps := 1000000) only [x_l_eqMsg, go_sem]
  refine ⟨fun q => ?_, fun q => ?_⟩
  · have n0 : ¬ (x.Kind = y.Kind) := by simpa using q
    simp only [n0, false_and, and_false, true_and, decide_false]
  have e0 : x.Kind = y.Kind := by simpa using q
  clear q
  refine ⟨fun q => ?_, fun q => ?_⟩
  · have n1 : ¬ (x.From = y.From) := by simpa using q
    simp only [e0, n1, false_and, and_false, true_and, decide_false]
  have e1 : x.From = y.From := by simpa using q
  clear q
  refine ⟨fun q => ?_, fun q => ?_⟩
  · have n2 : ¬ (x.To = y.To) := by simpa using q
    simp only [e0, e1, n2, false_and, and_false, true_and, decide_false]
  have e2 : x.To = y.To := by simpa using q
  clear q
  refine ⟨fun q => ?_, fun q => ?_⟩
  · have n3 : ¬ (x.Seq = y.Seq) := by simpa using q
    simp only [e0, e1, e2, n3, false_and, and_false, true_and, decide_false]
  have e3 : x.Seq = y.Seq := by simpa using q
  clear q
  refine ⟨fun q => ?_, fun q => ?_⟩
  · have n4 : ¬ (x.Key = y.Key) := by simpa using q
    simp only [e0, e1, e2, e3, n4, false_and, and_false, true_and, decide_false]
  have e4 : x.Key = y.Key := by simpa using q
  clear q
  refine ⟨fun q => ?_, fun q => ?_⟩
  · have n5 : ¬ (x.Text = y.Text) := by simpa using q
    simp only [e0, e1, e2, e3, e4, n5, false_and, and_false, true_and, decide_false]
  have e5 : x.Text = y.Text := by simpa using q
  clear q
  refine ⟨fun q => ?_, fun q => ?_⟩
  · have n6 : ¬ (x.N = y.N) := by simpa using q
    simp only [e0, e1, e2, e3, e4, e5, n6, false_and, and_false, true_and, decide_false]
  have e6 : x.N = y.N := by simpa using q
  clear q
  refine ⟨fun q => ?_, fun q => ?_⟩
  · have n7 : ¬ (x.Code = y.Code) := by simpa using q
    simp only [e0, e1, e2, e3, e4, e5, e6, n7, false_and, and_false, true_and, decide_false]
  have e7 : x.Code = y.Code := by simpa using q
  clear q
  simp only [e0, e1, e2, e3, e4, e5, e6, e7, true_and, and_true, decide_true]
def x_l_szMsgS : FnX := ⟨27, [.tmp 4],
  .seq (.reg [⟨none, some 4, 4, .mv (.k (.one (.pv (.int .i64 0))))⟩])
 (.seq (.reg [⟨none, some 6, 6, .mv (.t 1)⟩,
   ⟨none, some 7, 7, .mv (.t 0)⟩,
   ⟨none, some 8, 8, .len (.t 7)⟩,
   ⟨none, some 9, 9, .bin .sub (.t 6) (.t 8)⟩,
   ⟨none, some 1, 1, .mv (.t 9)⟩])
 (.seq (.seq (.reg [⟨none, some 10, 10, .mv (.t 1)⟩,
   ⟨none, some 11, 11, .bin .lss (.t 10) (.k (.one (.pv (.int .i64 0))))⟩])
 (.cond 11 (.seq (.reg [⟨none, some 4, 4, .mv (.k (.one (.pv (.int .i64 (-1)))))⟩])
 (.ret)) (.skip)))
 (.seq (.seq (.reg [⟨none, some 5, 5, .mv (.k (.one (.pv (.int .i64 0))))⟩])
 (.block 0 (.loop [0, 1, 5] (.seq (.seq (.reg [⟨none, some 12, 12, .mv (.t 5)⟩,
   ⟨none, some 13, 13, .mv (.t 0)⟩,
   ⟨none, some 14, 14, .len (.t 13)⟩,
   ⟨none, some 15, 15, .bin .lss (.t 12) (.t 14)⟩])
 (.cond 15 (.skip) (.exit 0)))
 (.seq (.block 1 (.seq (.reg [⟨none, some 18, 18, .mv (.t 0)⟩,
   ⟨none, some 19, 19, .mv (.t 5)⟩,
   ⟨none, some 20, 20, .iaddr 8 (.t 18) (.t 19)⟩,
   ⟨none, some 21, 21, .load (some 8) (.t 20)⟩,
   ⟨none, some 22, 22, .mv (.t 1)⟩,
   ⟨none, some 23, 23, .call 11 [0, 0] [(.t 21), (.t 22)]⟩,
   ⟨none, some 1, 1, .mv (.t 23)⟩])
 (.seq (.reg [⟨none, some 24, 24, .mv (.t 1)⟩,
   ⟨none, some 25, 25, .bin .lss (.t 24) (.k (.one (.pv (.int .i64 0))))⟩])
 (.cond 25 (.seq (.reg [⟨none, some 4, 4, .mv (.k (.one (.pv (.int .i64 (-1)))))⟩])
 (.ret)) (.skip)))))
 (.reg [⟨none, some 16, 16, .mv (.t 5)⟩,
   ⟨none, some 17, 17, .bin .add (.t 16) (.k (.one (.pv (.int .i64 1))))⟩,
   ⟨none, some 5, 5, .mv (.t 17)⟩]))))))
 (.norm [1] (.seq (.reg [⟨none, some 26, 26, .mv (.t 1)⟩,
   ⟨none, some 4, 4, .mv (.t 26)⟩])
 (.ret))))))⟩
abbrev C_l_szMsgS (Te : Nat → List AV → Res → Prop) : Prop := ∀ (l : List Msg) (k : Int) (hk : 0 ≤ k ∧ k ≤ 2 ^ 48) (hl : l.length ≤ 2 ^ 48) (hs : ∀ y ∈ l, y.In (2 ^ 48)), Te 22 [.one (slT false 8 Msg.row l), .one (iT k)] ⟨[.one (iT (szSl szMsg l k))], [[slT false 8 Msg.row l], [iT k]]⟩
theorem r_l_szMsgS {Te : Nat → List AV → Res → Prop} (c_l_szMsg : C_l_szMsg Te) : ∀ (l : List Msg) (k : Int) (hk : 0 ≤ k ∧ k ≤ 2 ^ 48) (hl : l.length ≤ 2 ^ 48) (hs : ∀ y ∈ l, y.In (2 ^ 48)), RunFn Te x_l_szMsgS [.one (slT false 8 Msg.row l), .one (iT k)] ⟨[.one (iT (szSl szMsg l k))], [[slT false 8 Msg.row l], [iT k]]⟩ := by
  intro l k hk hl hs
  refine ⟨by simp -implicitDefEqProofs (maxSteps := 1000000) only [x_l_szMsgS, go_sem], ?_⟩
  simp -implicitDefEqProofs (maxSteps := 1000000) (disch := omega) only [x_l_szMsgS, go_sem, IntWalk.i64_in]
  refine ⟨fun h => ?_, fun h => ?_⟩
  · simp only [decide_eq_true_eq] at h
    simp only [szSl, szAll, if_pos h]
  · simp only [decide_eq_false_iff_not] at h
    refine loop_of (σ := Nat × Int) (fun x => ⟨[(0, .one (.ro 8 (l.map Msg.row))), (1, .one (.pv (.int .i64 x.2))), (5, .one (.pv (.int .i64 x.1)))], [], [(0, [slT false 8 Msg.row l]), (1, [iT k])]⟩) (fun x => x.1 ≤ l.length ∧ 0 ≤ x.2 ∧ x.2 ≤ k ∧ szSl szMsg l k = szAll ((l.drop x.1).map szMsg) x.2) (fun x => l.length - x.1) (0, k - l.length) ?_ ⟨Nat.zero_le _, by omega, by omega, by simp only [szSl, szAll, if_neg h, List.drop_zero]⟩ ?_
    · simp -implicitDefEqProofs (maxSteps := 1000000) only [go_sem]; rfl
    · rintro ⟨i, c⟩ ⟨hi, h0, h1, he⟩
      simp only at hi h0 h1 he
      simp -implicitDefEqProofs (maxSteps := 1000000) only [go_sem]
      refine ⟨fun h => ?_, fun h => ?_⟩
      · have hi' : i < l.length := by simp only [decide_eq_true_eq] at h; omega
        have hsz := hs l[i] (List.getElem_mem hi')
        rw [List.drop_eq_getElem_cons hi'] at he
        simp -implicitDefEqProofs (maxSteps := 1000000) (disch := omega) only [go_sem, List.getElem?_eq_getElem hi', IntWalk.i64_in]
        refine .of (c_l_szMsg _ _ hsz ⟨h0, by omega⟩) ?_
        simp -implicitDefEqProofs (maxSteps := 1000000) only [go_sem]
        refine ⟨fun h2 => ?_, fun h2 => ?_⟩
        · simp only [decide_eq_true_eq] at h2
          rw [he]
          simp only [List.map_cons, szAll, if_pos h2]
        · simp only [decide_eq_false_iff_not] at h2
          refine ⟨(i + 1, szMsg l[i] c), by rw [IntWalk.i64_in _ (by omega)]; rfl, ⟨hi', by omega, Int.le_trans (szMsg_sane _ _ h0) h1, ?_⟩, by simp only; omega⟩
          rw [he]
          simp only [List.map_cons, szAll, if_neg h2]
      · have hle : l.length ≤ i := by simp only [decide_eq_false_iff_not] at h; omega
        rw [List.drop_of_length_le hle] at he
        simp only [szAll, List.map_nil] at he
        rw [he]
def x_l_toMsgS : FnX := ⟨23, [.tmp 2],
  .seq (.reg [⟨none, some 2, 2, .mv (.k (.one (.nils 8)))⟩])
 (.seq (.reg [⟨none, some 5, 5, .mv (.t 0)⟩,
   ⟨none, some 6, 6, .len (.t 5)⟩,
   ⟨none, some 7, 7, .mks 8 80 [.pv (.int .i64 0), .pv (.int .i64 0), .pv (.int .i64 0), .pv (.int .i64 0), .pv (.string ⟨#[]⟩), .pv (.string ⟨#[]⟩), .pv (.int .i64 0), .pv (.int .i64 0)] (.t 6)⟩,
   ⟨none, some 3, 3, .mv (.t 7)⟩])
 (.seq (.seq (.reg [⟨none, some 4, 4, .mv (.k (.one (.pv (.int .i64 0))))⟩])
 (.block 0 (.loop [0, 3, 4] (.seq (.seq (.reg [⟨none, some 8, 8, .mv (.t 4)⟩,
   ⟨none, some 9, 9, .mv (.t 0)⟩,
   ⟨none, some 10, 10, .len (.t 9)⟩,
   ⟨none, some 11, 11, .bin .lss (.t 8) (.t 10)⟩])
 (.cond 11 (.skip) (.exit 0)))
 (.seq (.block 1 (.reg [⟨none, some 14, 14, .mv (.t 3)⟩,
   ⟨none, some 15, 15, .mv (.t 4)⟩,
   ⟨none, some 16, 16, .mv (.t 0)⟩,
   ⟨none, some 17, 17, .mv (.t 4)⟩,
   ⟨none, some 18, 18, .iaddr 8 (.t 16) (.t 17)⟩,
   ⟨none, some 19, 19, .load (some 8) (.t 18)⟩,
   ⟨none, some 20, 20, .call 13 [0] [(.t 19)]⟩,
   ⟨none, some 21, 21, .iaddr 8 (.t 14) (.t 15)⟩,
   ⟨none, none, 100001, .store 8 (.t 21) (.t 20)⟩]))
 (.reg [⟨none, some 12, 12, .mv (.t 4)⟩,
   ⟨none, some 13, 13, .bin .add (.t 12) (.k (.one (.pv (.int .i64 1))))⟩,
   ⟨none, some 4, 4, .mv (.t 13)⟩]))))))
 (.norm [3] (.seq (.reg [⟨none, some 22, 22, .mv (.t 3)⟩,
   ⟨none, some 2, 2, .mv (.t 22)⟩])
 (.ret)))))⟩
abbrev C_l_toMsgS (Te : Nat → List AV → Res → Prop) : Prop := ∀ (l : List Msg) (hl : l.length ≤ 2 ^ 31), Te 24 [.one (slT false 8 Msg.row l)] ⟨[.one (slT true 8 Msg.row l)], [[slT false 8 Msg.row l]]⟩
theorem r_l_toMsgS {Te : Nat → List AV → Res → Prop} (c_l_toMsg : C_l_toMsg Te) : ∀ (l : List Msg) (hl : l.length ≤ 2 ^ 31), RunFn Te x_l_toMsgS [.one (slT false 8 Msg.row l)] ⟨[.one (slT true 8 Msg.row l)], [[slT false 8 Msg.row l]]⟩ := by
  intro l hl
  refine ⟨by simp -implicitDefEqProofs (maxSteps := 1000000) only [x_l_toMsgS, go_sem], ?_⟩
  simp -implicitDefEqProofs (maxSteps := 1000000) (disch := omega) only [x_l_toMsgS, go_sem, IntWalk.i64_in]
  refine ⟨⟨by simp only [decide_eq_true_eq]; omega, by simp only [decide_eq_true_eq]; omega⟩, ?_⟩
  refine loop_of (σ := Nat) (fun i => ⟨[(0, .one (.ro 8 (l.map Msg.row))), (3, .one (.rf 24 0 [] 8 0 l.length)), (4, .one (.pv (.int .i64 i)))], [],
    [(0, [slT false 8 Msg.row l]), (24, [.sl true 8 () ((l.take i).map Msg.row ++ List.replicate (l.length - i) [.pv (.int .i64 0), .pv (.int .i64 0), .pv (.int .i64 0), .pv (.int .i64 0), .pv (.string ⟨#[]⟩), .pv (.string ⟨#[]⟩), .pv (.int .i64 0), .pv (.int .i64 0)])])]⟩) (fun i => i ≤ l.length) (fun i => l.length - i) 0 ?_ (Nat.zero_le _) ?_
  · simp -implicitDefEqProofs (maxSteps := 1000000) only [go_sem]; rfl
  · intro i hi
    simp -implicitDefEqProofs (maxSteps := 1000000) only [go_sem]
    refine ⟨fun h => ?_, fun h => ?_⟩
    · have hi' : i < l.length := by simp only [decide_eq_true_eq] at h; omega
      simp -implicitDefEqProofs (maxSteps := 1000000) only [go_sem, List.getElem?_eq_getElem hi', fill_len Msg.row l [.pv (.int .i64 0), .pv (.int .i64 0), .pv (.int .i64 0), .pv (.int .i64 0), .pv (.string ⟨#[]⟩), .pv (.string ⟨#[]⟩), .pv (.int .i64 0), .pv (.int .i64 0)] hi, storeAp, setCells, List.getD_eq_getElem?_getD, fill_get Msg.row l [.pv (.int .i64 0), .pv (.int .i64 0), .pv (.int .i64 0), .pv (.int .i64 0), .pv (.string ⟨#[]⟩), .pv (.string ⟨#[]⟩), .pv (.int .i64 0), .pv (.int .i64 0)] hi']
      refine .of (c_l_toMsg _) ?_
      simp -implicitDefEqProofs (maxSteps := 1000000) only [go_sem, fill_len Msg.row l [.pv (.int .i64 0), .pv (.int .i64 0), .pv (.int .i64 0), .pv (.int .i64 0), .pv (.string ⟨#[]⟩), .pv (.string ⟨#[]⟩), .pv (.int .i64 0), .pv (.int .i64 0)] hi, storeAp, setCells, List.getD_eq_getElem?_getD, fill_get Msg.row l [.pv (.int .i64 0), .pv (.int .i64 0), .pv (.int .i64 0), .pv (.int .i64 0), .pv (.string ⟨#[]⟩), .pv (.string ⟨#[]⟩), .pv (.int .i64 0), .pv (.int .i64 0)] hi']
      repeat (first | refine ⟨by decide, ?_⟩ | refine ⟨by simpa using hi', ?_⟩)
      refine ⟨i + 1, ?_, hi', by omega⟩
      rw [← fill_set Msg.row l [.pv (.int .i64 0), .pv (.int .i64 0), .pv (.int .i64 0), .pv (.int .i64 0), .pv (.string ⟨#[]⟩), .pv (.string ⟨#[]⟩), .pv (.int .i64 0), .pv (.int .i64 0)] hi', IntWalk.i64_in _ (by omega)]
      rfl
    · have : i = l.length := by simp only [decide_eq_false_iff_not] at h; omega
      subst this
      simp -implicitDefEqProofs (maxSteps := 1000000) only [go_sem, fill_len Msg.row l [.pv (.int .i64 0), .pv (.int .i64 0), .pv (.int .i64 0), .pv (.int .i64 0), .pv (.string ⟨#[]⟩), .pv (.string ⟨#[]⟩), .pv (.int .i64 0), .pv (.int .i64 0)] hi, fill_end]
      refine ⟨by simp, ?_⟩
      simp [take_map]
def x_l_eqMsgS : FnX := ⟨27, [.tmp 4],
  .seq (.reg [⟨none, some 4, 4, .mv (.k (.one (.pv (.bool false))))⟩])
 (.seq (.seq (.reg [⟨none, some 6, 6, .mv (.t 0)⟩,
   ⟨none, some 7, 7, .len (.t 6)⟩,
   ⟨none, some 8, 8, .mv (.t 1)⟩,
   ⟨none, some 9, 9, .len (.t 8)⟩,
   ⟨none, some 10, 10, .bin .neq (.t 7) (.t 9)⟩])
 (.cond 10 (.seq (.reg [⟨none, some 4, 4, .mv (.k (.one (.pv (.bool false))))⟩])
 (.ret)) (.skip)))
 (.seq (.seq (.reg [⟨none, some 5, 5, .mv (.k (.one (.pv (.int .i64 0))))⟩])
 (.block 0 (.loop [0, 1, 5] (.seq (.seq (.reg [⟨none, some 11, 11, .mv (.t 5)⟩,
   ⟨none, some 12, 12, .mv (.t 0)⟩,
   ⟨none, some 13, 13, .len (.t 12)⟩,
   ⟨none, some 14, 14, .bin .lss (.t 11) (.t 13)⟩])
 (.cond 14 (.skip) (.exit 0)))
 (.seq (.block 1 (.seq (.draw [⟨none, some 17, 17, .mv (.t 0)⟩,
   ⟨none, some 18, 18, .mv (.t 5)⟩,
   ⟨none, some 19, 19, .iaddr 8 (.t 17) (.t 18)⟩,
   ⟨none, some 20, 20, .load (some 8) (.t 19)⟩,
   ⟨none, some 21, 21, .mv (.t 1)⟩,
   ⟨none, some 22, 22, .mv (.t 5)⟩,
   ⟨none, some 23, 23, .iaddr 8 (.t 21) (.t 22)⟩,
   ⟨none, some 24, 24, .load (some 8) (.t 23)⟩,
   ⟨none, some 25, 25, .call 21 [0, 0] [(.t 20), (.t 24)]⟩,
   ⟨none, some 26, 26, .not (.t 25)⟩] [[], [], [0, 1], [2], [], [], [4, 5], [6], [3, 7], [8]])
 (.cond 26 (.seq (.reg [⟨none, some 4, 4, .mv (.k (.one (.pv (.bool false))))⟩])
 (.ret)) (.skip))))
 (.reg [⟨none, some 15, 15, .mv (.t 5)⟩,
   ⟨none, some 16, 16, .bin .add (.t 15) (.k (.one (.pv (.int .i64 1))))⟩,
   ⟨none, some 5, 5, .mv (.t 16)⟩]))))))
 (.norm [] (.seq (.reg [⟨none, some 4, 4, .mv (.k (.one (.pv (.bool true))))⟩])
 (.ret)))))⟩
abbrev C_l_eqMsgS (Te : Nat → List AV → Res → Prop) : Prop := ∀ (l m : List Msg) (hl : l.length ≤ 2 ^ 31), Te 26 [.one (slT false 8 Msg.row l), .one (slT false 8 Msg.row m)] ⟨[.one (bT (decide (l = m)))], [[slT false 8 Msg.row l], [slT false 8 Msg.row m]]⟩
theorem r_l_eqMsgS {Te : Nat → List AV → Res → Prop} (c_l_eqMsg : C_l_eqMsg Te) : ∀ (l m : List Msg) (hl : l.length ≤ 2 ^ 31), RunFn Te x_l_eqMsgS [.one (slT false 8 Msg.row l), .one (slT false 8 Msg.row m)] ⟨[.one (bT (decide (l = m)))], [[slT false 8 Msg.row l], [slT false 8 Msg.row m]]⟩ := by
  intro l m hl
  refine ⟨by simp -implicitDefEqProofs (maxSteps := 1000000) only [x_l_eqMsgS, go_sem], ?_⟩
  simp -implicitDefEqProofs (maxSteps := 1000000) (disch := omega) only [x_l_eqMsgS, go_sem, IntWalk.i64_in]
  refine ⟨fun h => ?_, fun h => ?_⟩
  · have : l ≠ m := fun e => by simp [e] at h
    simp [this]
  · have hlen : l.length = m.length := by simp at h; omega
    refine loop_of (σ := Nat) (fun i => ⟨[(0, .one (.ro 8 (l.map Msg.row))), (1, .one (.ro 8 (m.map Msg.row))), (5, .one (.pv (.int .i64 i)))], [], [(0, [slT false 8 Msg.row l]), (1, [slT false 8 Msg.row m])]⟩) (fun i => i ≤ l.length ∧ l.take i = m.take i) (fun i => l.length - i) 0 ?_ ⟨Nat.zero_le _, by simp⟩ ?_
    · simp -implicitDefEqProofs (maxSteps := 1000000) only [go_sem]; rfl
    · intro i ⟨hi, hs⟩
      simp -implicitDefEqProofs (maxSteps := 1000000) only [go_sem]
      refine ⟨fun h => ?_, fun h => ?_⟩
      · have hi' : i < l.length := by simp only [decide_eq_true_eq] at h; omega
        have hj' : i < m.length := by omega
        simp -implicitDefEqProofs (maxSteps := 1000000) only [go_sem, List.getElem?_eq_getElem hi', List.getElem?_eq_getElem hj']
        refine .of (c_l_eqMsg _ _) ?_
        simp -implicitDefEqProofs (maxSteps := 1000000) only [go_sem]
        refine ⟨by decide, fun h2 => ?_, fun h2 => ?_⟩
        · have : l ≠ m := fun e => by subst e; simp at h2
          simp [this]
        · refine ⟨i + 1, by rw [IntWalk.i64_in _ (by omega)]; rfl, ⟨hi', same_step hi' hj' hs ?_⟩, by omega⟩
          simpa using h2
      · have hle : l.length ≤ i := by simp only [decide_eq_false_iff_not] at h; omega
        have : l = m := same_end hle (by omega) hs
        simp [this]
def x_l_markMsgS_7 : XCode := .seq (.reg [⟨none, some 63, 63, .mv (.t 0)⟩,
   ⟨none, some 64, 64, .mv (.t 5)⟩,
   ⟨none, some 65, 65, .mv (.t 1)⟩,
   ⟨none, some 66, 66, .iaddr 8 (.t 63) (.t 64)⟩,
   ⟨none, some 67, 67, .faddr (.t 66) 7⟩,
   ⟨none, none, 100008, .store 1 (.t 67) (.t 65)⟩])
 (.reg [⟨none, some 68, 68, .mv (.t 1)⟩,
   ⟨none, some 69, 69, .bin .add (.t 68) (.k (.one (.pv (.int .i64 1))))⟩,
   ⟨none, some 1, 1, .mv (.t 69)⟩])
def x_l_markMsgS_6 : XCode := .seq (.reg [⟨none, some 56, 56, .mv (.t 0)⟩,
   ⟨none, some 57, 57, .mv (.t 5)⟩,
   ⟨none, some 58, 58, .mv (.t 1)⟩,
   ⟨none, some 59, 59, .iaddr 8 (.t 56) (.t 57)⟩,
   ⟨none, some 60, 60, .faddr (.t 59) 6⟩,
   ⟨none, none, 100007, .store 1 (.t 60) (.t 58)⟩])
 (.seq (.reg [⟨none, some 61, 61, .mv (.t 1)⟩,
   ⟨none, some 62, 62, .bin .add (.t 61) (.k (.one (.pv (.int .i64 1))))⟩,
   ⟨none, some 1, 1, .mv (.t 62)⟩])
 (x_l_markMsgS_7))
def x_l_markMsgS_5 : XCode := .seq (.reg [⟨none, some 48, 48, .mv (.t 0)⟩,
   ⟨none, some 49, 49, .mv (.t 5)⟩,
   ⟨none, some 50, 50, .mv (.t 1)⟩,
   ⟨none, some 51, 51, .call 67 [0] [(.t 50)]⟩,
   ⟨none, some 52, 52, .iaddr 8 (.t 48) (.t 49)⟩,
   ⟨none, some 53, 53, .faddr (.t 52) 5⟩,
   ⟨none, none, 100006, .store 1 (.t 53) (.t 51)⟩])
 (.seq (.reg [⟨none, some 54, 54, .mv (.t 1)⟩,
   ⟨none, some 55, 55, .bin .add (.t 54) (.k (.one (.pv (.int .i64 1))))⟩,
   ⟨none, some 1, 1, .mv (.t 55)⟩])
 (x_l_markMsgS_6))
def x_l_markMsgS_4 : XCode := .seq (.reg [⟨none, some 40, 40, .mv (.t 0)⟩,
   ⟨none, some 41, 41, .mv (.t 5)⟩,
   ⟨none, some 42, 42, .mv (.t 1)⟩,
   ⟨none, some 43, 43, .call 67 [0] [(.t 42)]⟩,
   ⟨none, some 44, 44, .iaddr 8 (.t 40) (.t 41)⟩,
   ⟨none, some 45, 45, .faddr (.t 44) 4⟩,
   ⟨none, none, 100005, .store 1 (.t 45) (.t 43)⟩])
 (.seq (.reg [⟨none, some 46, 46, .mv (.t 1)⟩,
   ⟨none, some 47, 47, .bin .add (.t 46) (.k (.one (.pv (.int .i64 1))))⟩,
   ⟨none, some 1, 1, .mv (.t 47)⟩])
 (x_l_markMsgS_5))
def x_l_markMsgS_3 : XCode := .seq (.reg [⟨none, some 33, 33, .mv (.t 0)⟩,
   ⟨none, some 34, 34, .mv (.t 5)⟩,
   ⟨none, some 35, 35, .mv (.t 1)⟩,
   ⟨none, some 36, 36, .iaddr 8 (.t 33) (.t 34)⟩,
   ⟨none, some 37, 37, .faddr (.t 36) 3⟩,
   ⟨none, none, 100004, .store 1 (.t 37) (.t 35)⟩])
 (.seq (.reg [⟨none, some 38, 38, .mv (.t 1)⟩,
   ⟨none, some 39, 39, .bin .add (.t 38) (.k (.one (.pv (.int .i64 1))))⟩,
   ⟨none, some 1, 1, .mv (.t 39)⟩])
 (x_l_markMsgS_4))
def x_l_markMsgS_2 : XCode := .seq (.reg [⟨none, some 26, 26, .mv (.t 0)⟩,
   ⟨none, some 27, 27, .mv (.t 5)⟩,
   ⟨none, some 28, 28, .mv (.t 1)⟩,
   ⟨none, some 29, 29, .iaddr 8 (.t 26) (.t 27)⟩,
   ⟨none, some 30, 30, .faddr (.t 29) 2⟩,
   ⟨none, none, 100003, .store 1 (.t 30) (.t 28)⟩])
 (.seq (.reg [⟨none, some 31, 31, .mv (.t 1)⟩,
   ⟨none, some 32, 32, .bin .add (.t 31) (.k (.one (.pv (.int .i64 1))))⟩,
   ⟨none, some 1, 1, .mv (.t 32)⟩])
 (x_l_markMsgS_3))
def x_l_markMsgS_1 : XCode := .seq (.reg [⟨none, some 19, 19, .mv (.t 0)⟩,
   ⟨none, some 20, 20, .mv (.t 5)⟩,
   ⟨none, some 21, 21, .mv (.t 1)⟩,
   ⟨none, some 22, 22, .iaddr 8 (.t 19) (.t 20)⟩,
   ⟨none, some 23, 23, .faddr (.t 22) 1⟩,
   ⟨none, none, 100002, .store 1 (.t 23) (.t 21)⟩])
 (.seq (.reg [⟨none, some 24, 24, .mv (.t 1)⟩,
   ⟨none, some 25, 25, .bin .add (.t 24) (.k (.one (.pv (.int .i64 1))))⟩,
   ⟨none, some 1, 1, .mv (.t 25)⟩])
 (x_l_markMsgS_2))
def x_l_markMsgS : FnX := ⟨71, [.tmp 4],
  .seq (.reg [⟨none, some 4, 4, .mv (.k (.one (.pv (.int .i64 0))))⟩])
 (.seq (.seq (.reg [⟨none, some 5, 5, .mv (.k (.one (.pv (.int .i64 0))))⟩])
 (.block 0 (.loop [0, 1, 5] (.seq (.seq (.reg [⟨none, some 6, 6, .mv (.t 5)⟩,
   ⟨none, some 7, 7, .mv (.t 0)⟩,
   ⟨none, some 8, 8, .len (.t 7)⟩,
   ⟨none, some 9, 9, .bin .lss (.t 6) (.t 8)⟩])
 (.cond 9 (.skip) (.exit 0)))
 (.seq (.block 1 (.seq (.reg [⟨none, some 12, 12, .mv (.t 0)⟩,
   ⟨none, some 13, 13, .mv (.t 5)⟩,
   ⟨none, some 14, 14, .mv (.t 1)⟩,
   ⟨none, some 15, 15, .iaddr 8 (.t 12) (.t 13)⟩,
   ⟨none, some 16, 16, .faddr (.t 15) 0⟩,
   ⟨none, none, 100001, .store 1 (.t 16) (.t 14)⟩])
 (.seq (.reg [⟨none, some 17, 17, .mv (.t 1)⟩,
   ⟨none, some 18, 18, .bin .add (.t 17) (.k (.one (.pv (.int .i64 1))))⟩,
   ⟨none, some 1, 1, .mv (.t 18)⟩])
 (x_l_markMsgS_1))))
 (.reg [⟨none, some 10, 10, .mv (.t 5)⟩,
   ⟨none, some 11, 11, .bin .add (.t 10) (.k (.one (.pv (.int .i64 1))))⟩,
   ⟨none, some 5, 5, .mv (.t 11)⟩]))))))
 (.norm [1] (.seq (.reg [⟨none, some 70, 70, .mv (.t 1)⟩,
   ⟨none, some 4, 4, .mv (.t 70)⟩])
 (.ret))))⟩
abbrev C_l_markMsgS (Te : Nat → List AV → Res → Prop) : Prop := ∀ (l : List Msg) (k : Int) (hl : l.length ≤ 2 ^ 31) (hk : 0 ≤ k ∧ k ≤ 2 ^ 46), Te 27 [.one (slT true 8 Msg.row l), .one (iT k)] ⟨[.one (iT (k + (8 * l.length : Nat)))], [[slT true 8 Msg.row (marks 8 mkMsg l.length k)], [iT k]]⟩
theorem r_l_markMsgS {Te : Nat → List AV → Res → Prop} (c_l_markText : C_l_markText Te) : ∀ (l : List Msg) (k : Int) (hl : l.length ≤ 2 ^ 31) (hk : 0 ≤ k ∧ k ≤ 2 ^ 46), RunFn Te x_l_markMsgS [.one (slT true 8 Msg.row l), .one (iT k)] ⟨[.one (iT (k + (8 * l.length : Nat)))], [[slT true 8 Msg.row (marks 8 mkMsg l.length k)], [iT k]]⟩ := by
  intro l k hl hk
  refine ⟨by simp -implicitDefEqProofs (maxSteps := 1000000) only [x_l_markMsgS, go_sem], ?_⟩
  simp -implicitDefEqProofs (maxSteps := 1000000) (disch := omega) only [x_l_markMsgS, go_sem, IntWalk.i64_in]
  refine loop_of (σ := Nat) (fun i => ⟨[(0, .one (.rf 0 0 [] 8 0 l.length)), (1, .one (.pv (.int .i64 (k + (8 * i : Nat))))), (5, .one (.pv (.int .i64 i)))], [], [(0, [.sl true 8 () ((marks 8 mkMsg i k).map Msg.row ++ (l.drop i).map Msg.row)]), (1, [iT k])]⟩) (fun i => i ≤ l.length) (fun i => l.length - i) 0 ?_ (Nat.zero_le _) ?_
  · simp -implicitDefEqProofs (maxSteps := 1000000) only [go_sem]; simp [marks]
  · intro i hi
    simp -implicitDefEqProofs (maxSteps := 1000000) only [go_sem]
    refine ⟨fun h => ?_, fun h => ?_⟩
    · have hi' : i < l.length := by simp only [decide_eq_true_eq] at h; omega
      try simp -implicitDefEqProofs (maxSteps := 1000000) (disch := omega) only [go_sem, storeAp, setCells, List.length_set, List.set_set, mark_len Msg.row 8 mkMsg l k hi, List.getD_eq_getElem?_getD, mark_get Msg.row 8 mkMsg l k hi', mark_reget Msg.row 8 mkMsg l k hi', Option.getD_some, IntWalk.i64_in]
      repeat (first | refine ⟨by decide, ?_⟩ | refine ⟨decide_eq_true hi', ?_⟩)
      simp -implicitDefEqProofs (maxSteps := 1000000) (disch := omega) only [x_l_markMsgS_1, go_sem, storeAp, setCells, List.length_set, List.set_set, mark_len Msg.row 8 mkMsg l k hi, List.getD_eq_getElem?_getD, mark_get Msg.row 8 mkMsg l k hi', mark_reget Msg.row 8 mkMsg l k hi', Option.getD_some, IntWalk.i64_in]
      repeat (first | refine ⟨by decide, ?_⟩ | refine ⟨decide_eq_true hi', ?_⟩)
      simp -implicitDefEqProofs (maxSteps := 1000000) (disch := omega) only [x_l_markMsgS_2, go_sem, storeAp, setCells, List.length_set, List.set_set, mark_len Msg.row 8 mkMsg l k hi, List.getD_eq_getElem?_getD, mark_get Msg.row 8 mkMsg l k hi', mark_reget Msg.row 8 mkMsg l k hi', Option.getD_some, IntWalk.i64_in]
      repeat (first | refine ⟨by decide, ?_⟩ | refine ⟨decide_eq_true hi', ?_⟩)
      simp -implicitDefEqProofs (maxSteps := 1000000) (disch := omega) only [x_l_markMsgS_3, go_sem, storeAp, setCells, List.length_set, List.set_set, mark_len Msg.row 8 mkMsg l k hi, List.getD_eq_getElem?_getD, mark_get Msg.row 8 mkMsg l k hi', mark_reget Msg.row 8 mkMsg l k hi', Option.getD_some, IntWalk.i64_in]
      repeat (first | refine ⟨by decide, ?_⟩ | refine ⟨decide_eq_true hi', ?_⟩)
      simp -implicitDefEqProofs (maxSteps := 1000000) (disch := omega) only [x_l_markMsgS_4, go_sem, storeAp, setCells, List.length_set, List.set_set, mark_len Msg.row 8 mkMsg l k hi, List.getD_eq_getElem?_getD, mark_get Msg.row 8 mkMsg l k hi', mark_reget Msg.row 8 mkMsg l k hi', Option.getD_some, IntWalk.i64_in]
      repeat (first | refine ⟨by decide, ?_⟩ | refine ⟨decide_eq_true hi', ?_⟩)
      refine .of (c_l_markText _ (by omega)) ?_
      simp -implicitDefEqProofs (maxSteps := 1000000) (disch := omega) only [go_sem, storeAp, setCells, List.length_set, List.set_set, mark_len Msg.row 8 mkMsg l k hi, List.getD_eq_getElem?_getD, mark_get Msg.row 8 mkMsg l k hi', mark_reget Msg.row 8 mkMsg l k hi', Option.getD_some, IntWalk.i64_in]
      repeat (first | refine ⟨by decide, ?_⟩ | refine ⟨decide_eq_true hi', ?_⟩)
      simp -implicitDefEqProofs (maxSteps := 1000000) (disch := omega) only [x_l_markMsgS_5, go_sem, storeAp, setCells, List.length_set, List.set_set, mark_len Msg.row 8 mkMsg l k hi, List.getD_eq_getElem?_getD, mark_get Msg.row 8 mkMsg l k hi', mark_reget Msg.row 8 mkMsg l k hi', Option.getD_some, IntWalk.i64_in]
      repeat (first | refine ⟨by decide, ?_⟩ | refine ⟨decide_eq_true hi', ?_⟩)
      refine .of (c_l_markText _ (by omega)) ?_
      simp -implicitDefEqProofs (maxSteps := 1000000) (disch := omega) only [go_sem, storeAp, setCells, List.length_set, List.set_set, mark_len Msg.row 8 mkMsg l k hi, List.getD_eq_getElem?_getD, mark_get Msg.row 8 mkMsg l k hi', mark_reget Msg.row 8 mkMsg l k hi', Option.getD_some, IntWalk.i64_in]
      repeat (first | refine ⟨by decide, ?_⟩ | refine ⟨decide_eq_true hi', ?_⟩)
      simp -implicitDefEqProofs (maxSteps := 1000000) (disch := omega) only [x_l_markMsgS_6, go_sem, storeAp, setCells, List.length_set, List.set_set, mark_len Msg.row 8 mkMsg l k hi, List.getD_eq_getElem?_getD, mark_get Msg.row 8 mkMsg l k hi', mark_reget Msg.row 8 mkMsg l k hi', Option.getD_some, IntWalk.i64_in]
      repeat (first | refine ⟨by decide, ?_⟩ | refine ⟨decide_eq_true hi', ?_⟩)
      simp -implicitDefEqProofs (maxSteps := 1000000) (disch := omega) only [x_l_markMsgS_7, go_sem, storeAp, setCells, List.length_set, List.set_set, mark_len Msg.row 8 mkMsg l k hi, List.getD_eq_getElem?_getD, mark_get Msg.row 8 mkMsg l k hi', mark_reget Msg.row 8 mkMsg l k hi', Option.getD_some, IntWalk.i64_in]
      repeat (first | refine ⟨by decide, ?_⟩ | refine ⟨decide_eq_true hi', ?_⟩)
      refine ⟨i + 1, ?_, hi', by omega⟩
      rw [← mark_set Msg.row 8 mkMsg l k hi', show k + ((8 * (i + 1) : Nat) : Int) = k + (8 * i : Nat) + 1 + 1 + 1 + 1 + 1 + 1 + 1 + 1 by omega]
      rfl
    · have : i = l.length := by simp only [decide_eq_false_iff_not] at h; omega
      subst this
      simp -implicitDefEqProofs (maxSteps := 1000000) only [go_sem, mark_end]
def x_l_heldMsgS_7 : XCode := .seq (.seq (.reg [⟨none, some 77, 77, .mv (.t 0)⟩,
   ⟨none, some 78, 78, .mv (.t 5)⟩,
   ⟨none, some 79, 79, .iaddr 8 (.t 77) (.t 78)⟩,
   ⟨none, some 80, 80, .faddr (.t 79) 7⟩,
   ⟨none, some 81, 81, .load none (.t 80)⟩,
   ⟨none, some 82, 82, .mv (.t 1)⟩,
   ⟨none, some 83, 83, .bin .neq (.t 81) (.t 82)⟩])
 (.cond 83 (.seq (.reg [⟨none, some 4, 4, .mv (.k (.one (.pv (.int .i64 (-1)))))⟩])
 (.ret)) (.skip)))
 (.reg [⟨none, some 84, 84, .mv (.t 1)⟩,
   ⟨none, some 85, 85, .bin .add (.t 84) (.k (.one (.pv (.int .i64 1))))⟩,
   ⟨none, some 1, 1, .mv (.t 85)⟩])
def x_l_heldMsgS_6 : XCode := .seq (.seq (.reg [⟨none, some 68, 68, .mv (.t 0)⟩,
   ⟨none, some 69, 69, .mv (.t 5)⟩,
   ⟨none, some 70, 70, .iaddr 8 (.t 68) (.t 69)⟩,
   ⟨none, some 71, 71, .faddr (.t 70) 6⟩,
   ⟨none, some 72, 72, .load none (.t 71)⟩,
   ⟨none, some 73, 73, .mv (.t 1)⟩,
   ⟨none, some 74, 74, .bin .neq (.t 72) (.t 73)⟩])
 (.cond 74 (.seq (.reg [⟨none, some 4, 4, .mv (.k (.one (.pv (.int .i64 (-1)))))⟩])
 (.ret)) (.skip)))
 (.seq (.reg [⟨none, some 75, 75, .mv (.t 1)⟩,
   ⟨none, some 76, 76, .bin .add (.t 75) (.k (.one (.pv (.int .i64 1))))⟩,
   ⟨none, some 1, 1, .mv (.t 76)⟩])
 (x_l_heldMsgS_7))
def x_l_heldMsgS_5 : XCode := .seq (.seq (.draw [⟨none, some 58, 58, .mv (.t 0)⟩,
   ⟨none, some 59, 59, .mv (.t 5)⟩,
   ⟨none, some 60, 60, .iaddr 8 (.t 58) (.t 59)⟩,
   ⟨none, some 61, 61, .faddr (.t 60) 5⟩,
   ⟨none, some 62, 62, .load none (.t 61)⟩,
   ⟨none, some 63, 63, .mv (.t 1)⟩,
   ⟨none, some 64, 64, .call 67 [0] [(.t 63)]⟩,
   ⟨none, some 65, 65, .bin .neq (.t 62) (.t 64)⟩] [[], [], [0, 1], [2], [3], [], [5], [4, 6]])
 (.cond 65 (.seq (.reg [⟨none, some 4, 4, .mv (.k (.one (.pv (.int .i64 (-1)))))⟩])
 (.ret)) (.skip)))
 (.seq (.reg [⟨none, some 66, 66, .mv (.t 1)⟩,
   ⟨none, some 67, 67, .bin .add (.t 66) (.k (.one (.pv (.int .i64 1))))⟩,
   ⟨none, some 1, 1, .mv (.t 67)⟩])
 (x_l_heldMsgS_6))
def x_l_heldMsgS_4 : XCode := .seq (.seq (.draw [⟨none, some 48, 48, .mv (.t 0)⟩,
   ⟨none, some 49, 49, .mv (.t 5)⟩,
   ⟨none, some 50, 50, .iaddr 8 (.t 48) (.t 49)⟩,
   ⟨none, some 51, 51, .faddr (.t 50) 4⟩,
   ⟨none, some 52, 52, .load none (.t 51)⟩,
   ⟨none, some 53, 53, .mv (.t 1)⟩,
   ⟨none, some 54, 54, .call 67 [0] [(.t 53)]⟩,
   ⟨none, some 55, 55, .bin .neq (.t 52) (.t 54)⟩] [[], [], [0, 1], [2], [3], [], [5], [4, 6]])
 (.cond 55 (.seq (.reg [⟨none, some 4, 4, .mv (.k (.one (.pv (.int .i64 (-1)))))⟩])
 (.ret)) (.skip)))
 (.seq (.reg [⟨none, some 56, 56, .mv (.t 1)⟩,
   ⟨none, some 57, 57, .bin .add (.t 56) (.k (.one (.pv (.int .i64 1))))⟩,
   ⟨none, some 1, 1, .mv (.t 57)⟩])
 (x_l_heldMsgS_5))
def x_l_heldMsgS_3 : XCode := .seq (.seq (.reg [⟨none, some 39, 39, .mv (.t 0)⟩,
   ⟨none, some 40, 40, .mv (.t 5)⟩,
   ⟨none, some 41, 41, .iaddr 8 (.t 39) (.t 40)⟩,
   ⟨none, some 42, 42, .faddr (.t 41) 3⟩,
   ⟨none, some 43, 43, .load none (.t 42)⟩,
   ⟨none, some 44, 44, .mv (.t 1)⟩,
   ⟨none, some 45, 45, .bin .neq (.t 43) (.t 44)⟩])
 (.cond 45 (.seq (.reg [⟨none, some 4, 4, .mv (.k (.one (.pv (.int .i64 (-1)))))⟩])
 (.ret)) (.skip)))
 (.seq (.reg [⟨none, some 46, 46, .mv (.t 1)⟩,
   ⟨none, some 47, 47, .bin .add (.t 46) (.k (.one (.pv (.int .i64 1))))⟩,
   ⟨none, some 1, 1, .mv (.t 47)⟩])
 (x_l_heldMsgS_4))
def x_l_heldMsgS_2 : XCode := .seq (.seq (.reg [⟨none, some 30, 30, .mv (.t 0)⟩,
   ⟨none, some 31, 31, .mv (.t 5)⟩,
   ⟨none, some 32, 32, .iaddr 8 (.t 30) (.t 31)⟩,
   ⟨none, some 33, 33, .faddr (.t 32) 2⟩,
   ⟨none, some 34, 34, .load none (.t 33)⟩,
   ⟨none, some 35, 35, .mv (.t 1)⟩,
   ⟨none, some 36, 36, .bin .neq (.t 34) (.t 35)⟩])
 (.cond 36 (.seq (.reg [⟨none, some 4, 4, .mv (.k (.one (.pv (.int .i64 (-1)))))⟩])
 (.ret)) (.skip)))
 (.seq (.reg [⟨none, some 37, 37, .mv (.t 1)⟩,
   ⟨none, some 38, 38, .bin .add (.t 37) (.k (.one (.pv (.int .i64 1))))⟩,
   ⟨none, some 1, 1, .mv (.t 38)⟩])
 (x_l_heldMsgS_3))
def x_l_heldMsgS_1 : XCode := .seq (.seq (.reg [⟨none, some 21, 21, .mv (.t 0)⟩,
   ⟨none, some 22, 22, .mv (.t 5)⟩,
   ⟨none, some 23, 23, .iaddr 8 (.t 21) (.t 22)⟩,
   ⟨none, some 24, 24, .faddr (.t 23) 1⟩,
   ⟨none, some 25, 25, .load none (.t 24)⟩,
   ⟨none, some 26, 26, .mv (.t 1)⟩,
   ⟨none, some 27, 27, .bin .neq (.t 25) (.t 26)⟩])
 (.cond 27 (.seq (.reg [⟨none, some 4, 4, .mv (.k (.one (.pv (.int .i64 (-1)))))⟩])
 (.ret)) (.skip)))
 (.seq (.reg [⟨none, some 28, 28, .mv (.t 1)⟩,
   ⟨none, some 29, 29, .bin .add (.t 28) (.k (.one (.pv (.int .i64 1))))⟩,
   ⟨none, some 1, 1, .mv (.t 29)⟩])
 (x_l_heldMsgS_2))
def x_l_heldMsgS : FnX := ⟨87, [.tmp 4],
  .seq (.reg [⟨none, some 4, 4, .mv (.k (.one (.pv (.int .i64 0))))⟩])
 (.seq (.seq (.reg [⟨none, some 5, 5, .mv (.k (.one (.pv (.int .i64 0))))⟩])
 (.block 0 (.loop [0, 1, 5] (.seq (.seq (.reg [⟨none, some 6, 6, .mv (.t 5)⟩,
   ⟨none, some 7, 7, .mv (.t 0)⟩,
   ⟨none, some 8, 8, .len (.t 7)⟩,
   ⟨none, some 9, 9, .bin .lss (.t 6) (.t 8)⟩])
 (.cond 9 (.skip) (.exit 0)))
 (.seq (.block 1 (.seq (.seq (.reg [⟨none, some 12, 12, .mv (.t 0)⟩,
   ⟨none, some 13, 13, .mv (.t 5)⟩,
   ⟨none, some 14, 14, .iaddr 8 (.t 12) (.t 13)⟩,
   ⟨none, some 15, 15, .faddr (.t 14) 0⟩,
   ⟨none, some 16, 16, .load none (.t 15)⟩,
   ⟨none, some 17, 17, .mv (.t 1)⟩,
   ⟨none, some 18, 18, .bin .neq (.t 16) (.t 17)⟩])
 (.cond 18 (.seq (.reg [⟨none, some 4, 4, .mv (.k (.one (.pv (.int .i64 (-1)))))⟩])
 (.ret)) (.skip)))
 (.seq (.reg [⟨none, some 19, 19, .mv (.t 1)⟩,
   ⟨none, some 20, 20, .bin .add (.t 19) (.k (.one (.pv (.int .i64 1))))⟩,
   ⟨none, some 1, 1, .mv (.t 20)⟩])
 (x_l_heldMsgS_1))))
 (.reg [⟨none, some 10, 10, .mv (.t 5)⟩,
   ⟨none, some 11, 11, .bin .add (.t 10) (.k (.one (.pv (.int .i64 1))))⟩,
   ⟨none, some 5, 5, .mv (.t 11)⟩]))))))
 (.norm [1] (.seq (.reg [⟨none, some 86, 86, .mv (.t 1)⟩,
   ⟨none, some 4, 4, .mv (.t 86)⟩])
 (.ret))))⟩
abbrev C_l_heldMsgS (Te : Nat → List AV → Res → Prop) : Prop := ∀ (n : Nat) (k : Int) (hl : n ≤ 2 ^ 31) (hk : 0 ≤ k ∧ k ≤ 2 ^ 46), Te 28 [.one (slT false 8 Msg.row (marks 8 mkMsg n k)), .one (iT k)] ⟨[.one (iT (k + (8 * n : Nat)))], [[slT false 8 Msg.row (marks 8 mkMsg n k)], [iT k]]⟩
theorem r_l_heldMsgS {Te : Nat → List AV → Res → Prop} (c_l_markText : C_l_markText Te) : ∀ (n : Nat) (k : Int) (hl : n ≤ 2 ^ 31) (hk : 0 ≤ k ∧ k ≤ 2 ^ 46), RunFn Te x_l_heldMsgS [.one (slT false 8 Msg.row (marks 8 mkMsg n k)), .one (iT k)] ⟨[.one (iT (k + (8 * n : Nat)))], [[slT false 8 Msg.row (marks 8 mkMsg n k)], [iT k]]⟩ := by
  intro n k hl hk
  refine ⟨by simp -implicitDefEqProofs (maxSteps := 1000000) only [x_l_heldMsgS, go_sem], ?_⟩
  simp -implicitDefEqProofs (maxSteps := 1000000) (disch := omega) only [x_l_heldMsgS, go_sem, IntWalk.i64_in]
  refine loop_of (σ := Nat) (fun i => ⟨[(0, .one (.ro 8 ((marks 8 mkMsg n k).map Msg.row))), (1, .one (.pv (.int .i64 (k + (8 * i : Nat))))), (5, .one (.pv (.int .i64 i)))], [], [(0, [slT false 8 Msg.row (marks 8 mkMsg n k)]), (1, [iT k])]⟩) (fun i => i ≤ n) (fun i => n - i) 0 ?_ (Nat.zero_le _) ?_
  · simp -implicitDefEqProofs (maxSteps := 1000000) only [go_sem]; simp
  · intro i hi
    simp -implicitDefEqProofs (maxSteps := 1000000) only [go_sem, marks_length]
    refine ⟨fun h => ?_, fun h => ?_⟩
    · have hi' : i < n := by simp only [decide_eq_true_eq] at h; omega
      try simp -implicitDefEqProofs (maxSteps := 1000000) (disch := omega) only [go_sem, marks_get 8 mkMsg k hi', IntWalk.i64_in, mkMsg, bne_self_eq_false, decide_true, Bool.not_true]
      simp -implicitDefEqProofs (maxSteps := 1000000) (disch := omega) only [x_l_heldMsgS_1, go_sem, marks_get 8 mkMsg k hi', IntWalk.i64_in, mkMsg, bne_self_eq_false, decide_true, Bool.not_true]
      simp -implicitDefEqProofs (maxSteps := 1000000) (disch := omega) only [x_l_heldMsgS_2, go_sem, marks_get 8 mkMsg k hi', IntWalk.i64_in, mkMsg, bne_self_eq_false, decide_true, Bool.not_true]
      simp -implicitDefEqProofs (maxSteps := 1000000) (disch := omega) only [x_l_heldMsgS_3, go_sem, marks_get 8 mkMsg k hi', IntWalk.i64_in, mkMsg, bne_self_eq_false, decide_true, Bool.not_true]
      simp -implicitDefEqProofs (maxSteps := 1000000) (disch := omega) only [x_l_heldMsgS_4, go_sem, marks_get 8 mkMsg k hi', IntWalk.i64_in, mkMsg, bne_self_eq_false, decide_true, Bool.not_true]
      refine .of (c_l_markText _ (by omega)) ?_
      simp -implicitDefEqProofs (maxSteps := 1000000) (disch := omega) only [go_sem, marks_get 8 mkMsg k hi', IntWalk.i64_in, mkMsg, bne_self_eq_false, decide_true, Bool.not_true]
      repeat (refine ⟨by decide, ?_⟩)
      simp -implicitDefEqProofs (maxSteps := 1000000) (disch := omega) only [x_l_heldMsgS_5, go_sem, marks_get 8 mkMsg k hi', IntWalk.i64_in, mkMsg, bne_self_eq_false, decide_true, Bool.not_true]
      refine .of (c_l_markText _ (by omega)) ?_
      simp -implicitDefEqProofs (maxSteps := 1000000) (disch := omega) only [go_sem, marks_get 8 mkMsg k hi', IntWalk.i64_in, mkMsg, bne_self_eq_false, decide_true, Bool.not_true]
      repeat (refine ⟨by decide, ?_⟩)
      simp -implicitDefEqProofs (maxSteps := 1000000) (disch := omega) only [x_l_heldMsgS_6, go_sem, marks_get 8 mkMsg k hi', IntWalk.i64_in, mkMsg, bne_self_eq_false, decide_true, Bool.not_true]
      simp -implicitDefEqProofs (maxSteps := 1000000) (disch := omega) only [x_l_heldMsgS_7, go_sem, marks_get 8 mkMsg k hi', IntWalk.i64_in, mkMsg, bne_self_eq_false, decide_true, Bool.not_true]
      refine ⟨i + 1, ?_, hi', by omega⟩
      rw [show k + ((8 * (i + 1) : Nat) : Int) = k + (8 * i : Nat) + 1 + 1 + 1 + 1 + 1 + 1 + 1 + 1 by omega]
      rfl
    · have : i = n := by simp only [decide_eq_false_iff_not] at h; omega
      subst this
      simp -implicitDefEqProofs (maxSteps := 1000000) only [go_sem]
end Go.X

/- F -/
namespace Go.X
set_option maxRecDepth 100000
set_option maxHeartbeats 8000000
/-- n lies between. -/
def win (n a b : Int) : Bool := decide (n ≥ a) && decide (n ≤ b)
def Msg.ok (m : Msg) : Bool := win m.Kind 1 9 && win m.From 0 4 && win m.To 0 4 && (m.From != m.To) && win m.Seq 0 65535 && decide ((m.Key.size : Int) ≤ 60) && decide ((m.Text.size : Int) ≤ 60) && win m.N 0 255 && win m.Code 0 6
end Go.X

/- J -/
namespace Go.X
set_option maxRecDepth 100000
set_option maxHeartbeats 8000000
def netOk (l : List Msg) : Bool := l.all Msg.ok && decide ((l.length : Int) ≤ 20)
def send (l : List Msg) (m : Msg) : List Msg × Bool := if netOk (l ++ [m]) = true then (l ++ [m], true) else (l, false)
def sendAll (l more : List Msg) : List Msg := more.foldl (fun acc m => (send acc m).1) l
def msg0 : Msg := ⟨0, 0, 0, 0, ⟨#[]⟩, ⟨#[]⟩, 0, 0⟩
def takeOut (l : List Msg) (i : Int) : List Msg × Msg × Bool := if l = [] ∨ i < 0 then (l, msg0, false) else (l.take (i.toNat % l.length) ++ l.drop (i.toNat % l.length + 1), l.getD (i.toNat % l.length) msg0, true)
def twice (l : List Msg) (i : Int) : List Msg × Bool := if l = [] ∨ i < 0 then (l, false) else send l (l.getD (i.toNat % l.length) msg0)
theorem tmod_nat {i : Int} (n : Nat) (hi : ¬ i < 0) : i.tmod (n : Int) = ((i.toNat % n : Nat) : Int) := by
  obtain ⟨k, rfl⟩ := Int.eq_ofNat_of_zero_le (show 0 ≤ i by omega)
  rw [Int.tmod_eq_emod_of_nonneg (by omega)]
  rfl
theorem netOk_len {l : List Msg} (h : netOk l = true) : l.length ≤ 20 := by
  simp only [netOk, Bool.and_eq_true, decide_eq_true_eq] at h
  omega
theorem send_len {l : List Msg} (m : Msg) {n : Nat} (h : l.length ≤ n) (hn : 20 ≤ n) : (send l m).1.length ≤ n := by
  unfold send
  split
  · rename_i q
    exact Nat.le_trans (netOk_len q) hn
  · exact h
theorem sendAll_len {l : List Msg} (more : List Msg) {n : Nat} (h : l.length ≤ n) (hn : 20 ≤ n) : (sendAll l more).length ≤ n := by
  unfold sendAll
  induction more generalizing l with
  | nil => exact h
  | cons m more ih => exact ih (send_len m h hn)
theorem twice_len {l : List Msg} (i : Int) {n : Nat} (h : l.length ≤ n) (hn : 20 ≤ n) : (twice l i).1.length ≤ n := by
  unfold twice
  split
  · exact h
  · exact send_len _ h hn
theorem takeOut_len (l : List Msg) (i : Int) : (takeOut l i).1.length ≤ l.length := by
  unfold takeOut
  split
  · exact Nat.le_refl _
  · simp; omega
def x_i_copyNet : FnX := ⟨6, [.tmp 2],
  .seq (.reg [⟨none, some 2, 2, .mv (.k (.one (.nils 8)))⟩])
 (.seq (.reg [⟨none, some 3, 3, .bslice 8 []⟩,
   ⟨none, some 4, 4, .mv (.t 0)⟩,
   ⟨none, some 5, 5, .app 8 80 (.t 3) (.t 4)⟩,
   ⟨none, some 2, 2, .mv (.t 5)⟩])
 (.ret))⟩
abbrev C_i_copyNet (Te : Nat → List AV → Res → Prop) : Prop := ∀ (l : List Msg) (h : l.length ≤ 2 ^ 31), Te 66 [.one (slT false 8 Msg.row l)] ⟨[.one (slT true 8 Msg.row l)], [[slT false 8 Msg.row l]]⟩
theorem r_i_copyNet {Te : Nat → List AV → Res → Prop} : ∀ (l : List Msg) (h : l.length ≤ 2 ^ 31), RunFn Te x_i_copyNet [.one (slT false 8 Msg.row l)] ⟨[.one (slT true 8 Msg.row l)], [[slT false 8 Msg.row l]]⟩ := by
  intro l h
  refine ⟨by simp -implicitDefEqProofs (maxSteps := 1000000) only [x_i_copyNet, go_sem], ?_⟩
  simp -implicitDefEqProofs (maxSteps := 1000000) only [x_i_copyNet, go_sem]
  exact ⟨decide_eq_true (by omega), decide_eq_true (by omega)⟩
def x_s_l17Copy : FnX := ⟨6, [.tmp 2],
  .seq (.reg [⟨none, some 2, 2, .mv (.k (.one (.nils 8)))⟩])
 (.seq (.reg [⟨none, some 3, 3, .bslice 8 []⟩,
   ⟨none, some 4, 4, .mv (.t 0)⟩,
   ⟨none, some 5, 5, .app 8 80 (.t 3) (.t 4)⟩,
   ⟨none, some 2, 2, .mv (.t 5)⟩])
 (.ret))⟩
abbrev C_s_l17Copy (Te : Nat → List AV → Res → Prop) : Prop := ∀ (l : List Msg) (h : l.length ≤ 2 ^ 31), Te 65 [.one (slT false 8 Msg.row l)] ⟨[.one (slT true 8 Msg.row l)], [[slT false 8 Msg.row l]]⟩
theorem r_s_l17Copy {Te : Nat → List AV → Res → Prop} : ∀ (l : List Msg) (h : l.length ≤ 2 ^ 31), RunFn Te x_s_l17Copy [.one (slT false 8 Msg.row l)] ⟨[.one (slT true 8 Msg.row l)], [[slT false 8 Msg.row l]]⟩ := by
  intro l h
  refine ⟨by simp -implicitDefEqProofs (maxSteps := 1000000) only [x_s_l17Copy, go_sem], ?_⟩
  simp -implicitDefEqProofs (maxSteps := 1000000) only [x_s_l17Copy, go_sem]
  exact ⟨decide_eq_true (by omega), decide_eq_true (by omega)⟩
def x_i_TakeOut : FnX := ⟨38, [.tmp 4, .cell 5 (some 8), .tmp 6],
  .seq (.reg [⟨none, some 4, 4, .mv (.k (.one (.nils 8)))⟩,
   ⟨none, some 5, 5, .alloc [.pv (.int .i64 0), .pv (.int .i64 0), .pv (.int .i64 0), .pv (.int .i64 0), .pv (.string ⟨#[]⟩), .pv (.string ⟨#[]⟩), .pv (.int .i64 0), .pv (.int .i64 0)]⟩,
   ⟨none, some 6, 6, .mv (.k (.one (.pv (.bool false))))⟩])
 (.seq (.reg [⟨none, some 10, 10, .mv (.t 0)⟩,
   ⟨none, some 11, 11, .call 66 [0] [(.t 10)]⟩,
   ⟨none, some 7, 7, .mv (.t 11)⟩])
 (.seq (.seq (.reg [⟨none, some 12, 12, .mv (.t 0)⟩,
   ⟨none, some 13, 13, .len (.t 12)⟩,
   ⟨none, some 14, 14, .bin .eql (.t 13) (.k (.one (.pv (.int .i64 0))))⟩,
   ⟨none, some 15, 15, .mv (.t 14)⟩,
   ⟨(some (15, false)), some 16, 16, .mv (.t 1)⟩,
   ⟨(some (15, false)), some 17, 17, .bin .lss (.t 16) (.k (.one (.pv (.int .i64 0))))⟩,
   ⟨none, some 18, 18, .pick (.t 15) (.k (.one (.pv (.bool true)))) (.t 17)⟩])
 (.cond 18 (.seq (.reg [⟨none, some 19, 19, .mv (.t 7)⟩,
   ⟨none, some 20, 20, .build [.pv (.int .i64 0), .pv (.int .i64 0), .pv (.int .i64 0), .pv (.int .i64 0), .pv (.string ⟨#[]⟩), .pv (.string ⟨#[]⟩), .pv (.int .i64 0), .pv (.int .i64 0)] []⟩,
   ⟨none, some 4, 4, .mv (.t 19)⟩,
   ⟨none, none, 100001, .store 8 (.t 5) (.t 20)⟩,
   ⟨none, some 6, 6, .mv (.k (.one (.pv (.bool false))))⟩])
 (.ret)) (.skip)))
 (.seq (.reg [⟨none, some 21, 21, .mv (.t 1)⟩,
   ⟨none, some 22, 22, .mv (.t 0)⟩,
   ⟨none, some 23, 23, .len (.t 22)⟩,
   ⟨none, some 24, 24, .bin .rem (.t 21) (.t 23)⟩,
   ⟨none, some 8, 8, .mv (.t 24)⟩])
 (.seq (.reg [⟨none, some 25, 25, .mv (.t 7)⟩,
   ⟨none, some 26, 26, .mv (.t 8)⟩,
   ⟨none, some 27, 27, .iaddr 8 (.t 25) (.t 26)⟩,
   ⟨none, some 28, 28, .load (some 8) (.t 27)⟩,
   ⟨none, some 9, 9, .alloc [.pv (.int .i64 0), .pv (.int .i64 0), .pv (.int .i64 0), .pv (.int .i64 0), .pv (.string ⟨#[]⟩), .pv (.string ⟨#[]⟩), .pv (.int .i64 0), .pv (.int .i64 0)]⟩,
   ⟨none, none, 100002, .store 8 (.t 9) (.t 28)⟩])
 (.seq (.draw [⟨none, some 29, 29, .mv (.t 7)⟩,
   ⟨none, some 30, 30, .mv (.t 8)⟩,
   ⟨none, some 31, 31, .slice 8 (.t 29) none (some (.t 30))⟩,
   ⟨none, some 32, 32, .mv (.t 7)⟩,
   ⟨none, some 33, 33, .mv (.t 8)⟩,
   ⟨none, some 34, 34, .bin .add (.t 33) (.k (.one (.pv (.int .i64 1))))⟩,
   ⟨none, some 35, 35, .slice 8 (.t 32) (some (.t 34)) none⟩,
   ⟨none, some 36, 36, .app 8 80 (.t 31) (.t 35)⟩,
   ⟨none, some 37, 37, .load (some 8) (.t 9)⟩,
   ⟨none, some 4, 4, .mv (.t 36)⟩,
   ⟨none, none, 100003, .store 8 (.t 5) (.t 37)⟩,
   ⟨none, some 6, 6, .mv (.k (.one (.pv (.bool true))))⟩] [[], [], [0, 1], [], [], [4], [3, 5], [2, 6], [], [7, 7, 0, 1, 2, 3, 4, 5, 6, 7], [8, 9, 0, 1, 2, 3, 4, 5, 6, 7, 8, 9], [10, 0, 1, 2, 3, 4, 5, 6, 7, 8, 9, 10]])
 (.ret))))))⟩
abbrev C_i_TakeOut (Te : Nat → List AV → Res → Prop) : Prop := ∀ (l : List Msg) (i : Int) (h : l.length ≤ 2 ^ 30), Te 34 [.one (slT false 8 Msg.row l), .one (iT i)] ⟨[.one (slT true 8 Msg.row (takeOut l i).1), .agg (takeOut l i).2.1.row, .one (bT (takeOut l i).2.2)], [[slT false 8 Msg.row l], [iT i]]⟩
theorem r_i_TakeOut {Te : Nat → List AV → Res → Prop} (c_i_copyNet : C_i_copyNet Te) : ∀ (l : List Msg) (i : Int) (h : l.length ≤ 2 ^ 30), RunFn Te x_i_TakeOut [.one (slT false 8 Msg.row l), .one (iT i)] ⟨[.one (slT true 8 Msg.row (takeOut l i).1), .agg (takeOut l i).2.1.row, .one (bT (takeOut l i).2.2)], [[slT false 8 Msg.row l], [iT i]]⟩ := by
  intro l i h
  refine ⟨by simp -implicitDefEqProofs (maxSteps := 1000000) only [x_i_TakeOut, go_sem], ?_⟩
  cases g1 : ((l.length : Int) == 0)
  · have hl : 0 < l.length := by simp only [beq_eq_false_iff_ne, ne_eq] at g1; omega
    have hne : (l = []) = False := eq_false (List.length_pos_iff.1 hl)
    cases g2 : decide (i < 0)
    · have g2' : ¬ i < 0 := by simpa using g2
      have hk : i.toNat % l.length < l.length := Nat.mod_lt _ hl
      have ed : l.getD (i.toNat % l.length) msg0 = l[i.toNat % l.length] := by simp [List.getD, List.getElem?_eq_getElem hk]
      have et := tmod_nat l.length g2'
      simp only [takeOut, hne, g2', or_self, if_false, ed]
      generalize hK : i.toNat % l.length = K at *
      have e1 : (List.map Msg.row l).getD K [] = [.pv (.int .i64 l[K].Kind), .pv (.int .i64 l[K].From), .pv (.int .i64 l[K].To), .pv (.int .i64 l[K].Seq), .pv (.string l[K].Key), .pv (.string l[K].Text), .pv (.int .i64 l[K].N), .pv (.int .i64 l[K].Code)] := by simp [List.getD, List.getElem?_eq_getElem hk]
      have e2 : ((K : Int) + 1).toNat = K + 1 := by omega
      have e3 : List.take (l.length - (K + 1)) (List.drop (K + 1) (List.map Msg.row l)) = List.map Msg.row (l.drop (K + 1)) := by rw [← List.map_drop, List.take_of_length_le (by simp)]
      have e4 : List.take K (List.map Msg.row l) = List.map Msg.row (l.take K) := by rw [List.map_take]
      have e5 : (l.take K).length = K := by rw [List.length_take]; omega
      have e6 : (l.drop (K + 1)).length = l.length - (K + 1) := List.length_drop
      have e7 : List.map Msg.row (l.take K) ++ List.map Msg.row (l.drop (K + 1)) = List.map Msg.row (l.take K ++ l.drop (K + 1)) := List.map_append.symm
      have e8 : List.take (K + (l.length - (K + 1))) (List.map Msg.row (l.take K ++ l.drop (K + 1))) = List.map Msg.row (l.take K ++ l.drop (K + 1)) := List.take_of_length_le (by simp; omega)
      have w1 : IntKind.i64.wrap ((K : Int) + 1) = (K : Int) + 1 := IntWalk.i64_in _ (by omega)
      simp -implicitDefEqProofs (maxSteps := 1000000) only [x_i_TakeOut, go_sem, g1, g2, et, w1, e1, e2, e3, e4, e5, e6, e7, e8, List.getElem?_eq_getElem hk, Nat.sub_zero]
      refine .of (c_i_copyNet l (by omega)) ?_
      simp -implicitDefEqProofs (maxSteps := 1000000) only [go_sem, g1, g2, et, w1, e1, e2, e3, e4, e5, e6, e7, e8, List.getElem?_eq_getElem hk, Nat.sub_zero]
      repeat (first | refine ⟨rfl, ?_⟩ | refine ⟨by decide, ?_⟩ | refine ⟨decide_eq_true (by omega), ?_⟩ | refine ⟨⟨decide_eq_true (by omega), decide_eq_true (by omega)⟩, ?_⟩ | refine ⟨⟨⟨decide_eq_true (by omega), decide_eq_true (by omega)⟩, decide_eq_true (by omega)⟩, ?_⟩)
      exact decide_eq_true (Nat.le_refl _)

    · have g2' : i < 0 := by simpa using g2
      simp -implicitDefEqProofs (maxSteps := 1000000) only [x_i_TakeOut, go_sem, g1, g2]
      refine .of (c_i_copyNet l (by omega)) ?_
      simp -implicitDefEqProofs (maxSteps := 1000000) only [go_sem, g1, g2, takeOut, g2', or_true, if_true]
      try rfl
  · have hl : l = [] := by simpa using g1
    have hl' : (l = []) = True := by simp [hl]
    cases g2 : decide (i < 0)
    all_goals
      simp -implicitDefEqProofs (maxSteps := 1000000) only [x_i_TakeOut, go_sem, g1, g2]
      refine .of (c_i_copyNet l (by omega)) ?_
      simp -implicitDefEqProofs (maxSteps := 1000000) only [go_sem, g1, g2, takeOut, hl', true_or, if_true]
      try rfl
def x_s_TakeOut : FnX := ⟨35, [.tmp 4, .cell 5 (some 8), .tmp 6],
  .seq (.reg [⟨none, some 4, 4, .mv (.k (.one (.nils 8)))⟩,
   ⟨none, some 5, 5, .alloc [.pv (.int .i64 0), .pv (.int .i64 0), .pv (.int .i64 0), .pv (.int .i64 0), .pv (.string ⟨#[]⟩), .pv (.string ⟨#[]⟩), .pv (.int .i64 0), .pv (.int .i64 0)]⟩,
   ⟨none, some 6, 6, .mv (.k (.one (.pv (.bool false))))⟩])
 (.seq (.seq (.reg [⟨none, some 8, 8, .mv (.t 1)⟩,
   ⟨none, some 9, 9, .bin .lss (.t 8) (.k (.one (.pv (.int .i64 0))))⟩,
   ⟨none, some 10, 10, .mv (.t 9)⟩,
   ⟨(some (10, false)), some 11, 11, .mv (.t 0)⟩,
   ⟨(some (10, false)), some 12, 12, .len (.t 11)⟩,
   ⟨(some (10, false)), some 13, 13, .bin .eql (.t 12) (.k (.one (.pv (.int .i64 0))))⟩,
   ⟨none, some 14, 14, .pick (.t 10) (.k (.one (.pv (.bool true)))) (.t 13)⟩])
 (.cond 14 (.seq (.reg [⟨none, some 15, 15, .mv (.t 0)⟩,
   ⟨none, some 16, 16, .call 65 [0] [(.t 15)]⟩,
   ⟨none, some 17, 17, .build [.pv (.int .i64 0), .pv (.int .i64 0), .pv (.int .i64 0), .pv (.int .i64 0), .pv (.string ⟨#[]⟩), .pv (.string ⟨#[]⟩), .pv (.int .i64 0), .pv (.int .i64 0)] []⟩,
   ⟨none, some 4, 4, .mv (.t 16)⟩,
   ⟨none, none, 100001, .store 8 (.t 5) (.t 17)⟩,
   ⟨none, some 6, 6, .mv (.k (.one (.pv (.bool false))))⟩])
 (.ret)) (.skip)))
 (.seq (.reg [⟨none, some 18, 18, .mv (.t 1)⟩,
   ⟨none, some 19, 19, .mv (.t 0)⟩,
   ⟨none, some 20, 20, .len (.t 19)⟩,
   ⟨none, some 21, 21, .bin .rem (.t 18) (.t 20)⟩,
   ⟨none, some 7, 7, .mv (.t 21)⟩])
 (.seq (.draw [⟨none, some 22, 22, .mv (.t 0)⟩,
   ⟨none, some 23, 23, .mv (.t 7)⟩,
   ⟨none, some 24, 24, .slice 8 (.t 22) none (some (.t 23))⟩,
   ⟨none, some 25, 25, .call 65 [0] [(.t 24)]⟩,
   ⟨none, some 26, 26, .mv (.t 0)⟩,
   ⟨none, some 27, 27, .mv (.t 7)⟩,
   ⟨none, some 28, 28, .bin .add (.t 27) (.k (.one (.pv (.int .i64 1))))⟩,
   ⟨none, some 29, 29, .slice 8 (.t 26) (some (.t 28)) none⟩,
   ⟨none, some 30, 30, .app 8 80 (.t 25) (.t 29)⟩,
   ⟨none, some 31, 31, .mv (.t 0)⟩,
   ⟨none, some 32, 32, .mv (.t 7)⟩,
   ⟨none, some 33, 33, .iaddr 8 (.t 31) (.t 32)⟩,
   ⟨none, some 34, 34, .load (some 8) (.t 33)⟩,
   ⟨none, some 4, 4, .mv (.t 30)⟩,
   ⟨none, none, 100002, .store 8 (.t 5) (.t 34)⟩,
   ⟨none, some 6, 6, .mv (.k (.one (.pv (.bool true))))⟩] [[], [], [0, 1], [2], [], [], [5], [4, 6], [3, 7, 3], [], [], [9, 10], [11], [8, 8, 0, 1, 2, 3, 4, 5, 6, 7, 8], [12, 13, 0, 1, 2, 3, 4, 5, 6, 7, 8, 9, 10, 11, 12, 13], [14, 0, 1, 2, 3, 4, 5, 6, 7, 8, 9, 10, 11, 12, 13, 14]])
 (.ret))))⟩
abbrev C_s_TakeOut (Te : Nat → List AV → Res → Prop) : Prop := ∀ (l : List Msg) (i : Int) (h : l.length ≤ 2 ^ 30), Te 33 [.one (slT false 8 Msg.row l), .one (iT i)] ⟨[.one (slT true 8 Msg.row (takeOut l i).1), .agg (takeOut l i).2.1.row, .one (bT (takeOut l i).2.2)], [[slT false 8 Msg.row l], [iT i]]⟩
theorem r_s_TakeOut {Te : Nat → List AV → Res → Prop} (c_s_l17Copy : C_s_l17Copy Te) : ∀ (l : List Msg) (i : Int) (h : l.length ≤ 2 ^ 30), RunFn Te x_s_TakeOut [.one (slT false 8 Msg.row l), .one (iT i)] ⟨[.one (slT true 8 Msg.row (takeOut l i).1), .agg (takeOut l i).2.1.row, .one (bT (takeOut l i).2.2)], [[slT false 8 Msg.row l], [iT i]]⟩ := by
  intro l i h
  refine ⟨by simp -implicitDefEqProofs (maxSteps := 1000000) only [x_s_TakeOut, go_sem], ?_⟩
  cases g1 : ((l.length : Int) == 0)
  · have hl : 0 < l.length := by simp only [beq_eq_false_iff_ne, ne_eq] at g1; omega
    have hne : (l = []) = False := eq_false (List.length_pos_iff.1 hl)
    cases g2 : decide (i < 0)
    · have g2' : ¬ i < 0 := by simpa using g2
      have hk : i.toNat % l.length < l.length := Nat.mod_lt _ hl
      have ed : l.getD (i.toNat % l.length) msg0 = l[i.toNat % l.length] := by simp [List.getD, List.getElem?_eq_getElem hk]
      have et := tmod_nat l.length g2'
      simp only [takeOut, hne, g2', or_self, if_false, ed]
      generalize hK : i.toNat % l.length = K at *
      have e1 : (List.map Msg.row l).getD K [] = [.pv (.int .i64 l[K].Kind), .pv (.int .i64 l[K].From), .pv (.int .i64 l[K].To), .pv (.int .i64 l[K].Seq), .pv (.string l[K].Key), .pv (.string l[K].Text), .pv (.int .i64 l[K].N), .pv (.int .i64 l[K].Code)] := by simp [List.getD, List.getElem?_eq_getElem hk]
      have e2 : ((K : Int) + 1).toNat = K + 1 := by omega
      have e3 : List.take (l.length - (K + 1)) (List.drop (K + 1) (List.map Msg.row l)) = List.map Msg.row (l.drop (K + 1)) := by rw [← List.map_drop, List.take_of_length_le (by simp)]
      have e4 : List.take K (List.map Msg.row l) = List.map Msg.row (l.take K) := by rw [List.map_take]
      have e5 : (l.take K).length = K := by rw [List.length_take]; omega
      have e6 : (l.drop (K + 1)).length = l.length - (K + 1) := List.length_drop
      have e7 : List.map Msg.row (l.take K) ++ List.map Msg.row (l.drop (K + 1)) = List.map Msg.row (l.take K ++ l.drop (K + 1)) := List.map_append.symm
      have e8 : List.take (K + (l.length - (K + 1))) (List.map Msg.row (l.take K ++ l.drop (K + 1))) = List.map Msg.row (l.take K ++ l.drop (K + 1)) := List.take_of_length_le (by simp; omega)
      have e9 : List.take K (List.map Msg.row (List.take K l)) = List.map Msg.row (List.take K l) := List.take_of_length_le (by simp; omega)
      have w1 : IntKind.i64.wrap ((K : Int) + 1) = (K : Int) + 1 := IntWalk.i64_in _ (by omega)
      simp -implicitDefEqProofs (maxSteps := 1000000) only [x_s_TakeOut, go_sem, g1, g2, et, w1, e1, e2, e3, e4, e5, e6, e7, e8, e9, List.getElem?_eq_getElem hk, Nat.sub_zero]
      repeat (first | refine ⟨rfl, ?_⟩ | refine ⟨by decide, ?_⟩ | refine ⟨decide_eq_true (by omega), ?_⟩ | refine ⟨⟨decide_eq_true (by omega), decide_eq_true (by omega)⟩, ?_⟩ | refine ⟨⟨⟨decide_eq_true (by omega), decide_eq_true (by omega)⟩, decide_eq_true (by omega)⟩, ?_⟩)
      refine .of (c_s_l17Copy (l.take K) (by rw [e5]; omega)) ?_
      simp -implicitDefEqProofs (maxSteps := 1000000) only [go_sem, g1, g2, et, w1, e1, e2, e3, e4, e5, e6, e7, e8, e9, List.getElem?_eq_getElem hk, Nat.sub_zero]
      repeat (first | refine ⟨rfl, ?_⟩ | refine ⟨by decide, ?_⟩ | refine ⟨decide_eq_true (by omega), ?_⟩ | refine ⟨⟨decide_eq_true (by omega), decide_eq_true (by omega)⟩, ?_⟩ | refine ⟨⟨⟨decide_eq_true (by omega), decide_eq_true (by omega)⟩, decide_eq_true (by omega)⟩, ?_⟩)

      exact decide_eq_true (Nat.le_refl _)
    · have g2' : i < 0 := by simpa using g2
      simp -implicitDefEqProofs (maxSteps := 1000000) only [x_s_TakeOut, go_sem, g1, g2]
      refine .of (c_s_l17Copy l (by omega)) ?_
      simp -implicitDefEqProofs (maxSteps := 1000000) only [go_sem, g1, g2, takeOut, g2', or_true, if_true]
      try rfl
  · have hl : l = [] := by simpa using g1
    have hl' : (l = []) = True := by simp [hl]
    cases g2 : decide (i < 0)
    all_goals
      simp -implicitDefEqProofs (maxSteps := 1000000) only [x_s_TakeOut, go_sem, g1, g2]
      refine .of (c_s_l17Copy l (by omega)) ?_
      simp -implicitDefEqProofs (maxSteps := 1000000) only [go_sem, g1, g2, takeOut, hl', true_or, if_true]
      try rfl
end Go.X

/- W_TakeOut -/
namespace Go.X
set_option maxRecDepth 100000
set_option maxHeartbeats 8000000
def x_l_FnExactTakeOut : FnX := ⟨125, [.tmp 4],
  .seq (.reg [⟨none, some 4, 4, .mv (.k (.one (.pv (.bool false))))⟩])
 (.seq (.reg [⟨none, some 5, 5, .mv (.k (.one (.pv (.int .i64 1048576))))⟩])
 (.seq (.reg [⟨none, some 19, 19, .mv (.t 0)⟩,
   ⟨none, some 20, 20, .mv (.t 5)⟩,
   ⟨none, some 21, 21, .call 22 [0, 0] [(.t 19), (.t 20)]⟩,
   ⟨none, some 5, 5, .mv (.t 21)⟩])
 (.seq (.seq (.reg [⟨none, some 22, 22, .mv (.t 5)⟩,
   ⟨none, some 23, 23, .bin .lss (.t 22) (.k (.one (.pv (.int .i64 0))))⟩])
 (.cond 23 (.seq (.reg [⟨none, some 4, 4, .mv (.k (.one (.pv (.bool true))))⟩])
 (.ret)) (.skip)))
 (.seq (.reg [⟨none, some 25, 25, .mv (.t 0)⟩,
   ⟨none, some 26, 26, .call 24 [0] [(.t 25)]⟩,
   ⟨none, some 27, 27, .mv (.t 1)⟩,
   ⟨none, some 28, 28, .call 33 [0, 0] [(.t 26), (.t 27)]⟩,
   ⟨none, some 24, 24, .mv (.t 28)⟩,
   ⟨none, some 29, 29, .ext (.t 24) 0⟩,
   ⟨none, some 30, 30, .ext (.t 24) 1⟩,
   ⟨none, some 31, 31, .ext (.t 24) 2⟩,
   ⟨none, some 7, 7, .alloc [.pv (.int .i64 0), .pv (.int .i64 0), .pv (.int .i64 0), .pv (.int .i64 0), .pv (.string ⟨#[]⟩), .pv (.string ⟨#[]⟩), .pv (.int .i64 0), .pv (.int .i64 0)]⟩,
   ⟨none, some 6, 6, .mv (.t 29)⟩,
   ⟨none, none, 100001, .store 8 (.t 7) (.t 30)⟩,
   ⟨none, some 8, 8, .mv (.t 31)⟩])
 (.seq (.reg [⟨none, some 32, 32, .mv (.t 0)⟩,
   ⟨none, some 33, 33, .call 24 [0] [(.t 32)]⟩,
   ⟨none, some 9, 9, .mv (.t 33)⟩])
 (.seq (.reg [⟨none, some 35, 35, .mv (.t 9)⟩,
   ⟨none, some 36, 36, .mv (.t 1)⟩,
   ⟨none, some 37, 37, .call 34 [0, 0] [(.t 35), (.t 36)]⟩,
   ⟨none, some 34, 34, .mv (.t 37)⟩,
   ⟨none, some 38, 38, .ext (.t 34) 0⟩,
   ⟨none, some 39, 39, .ext (.t 34) 1⟩,
   ⟨none, some 40, 40, .ext (.t 34) 2⟩,
   ⟨none, some 11, 11, .alloc [.pv (.int .i64 0), .pv (.int .i64 0), .pv (.int .i64 0), .pv (.int .i64 0), .pv (.string ⟨#[]⟩), .pv (.string ⟨#[]⟩), .pv (.int .i64 0), .pv (.int .i64 0)]⟩,
   ⟨none, some 10, 10, .mv (.t 38)⟩,
   ⟨none, none, 100002, .store 8 (.t 11) (.t 39)⟩,
   ⟨none, some 12, 12, .mv (.t 40)⟩])
 (.seq (.seq (.reg [⟨none, some 41, 41, .mv (.t 10)⟩,
   ⟨none, some 42, 42, .mv (.t 6)⟩,
   ⟨none, some 43, 43, .call 26 [0, 0] [(.t 41), (.t 42)]⟩,
   ⟨none, some 44, 44, .not (.t 43)⟩,
   ⟨none, some 45, 45, .mv (.t 44)⟩,
   ⟨(some (45, false)), some 46, 46, .load (some 8) (.t 11)⟩,
   ⟨(some (45, false)), some 47, 47, .load (some 8) (.t 7)⟩,
   ⟨(some (45, false)), some 48, 48, .call 21 [0, 0] [(.t 46), (.t 47)]⟩,
   ⟨(some (45, false)), some 49, 49, .not (.t 48)⟩,
   ⟨none, some 50, 50, .pick (.t 45) (.k (.one (.pv (.bool true)))) (.t 49)⟩,
   ⟨none, some 51, 51, .mv (.t 50)⟩,
   ⟨(some (51, false)), some 52, 52, .mv (.t 12)⟩,
   ⟨(some (51, false)), some 53, 53, .mv (.t 8)⟩,
   ⟨(some (51, false)), some 54, 54, .beq true (.t 52) (.t 53)⟩,
   ⟨none, some 55, 55, .pick (.t 51) (.k (.one (.pv (.bool true)))) (.t 54)⟩])
 (.cond 55 (.seq (.reg [⟨none, some 4, 4, .mv (.k (.one (.pv (.bool false))))⟩])
 (.ret)) (.skip)))
 (.seq (.seq (.reg [⟨none, some 56, 56, .mv (.t 9)⟩,
   ⟨none, some 57, 57, .mv (.t 0)⟩,
   ⟨none, some 58, 58, .call 24 [0] [(.t 57)]⟩,
   ⟨none, some 59, 59, .call 26 [0, 0] [(.t 56), (.t 58)]⟩,
   ⟨none, some 60, 60, .not (.t 59)⟩])
 (.cond 60 (.seq (.reg [⟨none, some 4, 4, .mv (.k (.one (.pv (.bool false))))⟩])
 (.ret)) (.skip)))
 (.seq (.reg [⟨none, some 13, 13, .mv (.k (.one (.pv (.int .i64 1))))⟩])
 (.seq (.reg [⟨none, some 61, 61, .mv (.t 9)⟩,
   ⟨none, some 62, 62, .mv (.t 13)⟩,
   ⟨none, some 63, 63, .io 27 (.t 61) [(.t 62)]⟩,
   ⟨none, some 13, 13, .mv (.t 63)⟩])
 (.seq (.seq (.reg [⟨none, some 64, 64, .mv (.t 13)⟩,
   ⟨none, some 65, 65, .bin .lss (.t 64) (.k (.one (.pv (.int .i64 0))))⟩,
   ⟨none, some 66, 66, .mv (.t 65)⟩,
   ⟨(some (66, false)), some 67, 67, .mv (.t 10)⟩,
   ⟨(some (66, false)), some 68, 68, .mv (.t 6)⟩,
   ⟨(some (66, false)), some 69, 69, .call 26 [0, 0] [(.t 67), (.t 68)]⟩,
   ⟨(some (66, false)), some 70, 70, .not (.t 69)⟩,
   ⟨none, some 71, 71, .pick (.t 66) (.k (.one (.pv (.bool true)))) (.t 70)⟩,
   ⟨none, some 72, 72, .mv (.t 71)⟩,
   ⟨(some (72, false)), some 73, 73, .load (some 8) (.t 11)⟩,
   ⟨(some (72, false)), some 74, 74, .load (some 8) (.t 7)⟩,
   ⟨(some (72, false)), some 75, 75, .call 21 [0, 0] [(.t 73), (.t 74)]⟩,
   ⟨(some (72, false)), some 76, 76, .not (.t 75)⟩,
   ⟨none, some 77, 77, .pick (.t 72) (.k (.one (.pv (.bool true)))) (.t 76)⟩,
   ⟨none, some 78, 78, .mv (.t 77)⟩,
   ⟨(some (78, false)), some 79, 79, .mv (.t 12)⟩,
   ⟨(some (78, false)), some 80, 80, .mv (.t 8)⟩,
   ⟨(some (78, false)), some 81, 81, .beq true (.t 79) (.t 80)⟩,
   ⟨none, some 82, 82, .pick (.t 78) (.k (.one (.pv (.bool true)))) (.t 81)⟩])
 (.cond 82 (.seq (.reg [⟨none, some 4, 4, .mv (.k (.one (.pv (.bool false))))⟩])
 (.ret)) (.skip)))
 (.seq (.reg [⟨none, some 14, 14, .mv (.k (.one (.pv (.int .i64 1))))⟩])
 (.seq (.reg [⟨none, some 83, 83, .mv (.t 10)⟩,
   ⟨none, some 84, 84, .mv (.t 14)⟩,
   ⟨none, some 85, 85, .io 27 (.t 83) [(.t 84)]⟩,
   ⟨none, some 14, 14, .mv (.t 85)⟩])
 (.seq (.reg [⟨none, some 15, 15, .mv (.k (.one (.pv (.int .i64 1))))⟩])
 (.seq (.reg [⟨none, some 86, 86, .mv (.t 10)⟩,
   ⟨none, some 87, 87, .mv (.t 15)⟩,
   ⟨none, some 88, 88, .call 28 [0, 0] [(.t 86), (.t 87)]⟩,
   ⟨none, some 15, 15, .mv (.t 88)⟩])
 (.seq (.seq (.reg [⟨none, some 89, 89, .mv (.t 15)⟩,
   ⟨none, some 90, 90, .bin .lss (.t 89) (.k (.one (.pv (.int .i64 0))))⟩])
 (.cond 90 (.seq (.reg [⟨none, some 4, 4, .mv (.k (.one (.pv (.bool false))))⟩])
 (.ret)) (.skip)))
 (.seq (.seq (.reg [⟨none, some 91, 91, .mv (.t 15)⟩,
   ⟨none, some 92, 92, .mv (.t 14)⟩,
   ⟨none, some 93, 93, .bin .neq (.t 91) (.t 92)⟩])
 (.cond 93 (.seq (.reg [⟨none, some 4, 4, .mv (.k (.one (.pv (.bool false))))⟩])
 (.ret)) (.skip)))
 (.seq (.reg [⟨none, some 95, 95, .mv (.t 0)⟩,
   ⟨none, some 96, 96, .call 24 [0] [(.t 95)]⟩,
   ⟨none, some 97, 97, .mv (.t 1)⟩,
   ⟨none, some 98, 98, .call 34 [0, 0] [(.t 96), (.t 97)]⟩,
   ⟨none, some 94, 94, .mv (.t 98)⟩,
   ⟨none, some 99, 99, .ext (.t 94) 0⟩,
   ⟨none, some 100, 100, .ext (.t 94) 1⟩,
   ⟨none, some 101, 101, .ext (.t 94) 2⟩,
   ⟨none, some 17, 17, .alloc [.pv (.int .i64 0), .pv (.int .i64 0), .pv (.int .i64 0), .pv (.int .i64 0), .pv (.string ⟨#[]⟩), .pv (.string ⟨#[]⟩), .pv (.int .i64 0), .pv (.int .i64 0)]⟩,
   ⟨none, some 16, 16, .mv (.t 99)⟩,
   ⟨none, none, 100003, .store 8 (.t 17) (.t 100)⟩,
   ⟨none, some 18, 18, .mv (.t 101)⟩])
 (.seq (.seq (.reg [⟨none, some 102, 102, .mv (.t 16)⟩,
   ⟨none, some 103, 103, .mv (.t 6)⟩,
   ⟨none, some 104, 104, .call 26 [0, 0] [(.t 102), (.t 103)]⟩,
   ⟨none, some 105, 105, .not (.t 104)⟩,
   ⟨none, some 106, 106, .mv (.t 105)⟩,
   ⟨(some (106, false)), some 107, 107, .load (some 8) (.t 17)⟩,
   ⟨(some (106, false)), some 108, 108, .load (some 8) (.t 7)⟩,
   ⟨(some (106, false)), some 109, 109, .call 21 [0, 0] [(.t 107), (.t 108)]⟩,
   ⟨(some (106, false)), some 110, 110, .not (.t 109)⟩,
   ⟨none, some 111, 111, .pick (.t 106) (.k (.one (.pv (.bool true)))) (.t 110)⟩,
   ⟨none, some 112, 112, .mv (.t 111)⟩,
   ⟨(some (112, false)), some 113, 113, .mv (.t 18)⟩,
   ⟨(some (112, false)), some 114, 114, .mv (.t 8)⟩,
   ⟨(some (112, false)), some 115, 115, .beq true (.t 113) (.t 114)⟩,
   ⟨none, some 116, 116, .pick (.t 112) (.k (.one (.pv (.bool true)))) (.t 115)⟩])
 (.cond 116 (.seq (.reg [⟨none, some 4, 4, .mv (.k (.one (.pv (.bool false))))⟩])
 (.ret)) (.skip)))
 (.seq (.reg [⟨none, some 15, 15, .mv (.k (.one (.pv (.int .i64 1))))⟩])
 (.seq (.reg [⟨none, some 117, 117, .mv (.t 10)⟩,
   ⟨none, some 118, 118, .mv (.t 15)⟩,
   ⟨none, some 119, 119, .call 28 [0, 0] [(.t 117), (.t 118)]⟩,
   ⟨none, some 15, 15, .mv (.t 119)⟩])
 (.seq (.seq (.reg [⟨none, some 120, 120, .mv (.t 15)⟩,
   ⟨none, some 121, 121, .bin .lss (.t 120) (.k (.one (.pv (.int .i64 0))))⟩])
 (.cond 121 (.seq (.reg [⟨none, some 4, 4, .mv (.k (.one (.pv (.bool false))))⟩])
 (.ret)) (.skip)))
 (.seq (.seq (.reg [⟨none, some 122, 122, .mv (.t 15)⟩,
   ⟨none, some 123, 123, .mv (.t 14)⟩,
   ⟨none, some 124, 124, .bin .neq (.t 122) (.t 123)⟩])
 (.cond 124 (.seq (.reg [⟨none, some 4, 4, .mv (.k (.one (.pv (.bool false))))⟩])
 (.ret)) (.skip)))
 (.seq (.reg [⟨none, some 4, 4, .mv (.k (.one (.pv (.bool true))))⟩])
 (.ret)))))))))))))))))))))))))⟩
abbrev C_l_FnExactTakeOut (Te : Nat → List AV → Res → Prop) : Prop := ∀ (aL : List Msg) (aI : Int) (h_aL : (aL.length ≤ 2 ^ 48 ∧ ∀ y ∈ aL, y.In (2 ^ 48))), Te 8 [.one (slT false 8 Msg.row aL), .one (iT aI)] ⟨[.one (bT true)], [[slT false 8 Msg.row aL], [iT aI]]⟩
theorem r_l_FnExactTakeOut {Te : Nat → List AV → Res → Prop} (c_l_szMsgS : C_l_szMsgS Te) (c_l_toMsgS : C_l_toMsgS Te) (c_s_TakeOut : C_s_TakeOut Te) (c_i_TakeOut : C_i_TakeOut Te) (c_l_eqMsgS : C_l_eqMsgS Te) (c_l_eqMsg : C_l_eqMsg Te) (c_l_markMsgS : C_l_markMsgS Te) (c_l_heldMsgS : C_l_heldMsgS Te) : ∀ (aL : List Msg) (aI : Int) (h_aL : (aL.length ≤ 2 ^ 48 ∧ ∀ y ∈ aL, y.In (2 ^ 48))), RunFn Te x_l_FnExactTakeOut [.one (slT false 8 Msg.row aL), .one (iT aI)] ⟨[.one (bT true)], [[slT false 8 Msg.row aL], [iT aI]]⟩ := by
  intro aL aI h_aL
  refine ⟨by simp -implicitDefEqProofs (maxSteps := 1000000) only [x_l_FnExactTakeOut, go_sem], ?_⟩
  simp -implicitDefEqProofs (maxSteps := 1000000) only [x_l_FnExactTakeOut, go_sem]
  refine .of (c_l_szMsgS aL (1048576) (by omega) h_aL.1 h_aL.2) ?_
  simp -implicitDefEqProofs (maxSteps := 1000000) only [go_sem]
  refine fun q0 => ?_
  replace q0 : 0 ≤ (szSl szMsg aL (1048576)) := by simpa using q0
  have cb_aL : (0 : Int) ≤ (1048576) ∧ (1048576) ≤ (1048576 : Int) := by omega
  have n_aL : (aL.length ≤ 1048576 ∧ ∀ y ∈ aL, y.In (1048576)) := szSl_in szMsg_sane (fun a j h0 hn h => szMsg_in h0 hn h) (n := 1048576) cb_aL.1 cb_aL.2 q0
  have b_aL : 0 ≤ (szSl szMsg aL (1048576)) ∧ (szSl szMsg aL (1048576)) ≤ 1048576 := ⟨q0, Int.le_trans ((Sane.sl szMsg_sane) aL _ cb_aL.1) cb_aL.2⟩
  refine .of (c_l_toMsgS aL (Nat.le_trans n_aL.1 (by decide))) ?_
  simp -implicitDefEqProofs (maxSteps := 1000000) only [go_sem, eq_self, bne_self_eq_false, Bool.xor_self, true_implies, false_implies, marks_length, marks_take, take_map]
  repeat (first | refine ⟨rfl, ?_⟩ | refine ⟨by decide, ?_⟩ | refine ⟨⟨by decide, by decide⟩, ?_⟩)
  refine .of (c_s_TakeOut _ _ (Nat.le_trans n_aL.1 (by decide))) ?_
  simp -implicitDefEqProofs (maxSteps := 1000000) only [go_sem, eq_self, bne_self_eq_false, Bool.xor_self, true_implies, false_implies, marks_length, marks_take, take_map]
  repeat (first | refine ⟨rfl, ?_⟩ | refine ⟨by decide, ?_⟩ | refine ⟨⟨by decide, by decide⟩, ?_⟩)
  refine .of (c_l_toMsgS aL (Nat.le_trans n_aL.1 (by decide))) ?_
  simp -implicitDefEqProofs (maxSteps := 1000000) only [go_sem, eq_self, bne_self_eq_false, Bool.xor_self, true_implies, false_implies, marks_length, marks_take, take_map]
  repeat (first | refine ⟨rfl, ?_⟩ | refine ⟨by decide, ?_⟩ | refine ⟨⟨by decide, by decide⟩, ?_⟩)
  refine .of (c_i_TakeOut _ _ (Nat.le_trans n_aL.1 (by decide))) ?_
  simp -implicitDefEqProofs (maxSteps := 1000000) only [go_sem, eq_self, bne_self_eq_false, Bool.xor_self, true_implies, false_implies, marks_length, marks_take, take_map]
  repeat (first | refine ⟨rfl, ?_⟩ | refine ⟨by decide, ?_⟩ | refine ⟨⟨by decide, by decide⟩, ?_⟩)
  refine .of (c_l_eqMsgS ((takeOut aL aI).1) ((takeOut aL aI).1) (Nat.le_trans (Nat.le_trans (takeOut_len aL aI) n_aL.1) (by decide))) ?_
  simp -implicitDefEqProofs (maxSteps := 1000000) only [go_sem, eq_self, bne_self_eq_false, Bool.xor_self, true_implies, false_implies, marks_length, marks_take, take_map]
  repeat (first | refine ⟨rfl, ?_⟩ | refine ⟨by decide, ?_⟩ | refine ⟨⟨by decide, by decide⟩, ?_⟩)
  refine .of (c_l_eqMsg ((takeOut aL aI).2.1) ((takeOut aL aI).2.1)) ?_
  simp -implicitDefEqProofs (maxSteps := 1000000) only [go_sem, eq_self, bne_self_eq_false, Bool.xor_self, true_implies, false_implies, marks_length, marks_take, take_map]
  repeat (first | refine ⟨rfl, ?_⟩ | refine ⟨by decide, ?_⟩ | refine ⟨⟨by decide, by decide⟩, ?_⟩)
  refine .of (c_l_toMsgS aL (Nat.le_trans n_aL.1 (by decide))) ?_
  simp -implicitDefEqProofs (maxSteps := 1000000) only [go_sem, eq_self, bne_self_eq_false, Bool.xor_self, true_implies, false_implies, marks_length, marks_take, take_map]
  repeat (first | refine ⟨rfl, ?_⟩ | refine ⟨by decide, ?_⟩ | refine ⟨⟨by decide, by decide⟩, ?_⟩)
  refine .of (c_l_eqMsgS (aL) (aL) (Nat.le_trans n_aL.1 (by decide))) ?_
  simp -implicitDefEqProofs (maxSteps := 1000000) only [go_sem, eq_self, bne_self_eq_false, Bool.xor_self, true_implies, false_implies, marks_length, marks_take, take_map]
  repeat (first | refine ⟨rfl, ?_⟩ | refine ⟨by decide, ?_⟩ | refine ⟨⟨by decide, by decide⟩, ?_⟩)
  refine .of (c_l_markMsgS (aL) 1 (Nat.le_trans n_aL.1 (by decide)) (by omega)) ?_
  simp -implicitDefEqProofs (maxSteps := 1000000) only [go_sem, eq_self, bne_self_eq_false, Bool.xor_self, true_implies, false_implies, marks_length, marks_take, take_map]
  repeat (first | refine ⟨rfl, ?_⟩ | refine ⟨by decide, ?_⟩ | refine ⟨⟨by decide, by decide⟩, ?_⟩)
  have f_k : decide (((1 : Int) + (8 * (aL).length : Nat)) < 0) = false := decide_eq_false (by omega)
  simp -implicitDefEqProofs (maxSteps := 1000000) only [f_k, go_sem, true_implies, false_implies, marks_length, marks_take, take_map]
  repeat (first | refine ⟨rfl, ?_⟩ | refine ⟨by decide, ?_⟩ | refine ⟨⟨by decide, by decide⟩, ?_⟩)
  refine .of (c_l_eqMsgS ((takeOut aL aI).1) ((takeOut aL aI).1) (Nat.le_trans (Nat.le_trans (takeOut_len aL aI) n_aL.1) (by decide))) ?_
  simp -implicitDefEqProofs (maxSteps := 1000000) only [go_sem, eq_self, bne_self_eq_false, Bool.xor_self, true_implies, false_implies, marks_length, marks_take, take_map]
  repeat (first | refine ⟨rfl, ?_⟩ | refine ⟨by decide, ?_⟩ | refine ⟨⟨by decide, by decide⟩, ?_⟩)
  refine .of (c_l_eqMsg ((takeOut aL aI).2.1) ((takeOut aL aI).2.1)) ?_
  simp -implicitDefEqProofs (maxSteps := 1000000) only [go_sem, eq_self, bne_self_eq_false, Bool.xor_self, true_implies, false_implies, marks_length, marks_take, take_map]
  repeat (first | refine ⟨rfl, ?_⟩ | refine ⟨by decide, ?_⟩ | refine ⟨⟨by decide, by decide⟩, ?_⟩)
  refine .of (c_l_markMsgS ((takeOut aL aI).1) 1 (Nat.le_trans (Nat.le_trans (takeOut_len aL aI) n_aL.1) (by decide)) (by omega)) ?_
  simp -implicitDefEqProofs (maxSteps := 1000000) only [go_sem, eq_self, bne_self_eq_false, Bool.xor_self, true_implies, false_implies, marks_length, marks_take, take_map]
  repeat (first | refine ⟨rfl, ?_⟩ | refine ⟨by decide, ?_⟩ | refine ⟨⟨by decide, by decide⟩, ?_⟩)
  refine .of (c_l_heldMsgS ((takeOut aL aI).1).length 1 (Nat.le_trans (Nat.le_trans (takeOut_len aL aI) n_aL.1) (by decide)) (by omega)) ?_
  simp -implicitDefEqProofs (maxSteps := 1000000) only [go_sem, eq_self, bne_self_eq_false, Bool.xor_self, true_implies, false_implies, marks_length, marks_take, take_map]
  repeat (first | refine ⟨rfl, ?_⟩ | refine ⟨by decide, ?_⟩ | refine ⟨⟨by decide, by decide⟩, ?_⟩)
  have f_q : decide (((1 : Int) + (8 * ((takeOut aL aI).1).length : Nat)) < 0) = false := decide_eq_false (by omega)
  simp -implicitDefEqProofs (maxSteps := 1000000) only [f_q, go_sem, true_implies, false_implies, marks_length, marks_take, take_map]
  repeat (first | refine ⟨rfl, ?_⟩ | refine ⟨by decide, ?_⟩ | refine ⟨⟨by decide, by decide⟩, ?_⟩)
  try (simp -implicitDefEqProofs (maxSteps := 1000000) only [bne_self_eq_false, go_sem, true_implies, false_implies, marks_length, marks_take, take_map])
  refine .of (c_l_toMsgS aL (Nat.le_trans n_aL.1 (by decide))) ?_
  simp -implicitDefEqProofs (maxSteps := 1000000) only [go_sem, eq_self, bne_self_eq_false, Bool.xor_self, true_implies, false_implies, marks_length, marks_take, take_map]
  repeat (first | refine ⟨rfl, ?_⟩ | refine ⟨by decide, ?_⟩ | refine ⟨⟨by decide, by decide⟩, ?_⟩)
  refine .of (c_i_TakeOut _ _ (Nat.le_trans n_aL.1 (by decide))) ?_
  simp -implicitDefEqProofs (maxSteps := 1000000) only [go_sem, eq_self, bne_self_eq_false, Bool.xor_self, true_implies, false_implies, marks_length, marks_take, take_map]
  repeat (first | refine ⟨rfl, ?_⟩ | refine ⟨by decide, ?_⟩ | refine ⟨⟨by decide, by decide⟩, ?_⟩)
  refine .of (c_l_eqMsgS ((takeOut aL aI).1) ((takeOut aL aI).1) (Nat.le_trans (Nat.le_trans (takeOut_len aL aI) n_aL.1) (by decide))) ?_
  simp -implicitDefEqProofs (maxSteps := 1000000) only [go_sem, eq_self, bne_self_eq_false, Bool.xor_self, true_implies, false_implies, marks_length, marks_take, take_map]
  repeat (first | refine ⟨rfl, ?_⟩ | refine ⟨by decide, ?_⟩ | refine ⟨⟨by decide, by decide⟩, ?_⟩)
  refine .of (c_l_eqMsg ((takeOut aL aI).2.1) ((takeOut aL aI).2.1)) ?_
  simp -implicitDefEqProofs (maxSteps := 1000000) only [go_sem, eq_self, bne_self_eq_false, Bool.xor_self, true_implies, false_implies, marks_length, marks_take, take_map]
  repeat (first | refine ⟨rfl, ?_⟩ | refine ⟨by decide, ?_⟩ | refine ⟨⟨by decide, by decide⟩, ?_⟩)
  refine .of (c_l_heldMsgS ((takeOut aL aI).1).length 1 (Nat.le_trans (Nat.le_trans (takeOut_len aL aI) n_aL.1) (by decide)) (by omega)) ?_
  simp -implicitDefEqProofs (maxSteps := 1000000) only [go_sem, eq_self, bne_self_eq_false, Bool.xor_self, true_implies, false_implies, marks_length, marks_take, take_map]
  repeat (first | refine ⟨rfl, ?_⟩ | refine ⟨by decide, ?_⟩ | refine ⟨⟨by decide, by decide⟩, ?_⟩)
  simp -implicitDefEqProofs (maxSteps := 1000000) only [f_q, go_sem, true_implies, false_implies, marks_length, marks_take, take_map]
  repeat (first | refine ⟨rfl, ?_⟩ | refine ⟨by decide, ?_⟩ | refine ⟨⟨by decide, by decide⟩, ?_⟩)
  try (simp -implicitDefEqProofs (maxSteps := 1000000) only [bne_self_eq_false, go_sem, true_implies, false_implies, marks_length, marks_take, take_map])
end Go.X

