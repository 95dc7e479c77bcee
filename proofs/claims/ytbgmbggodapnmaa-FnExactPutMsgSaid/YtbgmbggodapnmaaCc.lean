/- Texts: XOpen CA CB CC CF CK CW_PutMsg. -/
import Derived.Test.YtbgmbggodapnmaaCb
import Derived.SizedLaws
import Derived.Deep.Slices
import Derived.ChangeArms
import Derived.WideShapes
import Derived.Below
set_option linter.unusedVariables false
set_option linter.unusedSimpArgs false
/- How what comes in reads; how a law is asked. -/
namespace Go.X
open Go.WideShapes Go.RowKit
def Old (w : World) : Nat → Prop := fun b => b < w.heap.size
def RdL (S : Nat → Prop) (w : World) (ts : List T) (vs : List Value) : Prop := ts.length = vs.length ∧ ∀ (k : Nat) (t : T) (v : Value), ts[k]? = some t → vs[k]? = some v → Rd S w t v
theorem RdL.app {S : Nat → Prop} {w : World} {a b : List T} {vs us : List Value} (h : RdL S w a vs) (h' : RdL S w b us) : RdL S w (a ++ b) (vs ++ us) :=
  ⟨by simp [h.1, h'.1], fun k t v ht hv => by
    by_cases hk : k < a.length
    · rw [List.getElem?_append_left hk] at ht
      rw [List.getElem?_append_left (by have := h.1; omega)] at hv
      exact h.2 k t v ht hv
    · rw [List.getElem?_append_right (by omega)] at ht
      rw [List.getElem?_append_right (by have := h.1; omega), ← h.1] at hv
      exact h'.2 _ t v ht hv⟩
theorem RdL.one {S : Nat → Prop} {w : World} {t : T} {v : Value} (h : Rd S w t v) : RdL S w [t] [v] := ⟨rfl, fun k t' v' ht hv => by
  cases k with
  | zero => simp at ht hv; subst ht; subst hv; exact h
  | succ k => simp at ht⟩
/-- Every reading of type t is a value that is told so and meets p. -/
def OpT {α : Type} (P : Program) (t : TypeId) (e : α → List T) (p : α → Prop) : Prop :=
  ∀ (H : Type) (enc : TypeId × Value → H) (w : World) (fuel : Nat) (cs : List Value) (x : DataW H × List MemPlace), DataW.trod enc P w 0 (fun _ => true) true fuel t cs = some x →
    (∀ n ∈ x.1.weights P t, n ≤ 140737488351232) → ∃ a, p a ∧ RdL (Old w) w (e a) cs
def FT {α : Type} (P : Program) (fs : List Field) (off z : Nat) (e : α → List T) (p : α → Prop) : Prop :=
  ∀ (H : Type) (enc : TypeId × Value → H) (w : World) (n : Nat) (cs : List Value) (xs : List (DataW H × List MemPlace)),
    (∀ (i : Nat) (f : Field), fs[i]? = some f → DataW.trod enc P w 0 (fun _ => true) true n f.type ((cs.drop f.offset).take (P.cellsOf f.type)) = xs[i]?) → xs.length = fs.length →
    (∀ m ∈ DataW.weightsEach P (fs.map (·.type)) (xs.map (·.1)), m ≤ 140737488351232) → cs.length = off + z → ∃ a, p a ∧ RdL (Old w) w (e a) (cs.drop off)
def InI (k : IntKind) (a : Int) : Prop := (Lit.int k a).wf = true
section
variable {P : Program} {t : TypeId}
theorem OpT.int {k : IntKind} (ht : P.underlying t = some (.int k)) : OpT P t (fun a => [.pv (.int k a)]) (InI k) := fun H enc w fuel cs x h _ => by
  obtain ⟨n, rfl, _, hw⟩ := DataW.trod_int ht h
  exact ⟨n, hw, .one (.pv rfl)⟩
theorem OpT.bool (ht : P.underlying t = some .bool) : OpT P t (fun a => [.pv (.bool a)]) (fun _ => True) := fun H enc w fuel cs x h _ => by
  obtain ⟨n, rfl, _⟩ := DataW.trod_bool ht h
  exact ⟨n, trivial, .one (.pv rfl)⟩
theorem OpT.string (ht : P.underlying t = some .string) : OpT P t (fun a => [.pv (.string a)]) (fun a => a.size ≤ 140737488351232) := fun H enc w fuel cs x h hw => by
  obtain ⟨s, rfl, rfl, hs⟩ := DataW.trod_string ht h
  refine ⟨s, ?_, .one (.pv rfl)⟩
  have := hw s.data.toList.length (by simp [DataW.weights])
  simpa using this
theorem old_of_cell {w : World} {ad : Addr} {v : Value} (h : w.cell? ad = some v) : ad.block < w.heap.size := by
  unfold World.cell? at h
  cases hb : w.heap[ad.block]? with
  | none => simp [hb] at h
  | some _ => exact (Array.getElem?_eq_some_iff.1 hb).1
theorem mem_allW {H : Type} {e : TypeId} {d : DataW H} {n : Nat} (hn : n ∈ d.weights P e) : ∀ {l : List (DataW H)}, d ∈ l → n ∈ DataW.weightsAll P e l
  | [], h => by cases h
  | y :: l, h => by
    simp only [DataW.weightsAll, List.mem_append]
    rcases List.mem_cons.1 h with rfl | h
    · exact .inl hn
    · exact .inr (mem_allW hn h)
theorem OpT.slice {α : Type} {e : TypeId} {en : α → List T} {p : α → Prop} (z B : Nat) (ht : P.underlying t = some (.slice e)) (hc : P.cellsOf e = z) (hB : P.bytesOf e = B) (h : OpT P e en p) :
    OpT P t (fun l : List α => [.sl false z () (l.map en)]) (fun l => l.length * B ≤ 140737488351232 ∧ ∀ a ∈ l, p a) := fun H enc w fuel cs x hx hw => by
  rcases Deep.open_slice ht hx with ⟨rfl, rfl⟩ | ⟨ad, len, cap, m, n, D, Pl, rfl, _, hl, hm, hmm, rfl, hel⟩
  · refine ⟨[], ⟨by simp, fun _ h => by cases h⟩, .one ?_⟩
    exact Rd.sl (rows := []) (fun _ _ => undef) (Nat.le_refl _) (by simp [maxLen]) (fun r hr => by cases hr) (fun i r j t hr => by simp at hr) (fun i r j t hr => by simp at hr)
  · simp only [if_true] at hmm
    replace hmm := hmm.symm
    subst hmm
    have hel' : ∀ i, i < len → ∃ a, p a ∧ ∃ c : List Value, c.length = z ∧ RdL (Old w) w (en a) c ∧ ∀ j u, c[j]? = some u → w.cell? (ad.add (i * z + j)) = some u := fun i hi => by
      obtain ⟨c, h1, h2⟩ := hel i (by omega)
      have hww : ∀ k ∈ (D i).weights P e, k ≤ 140737488351232 := fun k hk => hw k (by
        simp only [DataW.weights, ht, List.mem_cons, List.mem_append]
        exact .inr (.inl (mem_allW hk (List.mem_map.2 ⟨i, by simpa using hi, rfl⟩))))
      obtain ⟨a, hpa, ha⟩ := h H enc w n c _ h2 hww
      obtain ⟨_, hlen, hcell⟩ := World.cells?_some h1
      refine ⟨a, hpa, c, hlen.trans hc, ha, fun j u hu => ?_⟩
      have hj : j < c.length := (List.getElem?_eq_some_iff.1 hu).1
      have := hcell j (by omega)
      rw [hu, Deep.add_add, hc] at this
      exact this
    have : ∃ l : List α, l.length = len ∧ ∀ i a, l[i]? = some a → p a ∧ ∃ c : List Value, c.length = z ∧ RdL (Old w) w (en a) c ∧ ∀ j u, c[j]? = some u → w.cell? (ad.add (i * z + j)) = some u := by
      clear hx hw hel hl
      induction len with
      | zero => exact ⟨[], rfl, fun i a h => by simp at h⟩
      | succ len ih =>
        obtain ⟨l, hl, hh⟩ := ih (fun i hi => hel' i (by omega))
        obtain ⟨a, ha⟩ := hel' len (by omega)
        refine ⟨l ++ [a], by simp [hl], fun i b hb => ?_⟩
        by_cases hi : i < l.length
        · exact hh i b (by rwa [List.getElem?_append_left hi] at hb)
        · have hi' : i = len := by
            have := (List.getElem?_eq_some_iff.1 hb).1
            simp at this
            omega
          subst hi'
          rw [List.getElem?_append_right (by omega), hl] at hb
          simp at hb
          subst hb
          exact ha
    obtain ⟨l, hll, hh⟩ := this
    have hsz : len * B ≤ 140737488351232 := by
      have z := hw ((((List.range len).map D).length + ((List.range (cap - len)).map fun j => D (len + j)).length) * P.bytesOf e) (by simp [DataW.weights, ht])
      rw [hB] at z
      simp only [List.length_map, List.length_range] at z
      exact Nat.le_trans (Nat.mul_le_mul_right _ (by omega)) z
    refine ⟨l, ⟨by rw [hll]; exact hsz, fun a ha => ?_⟩, .one ?_⟩
    · obtain ⟨i, hi, rfl⟩ := List.mem_iff_getElem.1 ha
      exact (hh i _ (List.getElem?_eq_getElem hi)).1
    · have key : ∀ i r j t, (l.map en)[i]? = some r → r[j]? = some t → w.cell? (ad.add (i * z + j)) = some ((w.cell? (ad.add (i * z + j))).getD undef) ∧ Rd (Old w) w t ((w.cell? (ad.add (i * z + j))).getD undef) := fun i r j t hr hj => by
        rw [List.getElem?_map] at hr
        cases hi : l[i]? with
        | none => simp [hi] at hr
        | some a =>
          simp [hi] at hr
          subst hr
          obtain ⟨_, c, h1, h2, h3⟩ := hh i a hi
          have hjl : j < c.length := by rw [← h2.1]; exact (List.getElem?_eq_some_iff.1 hj).1
          have h4 := h3 j c[j] (List.getElem?_eq_getElem hjl)
          rw [h4]
          exact ⟨rfl, h2.2 j t _ hj (List.getElem?_eq_getElem hjl)⟩
      have := Rd.sl (S := Old w) (w := w) (z := z) (cap := cap) (a := some ad) (rows := l.map en) (fun i j => (w.cell? (ad.add (i * z + j))).getD undef) (by simp; omega) hm (fun r hr => by
        obtain ⟨a, ha, rfl⟩ := List.mem_map.1 hr
        obtain ⟨i, hi, rfl⟩ := List.mem_iff_getElem.1 ha
        obtain ⟨_, c, h1, h2, h3⟩ := hh i _ (List.getElem?_eq_getElem hi)
        rw [h2.1, h1]) (fun i r j t hr hj => by
        obtain ⟨h1, h2⟩ := key i r j t hr hj
        refine ⟨ad, rfl, ?_, h1⟩
        have := old_of_cell h1
        rwa [add_block] at this) (fun i r j t hr hj => (key i r j t hr hj).2)
      rw [List.length_map, hll] at this
      exact this
theorem FT.one {α : Type} {e : α → List T} {p : α → Prop} {f : Field} {off z : Nat} (ho : f.offset = off) (hc : P.cellsOf f.type = z) (h : OpT P f.type e p) : FT P [f] off z e p := fun H enc w n cs xs hx hl hw hlen => by
  match xs, hl with
  | [x], _ =>
    have h0 := hx 0 f rfl
    rw [ho, hc, List.take_of_length_le (by rw [List.length_drop]; omega)] at h0
    exact h H enc w n _ x (by simpa using h0) (fun m hm => hw m (by simp only [List.map_cons, List.map_nil, DataW.weightsEach, List.append_nil]; exact hm))
theorem FT.cons {α β : Type} {e : α → List T} {e' : β → List T} {p : α → Prop} {p' : β → Prop} {f : Field} {fs : List Field} {off z z' : Nat} (ho : f.offset = off) (hc : P.cellsOf f.type = z) (h : OpT P f.type e p) (h' : FT P fs (off + z) z' e' p') :
    FT P (f :: fs) off (z + z') (fun a : α × β => e a.1 ++ e' a.2) (fun a => p a.1 ∧ p' a.2) := fun H enc w n cs xs hx hl hw hlen => by
  match xs, hl with
  | x :: xs, hl =>
    have h0 := hx 0 f rfl
    rw [ho, hc] at h0
    obtain ⟨a, hpa, ha⟩ := h H enc w n _ x (by simpa using h0) (fun m hm => hw m (by simp only [List.map_cons, DataW.weightsEach, List.mem_append]; exact .inl hm))
    obtain ⟨b, hpb, hb⟩ := h' H enc w n cs xs (fun i g hg => by simpa using hx (i + 1) g (by simpa using hg)) (by simpa using hl)
      (fun m hm => hw m (by simp only [List.map_cons, DataW.weightsEach, List.mem_append]; exact .inr hm)) (by omega)
    refine ⟨(a, b), ⟨hpa, hpb⟩, ?_⟩
    have := ha.app hb
    rwa [← List.drop_drop, List.take_append_drop] at this
theorem OpT.struct {α β : Type} {e : α → List T} {e' : β → List T} {p : α → Prop} {q : β → Prop} {fs : Array Field} {z : Nat} (ht : P.underlying t = some (.struct fs)) (hc : P.cellsOf t = z) (h : FT P fs.toList 0 z e p) (g : α → β) (hg : ∀ a, e' (g a) = e a) (hq : ∀ a, p a → q (g a)) :
    OpT P t e' q := fun H enc w fuel cs x hx hw => by
  obtain ⟨xs, n, _, rfl, hl, hlen, hf⟩ := DataW.trod_struct ht hx
  obtain ⟨a, hpa, ha⟩ := h H enc w n cs xs (fun i f hi => hf i f (by simpa using hi)) (by simpa using hlen) (fun m hm => hw m (by simpa only [DataW.weights, ht] using hm)) (by omega)
  exact ⟨g a, hq a hpa, by rw [hg]; simpa using ha⟩
theorem OpT.weaken {α : Type} {e : α → List T} {p q : α → Prop} (h : OpT P t e p) (hq : ∀ a, p a → q a) : OpT P t e q := fun H enc w fuel cs x hx hw => by
  obtain ⟨a, hp, ha⟩ := h H enc w fuel cs x hx hw
  exact ⟨a, hq a hp, ha⟩
/-- A parameter's value. -/
theorem OpT.param {α : Type} {e : α → List T} {p : α → Prop} (h : OpT P t e p) {H : Type} {enc : TypeId × Value → H} {W : World} {v : Value} {x : DataW H} {ps : List MemPlace} {ts : List TypeId} {ds : List (DataW H)} (hT : DataW.Trod enc P W 0 (fun _ => true) true t v x ps)
    (hsz : (DataW.weightsEach P ts ds).all (· ≤ reachBytes) = true) (j : Nat) (hj : ts[j]? = some t) (hd : ds[j]? = some x) : ∃ a, p a ∧ RdL (Old W) W (e a) v.cells.toList := by
  obtain ⟨fuel, hf⟩ := hT
  exact h H enc W fuel _ _ hf (fun n hn => by
    have := List.all_eq_true.1 hsz _ (DataW.weights_mem_each hj hd n hn)
    exact of_decide_eq_true this)
theorem lt_of_trod {H : Type} {enc : TypeId × Value → H} {W : World} {v : Value} {x : DataW H} {ps : List MemPlace} (h : DataW.Trod enc P W 0 (fun _ => true) true t v x ps) : ∀ y ∈ ps, y.block < W.heap.size := by
  obtain ⟨m, hm⟩ := h
  exact DataW.trod_lt m _ _ _ hm
/-- An argument, and how it reads. -/
def RdA (w : World) : AV → Value → Prop
  | .one t, v => Rd (Old w) w t v
  | .agg ts, v => ∃ vs : List Value, v = .agg vs.toArray ∧ RdL (Old w) w ts vs
  | .ptr _, _ => False
def RdAs (w : World) : List AV → List Value → Prop
  | [], [] => True
  | a :: as, v :: vs => RdA w a v ∧ RdAs w as vs
  | _, _ => False
theorem rdL_ghost {w : World} : ∀ {ts : List T} {vs : List Value}, RdL (Old w) w ts vs → ∃ gs : List G, gs.map er = ts ∧ gs.map hdr = vs ∧ ∀ t ∈ gs, Rp (Old w) w t ∧ ∀ b, cnt b t = 0
  | [], [], _ => ⟨[], rfl, rfl, fun t h => by cases h⟩
  | t :: ts, v :: vs, h => by
    obtain ⟨gs, e1, e2, e3⟩ := rdL_ghost (ts := ts) (vs := vs) ⟨by simpa using h.1, fun k t v ht hv => h.2 (k + 1) t v (by simpa using ht) (by simpa using hv)⟩
    obtain ⟨f1, f2, f3⟩ := gro_ok (h.2 0 t v rfl rfl)
    exact ⟨gro t v :: gs, by simp [gro_er, e1], by simp [f1, e2], fun t' ht' => by
      rcases List.mem_cons.1 ht' with rfl | ht'
      · exact ⟨f2, f3⟩
      · exact e3 t' ht'⟩
  | [], _ :: _, h => by simp [RdL] at h
  | _ :: _, [], h => by simp [RdL] at h
theorem rdAs_ghost {w : World} : ∀ {as : List AV} {vs : List Value}, RdAs w as vs → ∃ gs : List GA, gs.map GA.er = as ∧ gs.map GA.val = vs ∧ (∀ x ∈ gs, x.ok (Old w) w ∧ noPtr x) ∧ ∀ b, treeCnt b gs + ptrCnt b gs = 0
  | [], [], _ => ⟨[], rfl, rfl, fun x h => (by cases h), fun b => rfl⟩
  | a :: as, v :: vs, h => by
    obtain ⟨gs, e1, e2, e3, e4⟩ := rdAs_ghost h.2
    have h1 := h.1
    cases a with
    | one t =>
      obtain ⟨f1, f2, f3⟩ := gro_ok (show Rd (Old w) w t v from h1)
      refine ⟨.one (gro t v) :: gs, by simp [GA.er, gro_er, e1], by simp [GA.val, f1, e2], fun x hx => ?_, fun b => ?_⟩
      · rcases List.mem_cons.1 hx with rfl | hx
        · exact ⟨⟨fun t ht => by simp only [GA.ts, List.mem_singleton] at ht; subst ht; exact f2, fun A ts e => by cases e⟩, trivial⟩
        · exact e3 x hx
      · have := e4 b
        have := f3 b
        simp only [treeCnt, ptrCnt, List.flatMap_cons, cntL_append, GA.ts, GA.pb, cntL] at *
        omega
    | agg ts =>
      obtain ⟨us, rfl, hR⟩ := h1
      obtain ⟨ys, f1, f2, f3⟩ := rdL_ghost hR
      refine ⟨.agg ys :: gs, by simp [GA.er, f1, e1], by simp [GA.val, f2, e2], fun x hx => ?_, fun b => ?_⟩
      · rcases List.mem_cons.1 hx with rfl | hx
        · exact ⟨⟨fun t ht => (f3 t ht).1, fun A ts e => by cases e⟩, trivial⟩
        · exact e3 x hx
      · have h4 := e4 b
        have z : cntL b ys = 0 := by
          have : ∀ l : List G, (∀ t ∈ l, cnt b t = 0) → cntL b l = 0 := fun l => by
            induction l with
            | nil => intro _; rfl
            | cons t l ih => intro h; simp [cntL, h t (List.mem_cons_self ..), ih (fun t ht => h t (List.mem_cons_of_mem _ ht))]
          exact this _ (fun t ht => (f3 t ht).2 b)
        simp only [treeCnt, ptrCnt, List.flatMap_cons, cntL_append, GA.ts, GA.pb] at *
        omega
    | ptr => exact h1.elim
  | [], _ :: _, h => h.elim
  | _ :: _, [], h => h.elim
/-- A law is asked. -/
theorem asked {f : Nat} {as : List AV} {args : Array Value} {w : World} {u : Value} {os : List (List T)} (hT : Tells P f as ⟨[.one (.pv u)], os⟩) (ha : RdAs w as args.toList) : Calls P f args w fun e w' => e = .returned u ∧ Below w.heap.size w w' := by
  obtain ⟨gs, e1, e2, e3, e4⟩ := rdAs_ghost ha
  have := hT (Old w) gs w e1 (fun b h => h) (fun x hx => (e3 x hx).1) (fun b => by have := e4 b; omega) (fun b hb => by have := e4 b; omega)
  rw [e2] at this
  refine this.mono ?_
  rintro e w1 ⟨rs, os', rfl, er1, er2, hrs, hos, hOut, hc1, hc2, hF, _⟩
  have hrs' : rs = [.one (.pv u)] := by
    cases rs with
    | nil => simp at er1
    | cons y ys =>
      cases ys with
      | cons => simp at er1
      | nil =>
        simp at er1
        cases y with
        | one t =>
          simp only [GA.er, AV.one.injEq] at er1
          cases t <;> simp_all [er]
        | _ => simp [GA.er] at er1
  subst hrs'
  exact ⟨rfl, ⟨hF.os, hF.tape, hF.output, hF.size, fun b hb => hF.block b hb (e4 b)⟩⟩
end
end Go.X

/- A -/
namespace Go.X
set_option maxRecDepth 100000
set_option maxHeartbeats 8000000
abbrev iT (a : Int) : T := .pv (.int .i64 a)
abbrev bT (a : Bool) : T := .pv (.bool a)
abbrev sT (s : ByteArray) : T := .pv (.string s)
abbrev uT (a : UInt8) : T := .pv (.int .u8 a.toNat)
abbrev slT {α : Type} (o : Bool) (z : Nat) (f : α → List T) (l : List α) : T := .sl o z () (l.map f)
abbrev bR (a : Bool) : List T := [bT a]
abbrev sR (a : ByteArray) : List T := [sT a]
abbrev iR (a : Int) : List T := [iT a]
abbrev uR (a : UInt8) : List T := [uT a]
/-- What is left of a measure. -/
def left (a : Int) : Int := if a < 0 then -1 else a
def Sane (f : Int → Int) : Prop := ∀ k, 0 ≤ k → f k ≤ k
def SaneL (fs : List (Int → Int)) : Prop := ∀ f ∈ fs, Sane f
theorem SaneL.nil : SaneL [] := fun _ h => by cases h
theorem SaneL.cons {f : Int → Int} {fs : List (Int → Int)} (h : Sane f) (t : SaneL fs) : SaneL (f :: fs) := fun g hg => by
  rcases List.mem_cons.1 hg with rfl | hg
  · exact h
  · exact t _ hg
/-- One measure behind the other, as long as something is left. -/
def szAll : List (Int → Int) → Int → Int
  | [], k => k
  | f :: fs, k => if f k < 0 then -1 else szAll fs (f k)
def ExL (n : Int) : List (Int → Int) → Prop
  | [] => True
  | f :: fs => (∃ j, 0 ≤ j ∧ j ≤ n ∧ 0 ≤ f j) ∧ ExL n fs
theorem Sane.all {fs : List (Int → Int)} (h : SaneL fs) : Sane (szAll fs) := by
  induction fs with
  | nil => intro k hk; exact Int.le_refl _
  | cons f fs ih =>
    intro k hk
    have h1 := h f (List.mem_cons_self ..) k hk
    simp only [szAll]
    split
    · omega
    · have := ih (fun g hg => h g (List.mem_cons_of_mem _ hg)) (f k) (by omega)
      omega
theorem szAll_ex {fs : List (Int → Int)} (h : SaneL fs) {k n : Int} (hk : 0 ≤ k) (hn : k ≤ n) (h0 : 0 ≤ szAll fs k) : ExL n fs := by
  induction fs generalizing k with
  | nil => trivial
  | cons f fs ih =>
    have h1 := h f (List.mem_cons_self ..) k hk
    simp only [szAll] at h0
    split at h0
    · omega
    · exact ⟨⟨k, hk, hn, by omega⟩, ih (fun g hg => h g (List.mem_cons_of_mem _ hg)) (k := f k) (by omega) (by omega) h0⟩
theorem Sane.sub (n : Nat) : Sane (fun k => k - n) := fun k hk => by show k - (n : Int) ≤ k; omega
theorem Sane.left (n : Nat) : Sane (fun k => left (k - n)) := fun k hk => by
  show Go.X.left (k - (n : Int)) ≤ k
  unfold Go.X.left
  split <;> omega
theorem left_nn {a : Int} (h : ¬ left a < 0) : left a = a := by
  unfold left at h ⊢
  split at h
  · omega
  · rw [if_neg (by assumption)]
theorem left_in {k : Int} {n : Nat} (h : 0 ≤ left (k - n)) : (n : Int) ≤ k := by
  unfold left at h
  split at h <;> omega
/-- What is left of a measure behind a row of things. -/
def szSl {α : Type} (f : α → Int → Int) (l : List α) (k : Int) : Int := szAll ((fun k => k - l.length) :: l.map f) k
theorem Sane.sl {α : Type} {f : α → Int → Int} (hf : ∀ a, Sane (f a)) (l : List α) : Sane (szSl f l) := by
  refine Sane.all (.cons (.sub _) fun g hg => ?_)
  obtain ⟨a, _, rfl⟩ := List.mem_map.1 hg
  exact hf a
theorem ExL_map {α : Type} {f : α → Int → Int} {n : Int} : ∀ {l : List α}, ExL n (l.map f) → ∀ a ∈ l, ∃ j, 0 ≤ j ∧ j ≤ n ∧ 0 ≤ f a j
  | [], _, a, h => by cases h
  | b :: l, ⟨h1, h2⟩, a, h => by
    rcases List.mem_cons.1 h with rfl | h
    · exact h1
    · exact ExL_map h2 a h
theorem szSl_in {α : Type} {f : α → Int → Int} {P : α → Prop} {n : Nat} (hf : ∀ a, Sane (f a)) (hP : ∀ a j, 0 ≤ j → j ≤ (n : Int) → 0 ≤ f a j → P a) {l : List α} {k : Int} (hk : 0 ≤ k) (hn : k ≤ n) (h : 0 ≤ szSl f l k) : l.length ≤ n ∧ ∀ a ∈ l, P a := by
  obtain ⟨⟨j, h1, h2, h3⟩, h4⟩ := szAll_ex (.cons (.sub _) fun g hg => by obtain ⟨a, _, rfl⟩ := List.mem_map.1 hg; exact hf a) hk hn h
  refine ⟨by have h5 : (0 : Int) ≤ j - (l.length : Nat) := h3; omega, fun a ha => ?_⟩
  obtain ⟨j, q1, q2, q3⟩ := ExL_map h4 a ha
  exact hP a j q1 q2 q3
def szStr (s : ByteArray) (k : Int) : Int := left (k - s.size)
theorem szStr_sane (s : ByteArray) : Sane (szStr s) := Sane.left _
theorem fill_get {α : Type} (f : α → List T) (l : List α) (z : List T) {i : Nat} (hi : i < l.length) : ((l.take i).map f ++ List.replicate (l.length - i) z)[i]? = some z := by
  rw [List.getElem?_append_right (by simp; omega), List.getElem?_replicate, if_pos (by simp; omega)]
theorem fill_set {α : Type} (f : α → List T) (l : List α) (z : List T) {i : Nat} (hi : i < l.length) : ((l.take i).map f ++ List.replicate (l.length - i) z).set i (f l[i]) = (l.take (i + 1)).map f ++ List.replicate (l.length - (i + 1)) z := by
  rw [List.set_append_right _ _ (by simp; omega), List.take_succ_eq_append_getElem hi, List.map_append, List.append_assoc]
  congr 1
  have e : l.length - i = (l.length - (i + 1)) + 1 := by omega
  rw [e, List.replicate_succ]
  have : i - ((l.take i).map f).length = 0 := by simp; omega
  rw [this]
  rfl
theorem fill_len {α : Type} (f : α → List T) (l : List α) (z : List T) {i : Nat} (hi : i ≤ l.length) : ((l.take i).map f ++ List.replicate (l.length - i) z).length = l.length := by simp; omega
theorem fill_end {α : Type} (f : α → List T) (l : List α) (z : List T) : (l.take l.length).map f ++ List.replicate (l.length - l.length) z = l.map f := by simp
/-- As far as i they are the same. -/
theorem same_step {α : Type} {l m : List α} {i : Nat} (hl : i < l.length) (hm : i < m.length) (h : l.take i = m.take i) (he : l[i] = m[i]) : l.take (i + 1) = m.take (i + 1) := by
  rw [List.take_succ_eq_append_getElem hl, List.take_succ_eq_append_getElem hm, h, he]
theorem same_end {α : Type} {l m : List α} {i : Nat} (hl : l.length ≤ i) (hm : m.length ≤ i) (h : l.take i = m.take i) : l = m := by
  rwa [List.take_of_length_le hl, List.take_of_length_le hm] at h
theorem all_step {α : Type} {l : List α} {p : α → Bool} {i : Nat} (hi : i < l.length) (h : (l.take i).all p = true) (h2 : p l[i] = true) : (l.take (i + 1)).all p = true := by
  rw [List.take_succ_eq_append_getElem hi, List.all_append, h, List.all_cons, h2]; rfl
theorem all_not {α : Type} {l : List α} {p : α → Bool} {i : Nat} (hi : i < l.length) (h2 : p l[i] = false) : l.all p = false := by
  rw [List.all_eq_false]; exact ⟨l[i], List.getElem_mem hi, by simp [h2]⟩
theorem all_end {α : Type} {l : List α} {p : α → Bool} {i : Nat} (hi : l.length ≤ i) (h : (l.take i).all p = true) : l.all p = true := by
  rwa [List.take_of_length_le hi] at h
/-- The marks of n things from k on, w to each. -/
def marks {α : Type} (w : Nat) (mk : Int → α) (n : Nat) (k : Int) : List α := (List.range n).map fun i => mk (k + (w * i : Nat))
theorem marks_length {α : Type} (w : Nat) (mk : Int → α) (n : Nat) (k : Int) : (marks w mk n k).length = n := by simp [marks]
theorem marks_succ {α : Type} (w : Nat) (mk : Int → α) (n : Nat) (k : Int) : marks w mk (n + 1) k = marks w mk n k ++ [mk (k + (w * n : Nat))] := by simp [marks, List.range_succ]
theorem marks_get {α : Type} (w : Nat) (mk : Int → α) {n i : Nat} (k : Int) (h : i < n) : (marks w mk n k)[i]? = some (mk (k + (w * i : Nat))) := by simp [marks, h]
theorem mark_get {α : Type} (f : α → List T) (w : Nat) (mk : Int → α) (l : List α) (k : Int) {i : Nat} (hi : i < l.length) : ((marks w mk i k).map f ++ (l.drop i).map f)[i]? = some (f l[i]) := by
  rw [List.getElem?_append_right (by simp [marks_length]), List.length_map, marks_length, Nat.sub_self, List.getElem?_map, List.getElem?_drop]
  simp [hi]
theorem mark_set {α : Type} (f : α → List T) (w : Nat) (mk : Int → α) (l : List α) (k : Int) {i : Nat} (hi : i < l.length) : ((marks w mk i k).map f ++ (l.drop i).map f).set i (f (mk (k + (w * i : Nat)))) = (marks w mk (i + 1) k).map f ++ (l.drop (i + 1)).map f := by
  rw [List.set_append_right _ _ (by simp [marks_length]), List.length_map, marks_length, Nat.sub_self, List.drop_eq_getElem_cons hi, List.map_cons, List.set_cons_zero, marks_succ, List.map_append, List.append_assoc]
  rfl
theorem mark_len {α : Type} (f : α → List T) (w : Nat) (mk : Int → α) (l : List α) (k : Int) {i : Nat} (hi : i ≤ l.length) : ((marks w mk i k).map f ++ (l.drop i).map f).length = l.length := by simp [marks_length]; omega
theorem mark_reget {α : Type} (f : α → List T) (w : Nat) (mk : Int → α) (l : List α) (k : Int) {i : Nat} (hi : i < l.length) (r : List T) : (((marks w mk i k).map f ++ (l.drop i).map f).set i r)[i]? = some r := by
  rw [List.getElem?_set_self (by rw [mark_len f w mk l k (by omega)]; exact hi)]
theorem mark_end {α : Type} (f : α → List T) (w : Nat) (mk : Int → α) (l : List α) (k : Int) : (marks w mk l.length k).map f ++ (l.drop l.length).map f = (marks w mk l.length k).map f := by simp
theorem marks_take {α β : Type} (f : α → β) (w : Nat) (mk : Int → α) (n : Nat) (k : Int) : ((marks w mk n k).map f).take n = (marks w mk n k).map f := by rw [List.take_of_length_le (by simp [marks_length])]
def mkB (k : Int) : Bool := k.tmod 3 == 0
theorem byte_neq (a b : UInt8) : binV .neq (.int .u8 a.toNat) (.int .u8 b.toNat) = some (.bool (!decide (a = b))) := by
  have : ((a.toNat : Int) = b.toNat) ↔ a = b := by rw [Int.ofNat_inj]; exact UInt8.toNat_inj
  rw [bI_neq]
  by_cases h : a = b
  · subst h; simp
  · have h2 : ¬ ((a.toNat : Int) = b.toNat) := fun e => h (this.1 e)
    simp [h, bne, h2]
def digs (n : Nat) (out : ByteArray) : ByteArray := if h : n = 0 then out else digs (n / 10) (⟨#[UInt8.ofNat (48 + n % 10)]⟩ ++ out)
termination_by n
decreasing_by omega
def mkS (k : Int) : ByteArray := if k ≤ 0 then ⟨#[109, 48]⟩ else ⟨#[109]⟩ ++ digs k.toNat ⟨#[]⟩
def mkI (k : Int) : Int := k
def mkU (k : Int) : UInt8 := UInt8.ofNat (k % 256).toNat
theorem mkU_wrap (k : Int) : IntKind.u8.wrap k = ((mkU k).toNat : Int) := by
  have h1 := Int.emod_nonneg k (show (256 : Int) ≠ 0 by decide)
  have h2 := Int.emod_lt_of_pos k (show (0 : Int) < 256 by decide)
  have h3 : (mkU k).toNat = (k % 256).toNat := by
    rw [mkU, UInt8.toNat_ofNat', Nat.mod_eq_of_lt (by omega)]
  rw [h3, IntKind.wrap_u8]
  omega
end Go.X

/- B -/
namespace Go.X
set_option maxRecDepth 100000
set_option maxHeartbeats 8000000
def x_l_eqByteS : FnX := ⟨26, [.tmp 4],
  .seq (.reg [⟨none, some 4, 4, .mv (.k (.one (.pv (.bool false))))⟩])
 (.seq (.seq (.reg [⟨none, some 6, 6, .mv (.t 0)⟩,
   ⟨none, some 7, 7, .len (.t 6)⟩,
   ⟨none, some 8, 8, .mv (.t 1)⟩,
   ⟨none, some 9, 9, .len (.t 8)⟩,
   ⟨none, some 10, 10, .bin .neq (.t 7) (.t 9)⟩])
 (.cond 10 (.seq (.reg [⟨none, some 4, 4, .mv (.k (.one (.pv (.bool false))))⟩])
 (.ret)) (.skip)))
 (.seq (.seq (.reg [⟨none, some 5, 5, .mv (.k (.one (.pv (.int .i64 0))))⟩])
 (.block 0 (.loop [0, 1, 5] (.seq (.seq (.reg [⟨none, some 11, 11, .mv (.t 5)⟩,
   ⟨none, some 12, 12, .mv (.t 0)⟩,
   ⟨none, some 13, 13, .len (.t 12)⟩,
   ⟨none, some 14, 14, .bin .lss (.t 11) (.t 13)⟩])
 (.cond 14 (.skip) (.exit 0)))
 (.seq (.block 1 (.seq (.draw [⟨none, some 17, 17, .mv (.t 0)⟩,
   ⟨none, some 18, 18, .mv (.t 5)⟩,
   ⟨none, some 19, 19, .iaddr 1 (.t 17) (.t 18)⟩,
   ⟨none, some 20, 20, .load none (.t 19)⟩,
   ⟨none, some 21, 21, .mv (.t 1)⟩,
   ⟨none, some 22, 22, .mv (.t 5)⟩,
   ⟨none, some 23, 23, .iaddr 1 (.t 21) (.t 22)⟩,
   ⟨none, some 24, 24, .load none (.t 23)⟩,
   ⟨none, some 25, 25, .bin .neq (.t 20) (.t 24)⟩] [[], [], [0, 1], [2], [], [], [4, 5], [6], [3, 7]])
 (.cond 25 (.seq (.reg [⟨none, some 4, 4, .mv (.k (.one (.pv (.bool false))))⟩])
 (.ret)) (.skip))))
 (.reg [⟨none, some 15, 15, .mv (.t 5)⟩,
   ⟨none, some 16, 16, .bin .add (.t 15) (.k (.one (.pv (.int .i64 1))))⟩,
   ⟨none, some 5, 5, .mv (.t 16)⟩]))))))
 (.norm [] (.seq (.reg [⟨none, some 4, 4, .mv (.k (.one (.pv (.bool true))))⟩])
 (.ret)))))⟩
abbrev C_l_eqByteS (Te : Nat → List AV → Res → Prop) : Prop := ∀ (l m : List UInt8) (hl : l.length ≤ 2 ^ 31), Te 15 [.one (slT false 1 uR l), .one (slT false 1 uR m)] ⟨[.one (bT (decide (l = m)))], [[slT false 1 uR l], [slT false 1 uR m]]⟩
theorem r_l_eqByteS {Te : Nat → List AV → Res → Prop} : ∀ (l m : List UInt8) (hl : l.length ≤ 2 ^ 31), RunFn Te x_l_eqByteS [.one (slT false 1 uR l), .one (slT false 1 uR m)] ⟨[.one (bT (decide (l = m)))], [[slT false 1 uR l], [slT false 1 uR m]]⟩ := by
  intro l m hl
  refine ⟨by simp -implicitDefEqProofs (maxSteps := 1000000) only [x_l_eqByteS, go_sem], ?_⟩
  simp -implicitDefEqProofs (maxSteps := 1000000) (disch := omega) only [x_l_eqByteS, go_sem, IntWalk.i64_in]
  refine ⟨fun h => ?_, fun h => ?_⟩
  · have : l ≠ m := fun e => by simp [e] at h
    simp [this]
  · have hlen : l.length = m.length := by simp at h; omega
    refine loop_of (σ := Nat) (fun i => ⟨[(0, .one (.ro 1 (l.map uR))), (1, .one (.ro 1 (m.map uR))), (5, .one (.pv (.int .i64 i)))], [], [(0, [slT false 1 uR l]), (1, [slT false 1 uR m])]⟩) (fun i => i ≤ l.length ∧ l.take i = m.take i) (fun i => l.length - i) 0 ?_ ⟨Nat.zero_le _, by simp⟩ ?_
    · simp -implicitDefEqProofs (maxSteps := 1000000) only [go_sem]; rfl
    · intro i ⟨hi, hs⟩
      simp -implicitDefEqProofs (maxSteps := 1000000) only [go_sem]
      refine ⟨fun h => ?_, fun h => ?_⟩
      · have hi' : i < l.length := by simp only [decide_eq_true_eq] at h; omega
        have hj' : i < m.length := by omega
        simp -implicitDefEqProofs (maxSteps := 1000000) only [go_sem, List.getElem?_eq_getElem hi', List.getElem?_eq_getElem hj', byte_neq]
        refine ⟨by decide, fun h2 => ?_, fun h2 => ?_⟩
        · have : l ≠ m := fun e => by subst e; simp at h2
          simp [this]
        · refine ⟨i + 1, by rw [IntWalk.i64_in _ (by omega)]; rfl, ⟨hi', same_step hi' hj' hs ?_⟩, by omega⟩
          simpa using h2
      · have hle : l.length ≤ i := by simp only [decide_eq_false_iff_not] at h; omega
        have : l = m := same_end hle (by omega) hs
        simp [this]
def x_l_markByteS : FnX := ⟨20, [.tmp 4],
  .seq (.reg [⟨none, some 4, 4, .mv (.k (.one (.pv (.int .i64 0))))⟩])
 (.seq (.seq (.reg [⟨none, some 5, 5, .mv (.k (.one (.pv (.int .i64 0))))⟩])
 (.block 0 (.loop [0, 1, 5] (.seq (.seq (.reg [⟨none, some 6, 6, .mv (.t 5)⟩,
   ⟨none, some 7, 7, .mv (.t 0)⟩,
   ⟨none, some 8, 8, .len (.t 7)⟩,
   ⟨none, some 9, 9, .bin .lss (.t 6) (.t 8)⟩])
 (.cond 9 (.skip) (.exit 0)))
 (.seq (.block 1 (.seq (.reg [⟨none, some 12, 12, .mv (.t 0)⟩,
   ⟨none, some 13, 13, .mv (.t 5)⟩,
   ⟨none, some 14, 14, .mv (.t 1)⟩,
   ⟨none, some 15, 15, .conv (.int .u8) (.t 14)⟩,
   ⟨none, some 16, 16, .iaddr 1 (.t 12) (.t 13)⟩,
   ⟨none, none, 100001, .store 1 (.t 16) (.t 15)⟩])
 (.reg [⟨none, some 17, 17, .mv (.t 1)⟩,
   ⟨none, some 18, 18, .bin .add (.t 17) (.k (.one (.pv (.int .i64 1))))⟩,
   ⟨none, some 1, 1, .mv (.t 18)⟩])))
 (.reg [⟨none, some 10, 10, .mv (.t 5)⟩,
   ⟨none, some 11, 11, .bin .add (.t 10) (.k (.one (.pv (.int .i64 1))))⟩,
   ⟨none, some 5, 5, .mv (.t 11)⟩]))))))
 (.norm [1] (.seq (.reg [⟨none, some 19, 19, .mv (.t 1)⟩,
   ⟨none, some 4, 4, .mv (.t 19)⟩])
 (.ret))))⟩
abbrev C_l_markByteS (Te : Nat → List AV → Res → Prop) : Prop := ∀ (l : List UInt8) (k : Int) (hl : l.length ≤ 2 ^ 31) (hk : 0 ≤ k ∧ k ≤ 2 ^ 46), Te 16 [.one (slT true 1 uR l), .one (iT k)] ⟨[.one (iT (k + (1 * l.length : Nat)))], [[slT true 1 uR (marks 1 mkU l.length k)], [iT k]]⟩
theorem r_l_markByteS {Te : Nat → List AV → Res → Prop} : ∀ (l : List UInt8) (k : Int) (hl : l.length ≤ 2 ^ 31) (hk : 0 ≤ k ∧ k ≤ 2 ^ 46), RunFn Te x_l_markByteS [.one (slT true 1 uR l), .one (iT k)] ⟨[.one (iT (k + (1 * l.length : Nat)))], [[slT true 1 uR (marks 1 mkU l.length k)], [iT k]]⟩ := by
  intro l k hl hk
  refine ⟨by simp -implicitDefEqProofs (maxSteps := 1000000) only [x_l_markByteS, go_sem], ?_⟩
  simp -implicitDefEqProofs (maxSteps := 1000000) (disch := omega) only [x_l_markByteS, go_sem, IntWalk.i64_in]
  refine loop_of (σ := Nat) (fun i => ⟨[(0, .one (.rf 0 0 [] 1 0 l.length)), (1, .one (.pv (.int .i64 (k + (1 * i : Nat))))), (5, .one (.pv (.int .i64 i)))], [], [(0, [.sl true 1 () ((marks 1 mkU i k).map uR ++ (l.drop i).map uR)]), (1, [iT k])]⟩) (fun i => i ≤ l.length) (fun i => l.length - i) 0 ?_ (Nat.zero_le _) ?_
  · simp -implicitDefEqProofs (maxSteps := 1000000) only [go_sem]; simp [marks]
  · intro i hi
    simp -implicitDefEqProofs (maxSteps := 1000000) only [go_sem]
    refine ⟨fun h => ?_, fun h => ?_⟩
    · have hi' : i < l.length := by simp only [decide_eq_true_eq] at h; omega
      try simp -implicitDefEqProofs (maxSteps := 1000000) (disch := omega) only [go_sem, storeAp, setCells, List.length_set, List.set_set, mark_len uR 1 mkU l k hi, List.getD_eq_getElem?_getD, mark_get uR 1 mkU l k hi', mark_reget uR 1 mkU l k hi', Option.getD_some, IntWalk.i64_in, mkU_wrap]
      repeat (first | refine ⟨by decide, ?_⟩ | refine ⟨decide_eq_true hi', ?_⟩)
      refine ⟨i + 1, ?_, hi', by omega⟩
      rw [← mark_set uR 1 mkU l k hi', show k + ((1 * (i + 1) : Nat) : Int) = k + (1 * i : Nat) + 1 by omega]
      rfl
    · have : i = l.length := by simp only [decide_eq_false_iff_not] at h; omega
      subst this
      simp -implicitDefEqProofs (maxSteps := 1000000) only [go_sem, mark_end]
def x_l_heldByteS : FnX := ⟨22, [.tmp 4],
  .seq (.reg [⟨none, some 4, 4, .mv (.k (.one (.pv (.int .i64 0))))⟩])
 (.seq (.seq (.reg [⟨none, some 5, 5, .mv (.k (.one (.pv (.int .i64 0))))⟩])
 (.block 0 (.loop [0, 1, 5] (.seq (.seq (.reg [⟨none, some 6, 6, .mv (.t 5)⟩,
   ⟨none, some 7, 7, .mv (.t 0)⟩,
   ⟨none, some 8, 8, .len (.t 7)⟩,
   ⟨none, some 9, 9, .bin .lss (.t 6) (.t 8)⟩])
 (.cond 9 (.skip) (.exit 0)))
 (.seq (.block 1 (.seq (.seq (.reg [⟨none, some 12, 12, .mv (.t 0)⟩,
   ⟨none, some 13, 13, .mv (.t 5)⟩,
   ⟨none, some 14, 14, .iaddr 1 (.t 12) (.t 13)⟩,
   ⟨none, some 15, 15, .load none (.t 14)⟩,
   ⟨none, some 16, 16, .mv (.t 1)⟩,
   ⟨none, some 17, 17, .conv (.int .u8) (.t 16)⟩,
   ⟨none, some 18, 18, .bin .neq (.t 15) (.t 17)⟩])
 (.cond 18 (.seq (.reg [⟨none, some 4, 4, .mv (.k (.one (.pv (.int .i64 (-1)))))⟩])
 (.ret)) (.skip)))
 (.reg [⟨none, some 19, 19, .mv (.t 1)⟩,
   ⟨none, some 20, 20, .bin .add (.t 19) (.k (.one (.pv (.int .i64 1))))⟩,
   ⟨none, some 1, 1, .mv (.t 20)⟩])))
 (.reg [⟨none, some 10, 10, .mv (.t 5)⟩,
   ⟨none, some 11, 11, .bin .add (.t 10) (.k (.one (.pv (.int .i64 1))))⟩,
   ⟨none, some 5, 5, .mv (.t 11)⟩]))))))
 (.norm [1] (.seq (.reg [⟨none, some 21, 21, .mv (.t 1)⟩,
   ⟨none, some 4, 4, .mv (.t 21)⟩])
 (.ret))))⟩
abbrev C_l_heldByteS (Te : Nat → List AV → Res → Prop) : Prop := ∀ (n : Nat) (k : Int) (hl : n ≤ 2 ^ 31) (hk : 0 ≤ k ∧ k ≤ 2 ^ 46), Te 17 [.one (slT false 1 uR (marks 1 mkU n k)), .one (iT k)] ⟨[.one (iT (k + (1 * n : Nat)))], [[slT false 1 uR (marks 1 mkU n k)], [iT k]]⟩
theorem r_l_heldByteS {Te : Nat → List AV → Res → Prop} : ∀ (n : Nat) (k : Int) (hl : n ≤ 2 ^ 31) (hk : 0 ≤ k ∧ k ≤ 2 ^ 46), RunFn Te x_l_heldByteS [.one (slT false 1 uR (marks 1 mkU n k)), .one (iT k)] ⟨[.one (iT (k + (1 * n : Nat)))], [[slT false 1 uR (marks 1 mkU n k)], [iT k]]⟩ := by
  intro n k hl hk
  refine ⟨by simp -implicitDefEqProofs (maxSteps := 1000000) only [x_l_heldByteS, go_sem], ?_⟩
  simp -implicitDefEqProofs (maxSteps := 1000000) (disch := omega) only [x_l_heldByteS, go_sem, IntWalk.i64_in]
  refine loop_of (σ := Nat) (fun i => ⟨[(0, .one (.ro 1 ((marks 1 mkU n k).map uR))), (1, .one (.pv (.int .i64 (k + (1 * i : Nat))))), (5, .one (.pv (.int .i64 i)))], [], [(0, [slT false 1 uR (marks 1 mkU n k)]), (1, [iT k])]⟩) (fun i => i ≤ n) (fun i => n - i) 0 ?_ (Nat.zero_le _) ?_
  · simp -implicitDefEqProofs (maxSteps := 1000000) only [go_sem]; simp
  · intro i hi
    simp -implicitDefEqProofs (maxSteps := 1000000) only [go_sem, marks_length]
    refine ⟨fun h => ?_, fun h => ?_⟩
    · have hi' : i < n := by simp only [decide_eq_true_eq] at h; omega
      try simp -implicitDefEqProofs (maxSteps := 1000000) (disch := omega) only [go_sem, marks_get 1 mkU k hi', IntWalk.i64_in, mkU_wrap, bne_self_eq_false, decide_true, Bool.not_true]
      refine ⟨i + 1, ?_, hi', by omega⟩
      rw [show k + ((1 * (i + 1) : Nat) : Int) = k + (1 * i : Nat) + 1 by omega]
      rfl
    · have : i = n := by simp only [decide_eq_false_iff_not] at h; omega
      subst this
      simp -implicitDefEqProofs (maxSteps := 1000000) only [go_sem]
end Go.X

/- C -/
namespace Go.X
set_option maxRecDepth 100000
set_option maxHeartbeats 8000000
structure Msg where
  Kind : Int
  From : Int
  To : Int
  Seq : Int
  Key : ByteArray
  Text : ByteArray
  N : Int
  Code : Int
  deriving DecidableEq
abbrev Msg.row (x : Msg) : List T := [iT x.Kind, iT x.From, iT x.To, iT x.Seq, sT x.Key, sT x.Text, iT x.N, iT x.Code]
def Msg.In (n : Nat) (x : Msg) : Prop := x.Key.size ≤ n ∧ x.Text.size ≤ n
theorem Msg.In.mono {x : Msg} {n m : Nat} (h : x.In n) (hn : n ≤ m) : x.In m := by
  simp only [Msg.In] at h ⊢
  exact ⟨Nat.le_trans h.1 hn, Nat.le_trans h.2 hn⟩
def szMsg (x : Msg) (k : Int) : Int := szAll [(fun k => k - (x.Key.size : Nat)), (fun k => k - (x.Text.size : Nat))] k
theorem szMsg_sane (x : Msg) : Sane (szMsg x) := Sane.all (.cons (Sane.sub _) (.cons (Sane.sub _) .nil))
theorem szMsg_in {x : Msg} {k : Int} {n : Nat} (hk : 0 ≤ k) (hn : k ≤ n) (h : 0 ≤ szMsg x k) : x.In n := by
  obtain ⟨⟨j0, a0, b0, c0⟩, ⟨j1, a1, b1, c1⟩, _⟩ := szAll_ex (.cons (Sane.sub _) (.cons (Sane.sub _) .nil)) hk hn h
  exact ⟨(by have q : (0 : Int) ≤ j0 - _ := c0; omega), (by have q : (0 : Int) ≤ j1 - _ := c1; omega)⟩
def mkMsg (k : Int) : Msg := ⟨k, k + 1, k + 1 + 1, k + 1 + 1 + 1, mkS (k + 1 + 1 + 1 + 1), mkS (k + 1 + 1 + 1 + 1 + 1), k + 1 + 1 + 1 + 1 + 1 + 1, k + 1 + 1 + 1 + 1 + 1 + 1 + 1⟩
def x_l_szMsg : FnX := ⟨20, [.tmp 4],
  .seq (.reg [⟨none, some 2, 2, .box (.t 0)⟩,
   ⟨none, some 4, 4, .mv (.k (.one (.pv (.int .i64 0))))⟩])
 (.seq (.reg [⟨none, some 5, 5, .mv (.t 1)⟩,
   ⟨none, some 6, 6, .faddr (.t 2) 4⟩,
   ⟨none, some 7, 7, .load none (.t 6)⟩,
   ⟨none, some 8, 8, .slen (.t 7)⟩,
   ⟨none, some 9, 9, .bin .sub (.t 5) (.t 8)⟩,
   ⟨none, some 1, 1, .mv (.t 9)⟩])
 (.seq (.seq (.reg [⟨none, some 10, 10, .mv (.t 1)⟩,
   ⟨none, some 11, 11, .bin .lss (.t 10) (.k (.one (.pv (.int .i64 0))))⟩])
 (.cond 11 (.seq (.reg [⟨none, some 4, 4, .mv (.k (.one (.pv (.int .i64 (-1)))))⟩])
 (.ret)) (.skip)))
 (.seq (.reg [⟨none, some 12, 12, .mv (.t 1)⟩,
   ⟨none, some 13, 13, .faddr (.t 2) 5⟩,
   ⟨none, some 14, 14, .load none (.t 13)⟩,
   ⟨none, some 15, 15, .slen (.t 14)⟩,
   ⟨none, some 16, 16, .bin .sub (.t 12) (.t 15)⟩,
   ⟨none, some 1, 1, .mv (.t 16)⟩])
 (.seq (.seq (.reg [⟨none, some 17, 17, .mv (.t 1)⟩,
   ⟨none, some 18, 18, .bin .lss (.t 17) (.k (.one (.pv (.int .i64 0))))⟩])
 (.cond 18 (.seq (.reg [⟨none, some 4, 4, .mv (.k (.one (.pv (.int .i64 (-1)))))⟩])
 (.ret)) (.skip)))
 (.seq (.reg [⟨none, some 19, 19, .mv (.t 1)⟩,
   ⟨none, some 4, 4, .mv (.t 19)⟩])
 (.ret))))))⟩
abbrev C_l_szMsg (Te : Nat → List AV → Res → Prop) : Prop := ∀ (x : Msg) (k : Int) (hx : x.In (2 ^ 48)) (hk : 0 ≤ k ∧ k ≤ 2 ^ 48), Te 11 [.agg x.row, .one (iT k)] ⟨[.one (iT (szMsg x k))], [x.row, [iT k]]⟩
theorem r_l_szMsg {Te : Nat → List AV → Res → Prop} : ∀ (x : Msg) (k : Int) (hx : x.In (2 ^ 48)) (hk : 0 ≤ k ∧ k ≤ 2 ^ 48), RunFn Te x_l_szMsg [.agg x.row, .one (iT k)] ⟨[.one (iT (szMsg x k))], [x.row, [iT k]]⟩ := by
  intro x k hx hk
  refine ⟨by simp -implicitDefEqProofs (maxSteps := 1000000) only [x_l_szMsg, go_sem], ?_⟩
  obtain ⟨h0, h1⟩ := hx
  simp -implicitDefEqProofs (maxSteps := 1000000) (disch := omega) only [x_l_szMsg, go_sem, IntWalk.i64_in]
  refine ⟨fun q0 => ?_, fun q0 => ?_⟩
  · simp only [decide_eq_true_eq] at q0
    simp only [szMsg, szAll, if_pos q0]
  · simp only [decide_eq_false_iff_not] at q0
    have k1 : 0 ≤ (k - (x.Key.size : Nat)) ∧ (k - (x.Key.size : Nat)) ≤ 2 ^ 48 := ⟨by omega, Int.le_trans (Sane.sub _ _ hk.1) hk.2⟩
    try simp -implicitDefEqProofs (maxSteps := 1000000) (disch := omega) only [go_sem, IntWalk.i64_in]
    refine ⟨fun q1 => ?_, fun q1 => ?_⟩
    · simp only [decide_eq_true_eq] at q1
      simp only [szMsg, szAll, if_neg q0, if_pos q1]
    · simp only [decide_eq_false_iff_not] at q1
      have k2 : 0 ≤ ((k - (x.Key.size : Nat)) - (x.Text.size : Nat)) ∧ ((k - (x.Key.size : Nat)) - (x.Text.size : Nat)) ≤ 2 ^ 48 := ⟨by omega, Int.le_trans (Sane.sub _ _ k1.1) k1.2⟩
      simp only [szMsg, szAll, if_neg q0, if_neg q1]
def x_l_toMsg_5 : XCode := .seq (.reg [⟨none, some 28, 28, .load (some 8) (.t 3)⟩,
   ⟨none, none, 100009, .store 8 (.t 2) (.t 28)⟩])
 (.ret)
def x_l_toMsg_4 : XCode := .seq (.reg [⟨none, some 22, 22, .faddr (.t 1) 6⟩,
   ⟨none, some 23, 23, .load none (.t 22)⟩,
   ⟨none, some 24, 24, .faddr (.t 3) 6⟩,
   ⟨none, none, 100007, .store 1 (.t 24) (.t 23)⟩])
 (.seq (.reg [⟨none, some 25, 25, .faddr (.t 1) 7⟩,
   ⟨none, some 26, 26, .load none (.t 25)⟩,
   ⟨none, some 27, 27, .faddr (.t 3) 7⟩,
   ⟨none, none, 100008, .store 1 (.t 27) (.t 26)⟩])
 (x_l_toMsg_5))
def x_l_toMsg_3 : XCode := .seq (.reg [⟨none, some 16, 16, .faddr (.t 1) 4⟩,
   ⟨none, some 17, 17, .load none (.t 16)⟩,
   ⟨none, some 18, 18, .faddr (.t 3) 4⟩,
   ⟨none, none, 100005, .store 1 (.t 18) (.t 17)⟩])
 (.seq (.reg [⟨none, some 19, 19, .faddr (.t 1) 5⟩,
   ⟨none, some 20, 20, .load none (.t 19)⟩,
   ⟨none, some 21, 21, .faddr (.t 3) 5⟩,
   ⟨none, none, 100006, .store 1 (.t 21) (.t 20)⟩])
 (x_l_toMsg_4))
def x_l_toMsg_2 : XCode := .seq (.reg [⟨none, some 10, 10, .faddr (.t 1) 2⟩,
   ⟨none, some 11, 11, .load none (.t 10)⟩,
   ⟨none, some 12, 12, .faddr (.t 3) 2⟩,
   ⟨none, none, 100003, .store 1 (.t 12) (.t 11)⟩])
 (.seq (.reg [⟨none, some 13, 13, .faddr (.t 1) 3⟩,
   ⟨none, some 14, 14, .load none (.t 13)⟩,
   ⟨none, some 15, 15, .faddr (.t 3) 3⟩,
   ⟨none, none, 100004, .store 1 (.t 15) (.t 14)⟩])
 (x_l_toMsg_3))
def x_l_toMsg_1 : XCode := .seq (.reg [⟨none, some 4, 4, .faddr (.t 1) 0⟩,
   ⟨none, some 5, 5, .load none (.t 4)⟩,
   ⟨none, some 6, 6, .faddr (.t 3) 0⟩,
   ⟨none, none, 100001, .store 1 (.t 6) (.t 5)⟩])
 (.seq (.reg [⟨none, some 7, 7, .faddr (.t 1) 1⟩,
   ⟨none, some 8, 8, .load none (.t 7)⟩,
   ⟨none, some 9, 9, .faddr (.t 3) 1⟩,
   ⟨none, none, 100002, .store 1 (.t 9) (.t 8)⟩])
 (x_l_toMsg_2))
def x_l_toMsg : FnX := ⟨29, [.cell 2 (some 8)],
  .seq (.reg [⟨none, some 1, 1, .box (.t 0)⟩,
   ⟨none, some 2, 2, .alloc [.pv (.int .i64 0), .pv (.int .i64 0), .pv (.int .i64 0), .pv (.int .i64 0), .pv (.string ⟨#[]⟩), .pv (.string ⟨#[]⟩), .pv (.int .i64 0), .pv (.int .i64 0)]⟩])
 (.seq (.reg [⟨none, some 3, 3, .alloc [.pv (.int .i64 0), .pv (.int .i64 0), .pv (.int .i64 0), .pv (.int .i64 0), .pv (.string ⟨#[]⟩), .pv (.string ⟨#[]⟩), .pv (.int .i64 0), .pv (.int .i64 0)]⟩])
 (x_l_toMsg_1))⟩
abbrev C_l_toMsg (Te : Nat → List AV → Res → Prop) : Prop := ∀ (x : Msg), Te 13 [.agg x.row] ⟨[.agg x.row], [x.row]⟩
theorem r_l_toMsg {Te : Nat → List AV → Res → Prop} : ∀ (x : Msg), RunFn Te x_l_toMsg [.agg x.row] ⟨[.agg x.row], [x.row]⟩ := by
  intro x
  refine ⟨by simp -implicitDefEqProofs (maxSteps := 1000000) only [x_l_toMsg, go_sem], ?_⟩
  simp -implicitDefEqProofs (maxSteps := 1000000) only [x_l_toMsg, go_sem]
  simp -implicitDefEqProofs (maxSteps := 1000000) only [x_l_toMsg_1, go_sem]
  simp -implicitDefEqProofs (maxSteps := 1000000) only [x_l_toMsg_2, go_sem]
  simp -implicitDefEqProofs (maxSteps := 1000000) only [x_l_toMsg_3, go_sem]
  simp -implicitDefEqProofs (maxSteps := 1000000) only [x_l_toMsg_4, go_sem]
  simp -implicitDefEqProofs (maxSteps := 1000000) only [x_l_toMsg_5, go_sem]
end Go.X

/- F -/
namespace Go.X
set_option maxRecDepth 100000
set_option maxHeartbeats 8000000
/-- n lies between. -/
def win (n a b : Int) : Bool := decide (n ≥ a) && decide (n ≤ b)
def x_i_within : FnX := ⟨15, [.tmp 6],
  .seq (.reg [⟨none, some 6, 6, .mv (.k (.one (.pv (.bool false))))⟩])
 (.seq (.reg [⟨none, some 7, 7, .mv (.t 0)⟩,
   ⟨none, some 8, 8, .mv (.t 1)⟩,
   ⟨none, some 9, 9, .bin .geq (.t 7) (.t 8)⟩,
   ⟨none, some 10, 10, .mv (.t 9)⟩,
   ⟨(some (10, true)), some 11, 11, .mv (.t 0)⟩,
   ⟨(some (10, true)), some 12, 12, .mv (.t 2)⟩,
   ⟨(some (10, true)), some 13, 13, .bin .leq (.t 11) (.t 12)⟩,
   ⟨none, some 14, 14, .pick (.t 10) (.t 13) (.k (.one (.pv (.bool false))))⟩,
   ⟨none, some 6, 6, .mv (.t 14)⟩])
 (.ret))⟩
abbrev C_i_within (Te : Nat → List AV → Res → Prop) : Prop := ∀ (n a b : Int), Te 77 [.one (iT n), .one (iT a), .one (iT b)] ⟨[.one (bT (win n a b))], [[iT n], [iT a], [iT b]]⟩
theorem r_i_within {Te : Nat → List AV → Res → Prop} : ∀ (n a b : Int), RunFn Te x_i_within [.one (iT n), .one (iT a), .one (iT b)] ⟨[.one (bT (win n a b))], [[iT n], [iT a], [iT b]]⟩ := by
  intro n a b
  refine ⟨by simp -implicitDefEqProofs (maxSteps := 1000000) only [x_i_within, go_sem], ?_⟩
  simp -implicitDefEqProofs (maxSteps := 1000000) only [x_i_within, go_sem]
  refine bif_cases (fun h => ?_) (fun h => ?_) <;> simp -implicitDefEqProofs (maxSteps := 1000000) only [h, go_sem, win]
def x_s_l1In : FnX := ⟨15, [.tmp 6],
  .seq (.reg [⟨none, some 6, 6, .mv (.k (.one (.pv (.bool false))))⟩])
 (.seq (.reg [⟨none, some 7, 7, .mv (.t 0)⟩,
   ⟨none, some 8, 8, .mv (.t 1)⟩,
   ⟨none, some 9, 9, .bin .geq (.t 7) (.t 8)⟩,
   ⟨none, some 10, 10, .mv (.t 9)⟩,
   ⟨(some (10, true)), some 11, 11, .mv (.t 0)⟩,
   ⟨(some (10, true)), some 12, 12, .mv (.t 2)⟩,
   ⟨(some (10, true)), some 13, 13, .bin .leq (.t 11) (.t 12)⟩,
   ⟨none, some 14, 14, .pick (.t 10) (.t 13) (.k (.one (.pv (.bool false))))⟩,
   ⟨none, some 6, 6, .mv (.t 14)⟩])
 (.ret))⟩
abbrev C_s_l1In (Te : Nat → List AV → Res → Prop) : Prop := ∀ (n a b : Int), Te 79 [.one (iT n), .one (iT a), .one (iT b)] ⟨[.one (bT (win n a b))], [[iT n], [iT a], [iT b]]⟩
theorem r_s_l1In {Te : Nat → List AV → Res → Prop} : ∀ (n a b : Int), RunFn Te x_s_l1In [.one (iT n), .one (iT a), .one (iT b)] ⟨[.one (bT (win n a b))], [[iT n], [iT a], [iT b]]⟩ := by
  intro n a b
  refine ⟨by simp -implicitDefEqProofs (maxSteps := 1000000) only [x_s_l1In, go_sem], ?_⟩
  simp -implicitDefEqProofs (maxSteps := 1000000) only [x_s_l1In, go_sem]
  refine bif_cases (fun h => ?_) (fun h => ?_) <;> simp -implicitDefEqProofs (maxSteps := 1000000) only [h, go_sem, win]
def x_i_isWord : FnX := ⟨5, [.tmp 2],
  .seq (.reg [⟨none, some 2, 2, .mv (.k (.one (.pv (.bool false))))⟩])
 (.seq (.reg [⟨none, some 3, 3, .mv (.t 0)⟩,
   ⟨none, some 4, 4, .call 77 [0, 0, 0] [(.t 3), (.k (.one (.pv (.int .i64 0)))), (.k (.one (.pv (.int .i64 65535))))]⟩,
   ⟨none, some 2, 2, .mv (.t 4)⟩])
 (.ret))⟩
abbrev C_i_isWord (Te : Nat → List AV → Res → Prop) : Prop := ∀ (n : Int), Te 78 [.one (iT n)] ⟨[.one (bT (win n 0 65535))], [[iT n]]⟩
theorem r_i_isWord {Te : Nat → List AV → Res → Prop} (c_i_within : C_i_within Te) : ∀ (n : Int), RunFn Te x_i_isWord [.one (iT n)] ⟨[.one (bT (win n 0 65535))], [[iT n]]⟩ := by
  intro n
  refine ⟨by simp -implicitDefEqProofs (maxSteps := 1000000) only [x_i_isWord, go_sem], ?_⟩
  simp -implicitDefEqProofs (maxSteps := 1000000) only [x_i_isWord, go_sem]
  refine .of (c_i_within _ _ _) ?_
  simp -implicitDefEqProofs (maxSteps := 1000000) only [go_sem]
def x_s_l1Word : FnX := ⟨5, [.tmp 2],
  .seq (.reg [⟨none, some 2, 2, .mv (.k (.one (.pv (.bool false))))⟩])
 (.seq (.reg [⟨none, some 3, 3, .mv (.t 0)⟩,
   ⟨none, some 4, 4, .call 79 [0, 0, 0] [(.t 3), (.k (.one (.pv (.int .i64 0)))), (.k (.one (.pv (.int .i64 65535))))]⟩,
   ⟨none, some 2, 2, .mv (.t 4)⟩])
 (.ret))⟩
abbrev C_s_l1Word (Te : Nat → List AV → Res → Prop) : Prop := ∀ (n : Int), Te 80 [.one (iT n)] ⟨[.one (bT (win n 0 65535))], [[iT n]]⟩
theorem r_s_l1Word {Te : Nat → List AV → Res → Prop} (c_s_l1In : C_s_l1In Te) : ∀ (n : Int), RunFn Te x_s_l1Word [.one (iT n)] ⟨[.one (bT (win n 0 65535))], [[iT n]]⟩ := by
  intro n
  refine ⟨by simp -implicitDefEqProofs (maxSteps := 1000000) only [x_s_l1Word, go_sem], ?_⟩
  simp -implicitDefEqProofs (maxSteps := 1000000) only [x_s_l1Word, go_sem]
  refine .of (c_s_l1In _ _ _) ?_
  simp -implicitDefEqProofs (maxSteps := 1000000) only [go_sem]
def Msg.ok (m : Msg) : Bool := win m.Kind 1 9 && win m.From 0 4 && win m.To 0 4 && (m.From != m.To) && win m.Seq 0 65535 && decide ((m.Key.size : Int) ≤ 60) && decide ((m.Text.size : Int) ≤ 60) && win m.N 0 255 && win m.Code 0 6
def x_i_MsgOk : FnX := ⟨50, [.tmp 2],
  .seq (.reg [⟨none, some 1, 1, .box (.t 0)⟩,
   ⟨none, some 2, 2, .mv (.k (.one (.pv (.bool false))))⟩])
 (.seq (.reg [⟨none, some 3, 3, .faddr (.t 1) 0⟩,
   ⟨none, some 4, 4, .load none (.t 3)⟩,
   ⟨none, some 5, 5, .call 77 [0, 0, 0] [(.t 4), (.k (.one (.pv (.int .i64 1)))), (.k (.one (.pv (.int .i64 9))))]⟩,
   ⟨none, some 6, 6, .mv (.t 5)⟩,
   ⟨(some (6, true)), some 7, 7, .faddr (.t 1) 1⟩,
   ⟨(some (6, true)), some 8, 8, .load none (.t 7)⟩,
   ⟨(some (6, true)), some 9, 9, .call 77 [0, 0, 0] [(.t 8), (.k (.one (.pv (.int .i64 0)))), (.k (.one (.pv (.int .i64 4))))]⟩,
   ⟨none, some 10, 10, .pick (.t 6) (.t 9) (.k (.one (.pv (.bool false))))⟩,
   ⟨none, some 11, 11, .mv (.t 10)⟩,
   ⟨(some (11, true)), some 12, 12, .faddr (.t 1) 2⟩,
   ⟨(some (11, true)), some 13, 13, .load none (.t 12)⟩,
   ⟨(some (11, true)), some 14, 14, .call 77 [0, 0, 0] [(.t 13), (.k (.one (.pv (.int .i64 0)))), (.k (.one (.pv (.int .i64 4))))]⟩,
   ⟨none, some 15, 15, .pick (.t 11) (.t 14) (.k (.one (.pv (.bool false))))⟩,
   ⟨none, some 16, 16, .mv (.t 15)⟩,
   ⟨(some (16, true)), some 17, 17, .faddr (.t 1) 1⟩,
   ⟨(some (16, true)), some 18, 18, .load none (.t 17)⟩,
   ⟨(some (16, true)), some 19, 19, .faddr (.t 1) 2⟩,
   ⟨(some (16, true)), some 20, 20, .load none (.t 19)⟩,
   ⟨(some (16, true)), some 21, 21, .bin .neq (.t 18) (.t 20)⟩,
   ⟨none, some 22, 22, .pick (.t 16) (.t 21) (.k (.one (.pv (.bool false))))⟩,
   ⟨none, some 23, 23, .mv (.t 22)⟩,
   ⟨(some (23, true)), some 24, 24, .faddr (.t 1) 3⟩,
   ⟨(some (23, true)), some 25, 25, .load none (.t 24)⟩,
   ⟨(some (23, true)), some 26, 26, .call 78 [0] [(.t 25)]⟩,
   ⟨none, some 27, 27, .pick (.t 23) (.t 26) (.k (.one (.pv (.bool false))))⟩,
   ⟨none, some 28, 28, .mv (.t 27)⟩,
   ⟨(some (28, true)), some 29, 29, .faddr (.t 1) 4⟩,
   ⟨(some (28, true)), some 30, 30, .load none (.t 29)⟩,
   ⟨(some (28, true)), some 31, 31, .slen (.t 30)⟩,
   ⟨(some (28, true)), some 32, 32, .bin .leq (.t 31) (.k (.one (.pv (.int .i64 60))))⟩,
   ⟨none, some 33, 33, .pick (.t 28) (.t 32) (.k (.one (.pv (.bool false))))⟩,
   ⟨none, some 34, 34, .mv (.t 33)⟩,
   ⟨(some (34, true)), some 35, 35, .faddr (.t 1) 5⟩,
   ⟨(some (34, true)), some 36, 36, .load none (.t 35)⟩,
   ⟨(some (34, true)), some 37, 37, .slen (.t 36)⟩,
   ⟨(some (34, true)), some 38, 38, .bin .leq (.t 37) (.k (.one (.pv (.int .i64 60))))⟩,
   ⟨none, some 39, 39, .pick (.t 34) (.t 38) (.k (.one (.pv (.bool false))))⟩,
   ⟨none, some 40, 40, .mv (.t 39)⟩,
   ⟨(some (40, true)), some 41, 41, .faddr (.t 1) 6⟩,
   ⟨(some (40, true)), some 42, 42, .load none (.t 41)⟩,
   ⟨(some (40, true)), some 43, 43, .call 77 [0, 0, 0] [(.t 42), (.k (.one (.pv (.int .i64 0)))), (.k (.one (.pv (.int .i64 255))))]⟩,
   ⟨none, some 44, 44, .pick (.t 40) (.t 43) (.k (.one (.pv (.bool false))))⟩,
   ⟨none, some 45, 45, .mv (.t 44)⟩,
   ⟨(some (45, true)), some 46, 46, .faddr (.t 1) 7⟩,
   ⟨(some (45, true)), some 47, 47, .load none (.t 46)⟩,
   ⟨(some (45, true)), some 48, 48, .call 77 [0, 0, 0] [(.t 47), (.k (.one (.pv (.int .i64 0)))), (.k (.one (.pv (.int .i64 6))))]⟩,
   ⟨none, some 49, 49, .pick (.t 45) (.t 48) (.k (.one (.pv (.bool false))))⟩,
   ⟨none, some 2, 2, .mv (.t 49)⟩])
 (.ret))⟩
abbrev C_i_MsgOk (Te : Nat → List AV → Res → Prop) : Prop := ∀ (m : Msg), Te 49 [.agg m.row] ⟨[.one (bT m.ok)], [m.row]⟩
theorem r_i_MsgOk {Te : Nat → List AV → Res → Prop} (c_i_within : C_i_within Te) (c_i_isWord : C_i_isWord Te) : ∀ (m : Msg), RunFn Te x_i_MsgOk [.agg m.row] ⟨[.one (bT m.ok)], [m.row]⟩ := by
  intro m
  refine ⟨by simp -implicitDefEqProofs (maxSteps := 1000000) only [x_i_MsgOk, go_sem], ?_⟩
  simp -implicitDefEqProofs (maxSteps := 1000000) only [x_i_MsgOk, go_sem, Msg.ok]
  refine .of (c_i_within _ _ _) ?_
  simp -implicitDefEqProofs (maxSteps := 1000000) only [go_sem]
  refine bif_cases (fun h1 => ?_) (fun h1 => ?_) <;> simp -implicitDefEqProofs (maxSteps := 1000000) only [h1, go_sem]
  refine .of (c_i_within _ _ _) ?_
  simp -implicitDefEqProofs (maxSteps := 1000000) only [go_sem]
  refine bif_cases (fun h2 => ?_) (fun h2 => ?_) <;> simp -implicitDefEqProofs (maxSteps := 1000000) only [h2, go_sem]
  refine .of (c_i_within _ _ _) ?_
  simp -implicitDefEqProofs (maxSteps := 1000000) only [go_sem]
  refine bif_cases (fun h3 => ?_) (fun h3 => ?_) <;> simp -implicitDefEqProofs (maxSteps := 1000000) only [h3, go_sem]
  refine bif_cases (fun h4 => ?_) (fun h4 => ?_) <;> simp -implicitDefEqProofs (maxSteps := 1000000) only [h4, go_sem]
  refine .of (c_i_isWord _) ?_
  simp -implicitDefEqProofs (maxSteps := 1000000) only [go_sem]
  refine bif_cases (fun h5 => ?_) (fun h5 => ?_) <;> simp -implicitDefEqProofs (maxSteps := 1000000) only [h5, go_sem]
  refine bif_cases (fun h6 => ?_) (fun h6 => ?_) <;> simp -implicitDefEqProofs (maxSteps := 1000000) only [h6, go_sem]
  refine bif_cases (fun h7 => ?_) (fun h7 => ?_) <;> simp -implicitDefEqProofs (maxSteps := 1000000) only [h7, go_sem]
  refine .of (c_i_within _ _ _) ?_
  simp -implicitDefEqProofs (maxSteps := 1000000) only [go_sem]
  refine bif_cases (fun h8 => ?_) (fun h8 => ?_) <;> simp -implicitDefEqProofs (maxSteps := 1000000) only [h8, go_sem]
  refine .of (c_i_within _ _ _) ?_
  simp -implicitDefEqProofs (maxSteps := 1000000) only [go_sem]
def x_s_MsgOk : FnX := ⟨50, [.tmp 2],
  .seq (.reg [⟨none, some 1, 1, .box (.t 0)⟩,
   ⟨none, some 2, 2, .mv (.k (.one (.pv (.bool false))))⟩])
 (.seq (.reg [⟨none, some 3, 3, .faddr (.t 1) 0⟩,
   ⟨none, some 4, 4, .load none (.t 3)⟩,
   ⟨none, some 5, 5, .call 79 [0, 0, 0] [(.t 4), (.k (.one (.pv (.int .i64 1)))), (.k (.one (.pv (.int .i64 9))))]⟩,
   ⟨none, some 6, 6, .mv (.t 5)⟩,
   ⟨(some (6, true)), some 7, 7, .faddr (.t 1) 1⟩,
   ⟨(some (6, true)), some 8, 8, .load none (.t 7)⟩,
   ⟨(some (6, true)), some 9, 9, .call 79 [0, 0, 0] [(.t 8), (.k (.one (.pv (.int .i64 0)))), (.k (.one (.pv (.int .i64 4))))]⟩,
   ⟨none, some 10, 10, .pick (.t 6) (.t 9) (.k (.one (.pv (.bool false))))⟩,
   ⟨none, some 11, 11, .mv (.t 10)⟩,
   ⟨(some (11, true)), some 12, 12, .faddr (.t 1) 2⟩,
   ⟨(some (11, true)), some 13, 13, .load none (.t 12)⟩,
   ⟨(some (11, true)), some 14, 14, .call 79 [0, 0, 0] [(.t 13), (.k (.one (.pv (.int .i64 0)))), (.k (.one (.pv (.int .i64 4))))]⟩,
   ⟨none, some 15, 15, .pick (.t 11) (.t 14) (.k (.one (.pv (.bool false))))⟩,
   ⟨none, some 16, 16, .mv (.t 15)⟩,
   ⟨(some (16, true)), some 17, 17, .faddr (.t 1) 1⟩,
   ⟨(some (16, true)), some 18, 18, .load none (.t 17)⟩,
   ⟨(some (16, true)), some 19, 19, .faddr (.t 1) 2⟩,
   ⟨(some (16, true)), some 20, 20, .load none (.t 19)⟩,
   ⟨(some (16, true)), some 21, 21, .bin .neq (.t 18) (.t 20)⟩,
   ⟨none, some 22, 22, .pick (.t 16) (.t 21) (.k (.one (.pv (.bool false))))⟩,
   ⟨none, some 23, 23, .mv (.t 22)⟩,
   ⟨(some (23, true)), some 24, 24, .faddr (.t 1) 3⟩,
   ⟨(some (23, true)), some 25, 25, .load none (.t 24)⟩,
   ⟨(some (23, true)), some 26, 26, .call 80 [0] [(.t 25)]⟩,
   ⟨none, some 27, 27, .pick (.t 23) (.t 26) (.k (.one (.pv (.bool false))))⟩,
   ⟨none, some 28, 28, .mv (.t 27)⟩,
   ⟨(some (28, true)), some 29, 29, .faddr (.t 1) 4⟩,
   ⟨(some (28, true)), some 30, 30, .load none (.t 29)⟩,
   ⟨(some (28, true)), some 31, 31, .slen (.t 30)⟩,
   ⟨(some (28, true)), some 32, 32, .bin .leq (.t 31) (.k (.one (.pv (.int .i64 60))))⟩,
   ⟨none, some 33, 33, .pick (.t 28) (.t 32) (.k (.one (.pv (.bool false))))⟩,
   ⟨none, some 34, 34, .mv (.t 33)⟩,
   ⟨(some (34, true)), some 35, 35, .faddr (.t 1) 5⟩,
   ⟨(some (34, true)), some 36, 36, .load none (.t 35)⟩,
   ⟨(some (34, true)), some 37, 37, .slen (.t 36)⟩,
   ⟨(some (34, true)), some 38, 38, .bin .leq (.t 37) (.k (.one (.pv (.int .i64 60))))⟩,
   ⟨none, some 39, 39, .pick (.t 34) (.t 38) (.k (.one (.pv (.bool false))))⟩,
   ⟨none, some 40, 40, .mv (.t 39)⟩,
   ⟨(some (40, true)), some 41, 41, .faddr (.t 1) 6⟩,
   ⟨(some (40, true)), some 42, 42, .load none (.t 41)⟩,
   ⟨(some (40, true)), some 43, 43, .call 79 [0, 0, 0] [(.t 42), (.k (.one (.pv (.int .i64 0)))), (.k (.one (.pv (.int .i64 255))))]⟩,
   ⟨none, some 44, 44, .pick (.t 40) (.t 43) (.k (.one (.pv (.bool false))))⟩,
   ⟨none, some 45, 45, .mv (.t 44)⟩,
   ⟨(some (45, true)), some 46, 46, .faddr (.t 1) 7⟩,
   ⟨(some (45, true)), some 47, 47, .load none (.t 46)⟩,
   ⟨(some (45, true)), some 48, 48, .call 79 [0, 0, 0] [(.t 47), (.k (.one (.pv (.int .i64 0)))), (.k (.one (.pv (.int .i64 6))))]⟩,
   ⟨none, some 49, 49, .pick (.t 45) (.t 48) (.k (.one (.pv (.bool false))))⟩,
   ⟨none, some 2, 2, .mv (.t 49)⟩])
 (.ret))⟩
abbrev C_s_MsgOk (Te : Nat → List AV → Res → Prop) : Prop := ∀ (m : Msg), Te 50 [.agg m.row] ⟨[.one (bT m.ok)], [m.row]⟩
theorem r_s_MsgOk {Te : Nat → List AV → Res → Prop} (c_s_l1In : C_s_l1In Te) (c_s_l1Word : C_s_l1Word Te) : ∀ (m : Msg), RunFn Te x_s_MsgOk [.agg m.row] ⟨[.one (bT m.ok)], [m.row]⟩ := by
  intro m
  refine ⟨by simp -implicitDefEqProofs (maxSteps := 1000000) only [x_s_MsgOk, go_sem], ?_⟩
  simp -implicitDefEqProofs (maxSteps := 1000000) only [x_s_MsgOk, go_sem, Msg.ok]
  refine .of (c_s_l1In _ _ _) ?_
  simp -implicitDefEqProofs (maxSteps := 1000000) only [go_sem]
  refine bif_cases (fun h1 => ?_) (fun h1 => ?_) <;> simp -implicitDefEqProofs (maxSteps := 1000000) only [h1, go_sem]
  refine .of (c_s_l1In _ _ _) ?_
  simp -implicitDefEqProofs (maxSteps := 1000000) only [go_sem]
  refine bif_cases (fun h2 => ?_) (fun h2 => ?_) <;> simp -implicitDefEqProofs (maxSteps := 1000000) only [h2, go_sem]
  refine .of (c_s_l1In _ _ _) ?_
  simp -implicitDefEqProofs (maxSteps := 1000000) only [go_sem]
  refine bif_cases (fun h3 => ?_) (fun h3 => ?_) <;> simp -implicitDefEqProofs (maxSteps := 1000000) only [h3, go_sem]
  refine bif_cases (fun h4 => ?_) (fun h4 => ?_) <;> simp -implicitDefEqProofs (maxSteps := 1000000) only [h4, go_sem]
  refine .of (c_s_l1Word _) ?_
  simp -implicitDefEqProofs (maxSteps := 1000000) only [go_sem]
  refine bif_cases (fun h5 => ?_) (fun h5 => ?_) <;> simp -implicitDefEqProofs (maxSteps := 1000000) only [h5, go_sem]
  refine bif_cases (fun h6 => ?_) (fun h6 => ?_) <;> simp -implicitDefEqProofs (maxSteps := 1000000) only [h6, go_sem]
  refine bif_cases (fun h7 => ?_) (fun h7 => ?_) <;> simp -implicitDefEqProofs (maxSteps := 1000000) only [h7, go_sem]
  refine .of (c_s_l1In _ _ _) ?_
  simp -implicitDefEqProofs (maxSteps := 1000000) only [go_sem]
  refine bif_cases (fun h8 => ?_) (fun h8 => ?_) <;> simp -implicitDefEqProofs (maxSteps := 1000000) only [h8, go_sem]
  refine .of (c_s_l1In _ _ _) ?_
  simp -implicitDefEqProofs (maxSteps := 1000000) only [go_sem]
end Go.X

/- K -/
namespace Go.X
set_option maxRecDepth 100000
set_option maxHeartbeats 8000000
abbrev bytesR (o : Bool) (l : List UInt8) : List T := [slT o 1 uR l]
theorem toNat_ofInt (a : Nat) (h : a < 2 ^ 62) : (BitVec.ofInt 64 (a : Int)).toNat = a := by
  rw [BitVec.toNat_ofInt]
  omega
theorem xor_nat (a b : Nat) (ha : a < 2 ^ 62) (hb : b < 2 ^ 62) : xorK .i64 (a : Int) (b : Int) = ((a ^^^ b : Nat) : Int) := by
  show IntKind.i64.wrap ((BitVec.ofInt 64 (a : Int) ^^^ BitVec.ofInt 64 (b : Int)).toNat) = ((a ^^^ b : Nat) : Int)
  rw [BitVec.toNat_xor, toNat_ofInt a ha, toNat_ofInt b hb, IntWalk.i64_in]
  have := Nat.xor_lt_two_pow ha hb
  omega
theorem or_nat (a b : Nat) (ha : a < 2 ^ 62) (hb : b < 2 ^ 62) : orK .i64 (a : Int) (b : Int) = ((a ||| b : Nat) : Int) := by
  show IntKind.i64.wrap ((BitVec.ofInt 64 (a : Int) ||| BitVec.ofInt 64 (b : Int)).toNat) = ((a ||| b : Nat) : Int)
  rw [BitVec.toNat_or, toNat_ofInt a ha, toNat_ofInt b hb, IntWalk.i64_in]
  have := Nat.or_lt_two_pow ha hb
  omega
theorem and_nat (a b : Nat) (ha : a < 2 ^ 62) (hb : b < 2 ^ 62) : andK .i64 (a : Int) (b : Int) = ((a &&& b : Nat) : Int) := by
  show IntKind.i64.wrap ((BitVec.ofInt 64 (a : Int) &&& BitVec.ofInt 64 (b : Int)).toNat) = ((a &&& b : Nat) : Int)
  rw [BitVec.toNat_and, toNat_ofInt a ha, toNat_ofInt b hb, IntWalk.i64_in]
  have := Nat.and_lt_two_pow a hb
  omega
theorem min8 : Nat.min 8 64 = 8 := rfl
theorem and255 (a : Int) : mkU (andK .i64 a 255) = mkU a := by
  show mkU (IntKind.i64.wrap ((BitVec.ofInt 64 a &&& BitVec.ofInt 64 255).toNat)) = mkU a
  have e : (BitVec.ofInt 64 a &&& BitVec.ofInt 64 255).toNat = (a % 256).toNat := by
    rw [BitVec.toNat_and, BitVec.toNat_ofInt, show (BitVec.ofInt 64 255).toNat = 2 ^ 8 - 1 by decide, Nat.and_two_pow_sub_one_eq_mod]
    omega
  rw [e, IntWalk.i64_in _ (by omega)]
  simp only [mkU]
  congr 1
  omega
theorem ofBytes_eq (l : List UInt8) : ofBytes l = l.map uR := rfl
def hiB (n : Int) : UInt8 := mkU (n.fdiv 256)
def putW (b : List UInt8) (n : Int) : List UInt8 := b ++ [hiB n, mkU n]
def putText (b : List UInt8) (s : ByteArray) : List UInt8 := if (s.size : Int) > 60 then b else putW b s.size ++ s.data.toList
def sumBit (s : Nat) : Nat := if 2 * s > 65535 then 2 * s ^^^ 69665 else 2 * s
def sumBits : Nat → Nat → Nat
  | 0, s => s
  | n + 1, s => sumBit (sumBits n s)
def sumByte (s : Nat) (b : UInt8) : Nat := sumBits 8 (s ^^^ (256 * b.toNat))
def sum (l : List UInt8) : Nat := l.foldl sumByte 65535 &&& 65535
theorem sumBit_lt {s : Nat} (h : s < 65536) : sumBit s < 65536 := by
  unfold sumBit
  split
  · rename_i q
    have h1 : 2 * s < 2 ^ 17 := by omega
    refine Nat.lt_pow_two_of_testBit (n := 16) _ fun i hi => ?_
    rw [Nat.testBit_xor]
    by_cases h16 : i = 16
    · subst h16
      have : (2 * s).testBit 16 = true := by
        rw [Nat.testBit_eq_decide_div_mod_eq]
        have : 2 * s / 2 ^ 16 = 1 := by omega
        simp [this]
      rw [this]; decide
    · rw [Nat.testBit_lt_two_pow (Nat.lt_of_lt_of_le h1 (Nat.pow_le_pow_right (by decide) (by omega))), Nat.testBit_lt_two_pow (Nat.lt_of_lt_of_le (show 69665 < 2 ^ 17 by decide) (Nat.pow_le_pow_right (by decide) (by omega)))]
      rfl
  · omega
theorem sumBits_lt (n : Nat) {s : Nat} (h : s < 65536) : sumBits n s < 65536 := by
  induction n with
  | zero => exact h
  | succ n ih => exact sumBit_lt ih
theorem sumX_lt {s : Nat} (b : UInt8) (h : s < 65536) : s ^^^ (256 * b.toNat) < 65536 := Nat.xor_lt_two_pow (n := 16) h (by have := b.toNat_lt; omega)
theorem sumByte_lt {s : Nat} (b : UInt8) (h : s < 65536) : sumByte s b < 65536 := sumBits_lt 8 (sumX_lt b h)
def x_i_joined : FnX := ⟨18, [.tmp 2],
  .seq (.reg [⟨none, some 2, 2, .mv (.k (.one (.nils 1)))⟩])
 (.seq (.reg [⟨none, some 6, 6, .bslice 1 []⟩,
   ⟨none, some 3, 3, .mv (.t 6)⟩])
 (.seq (.seq (.reg [⟨none, some 7, 7, .mv (.t 0)⟩,
   ⟨none, some 8, 8, .len (.t 7)⟩,
   ⟨none, some 9, 9, .mv (.k (.one (.pv (.int .i64 0))))⟩])
 (.block 0 (.loop [3, 7, 8, 9] (.seq (.reg [⟨none, some 10, 10, .bin .lss (.t 9) (.t 8)⟩])
 (.seq (.cond 10 (.skip) (.exit 0))
 (.seq (.block 1 (.seq (.reg [⟨none, some 11, 11, .iaddr 1 (.t 7) (.t 9)⟩,
   ⟨none, some 12, 12, .load none (.t 11)⟩,
   ⟨none, some 5, 5, .mv (.t 12)⟩])
 (.reg [⟨none, some 13, 13, .mv (.t 3)⟩,
   ⟨none, some 14, 14, .mv (.t 5)⟩,
   ⟨none, some 15, 15, .app 1 1 (.t 13) (.t 14)⟩,
   ⟨none, some 3, 3, .mv (.t 15)⟩])))
 (.reg [⟨none, some 16, 16, .bin .add (.t 9) (.k (.one (.pv (.int .i64 1))))⟩,
   ⟨none, some 9, 9, .mv (.t 16)⟩])))))))
 (.norm [3] (.seq (.reg [⟨none, some 17, 17, .mv (.t 3)⟩,
   ⟨none, some 2, 2, .mv (.t 17)⟩])
 (.ret)))))⟩
abbrev C_i_joined (Te : Nat → List AV → Res → Prop) : Prop := ∀ (ps : List (List UInt8)) (h : ps.flatten.length ≤ 2 ^ 31) (h2 : ps.length ≤ 2 ^ 31), Te 81 [.one (slT false 1 (bytesR false) ps)] ⟨[.one (slT true 1 uR ps.flatten)], [[slT false 1 (bytesR false) ps]]⟩
theorem r_i_joined {Te : Nat → List AV → Res → Prop} : ∀ (ps : List (List UInt8)) (h : ps.flatten.length ≤ 2 ^ 31) (h2 : ps.length ≤ 2 ^ 31), RunFn Te x_i_joined [.one (slT false 1 (bytesR false) ps)] ⟨[.one (slT true 1 uR ps.flatten)], [[slT false 1 (bytesR false) ps]]⟩ := by
  intro ps h h2
  refine ⟨by simp -implicitDefEqProofs (maxSteps := 1000000) only [x_i_joined, go_sem], ?_⟩
  simp -implicitDefEqProofs (maxSteps := 1000000) only [x_i_joined, go_sem]
  refine loop_of (σ := Nat × List UInt8) (fun x => ⟨[(3, .one (.rf 19 0 [] 1 0 x.2.length)), (7, .one (.ro 1 (ps.map (bytesR false)))), (8, .one (.pv (.int .i64 ps.length))), (9, .one (.pv (.int .i64 x.1)))], [], [(0, [slT false 1 (bytesR false) ps]), (19, [slT true 1 uR x.2])]⟩) (fun x => x.1 ≤ ps.length ∧ x.2 = (ps.take x.1).flatten) (fun x => ps.length - x.1) (0, []) ?_ ⟨Nat.zero_le _, rfl⟩ ?_
  · simp -implicitDefEqProofs (maxSteps := 1000000) only [go_sem]; rfl
  · rintro ⟨i, a⟩ ⟨hi, he⟩
    simp only at hi he
    simp -implicitDefEqProofs (maxSteps := 1000000) only [go_sem]
    refine ⟨fun h => ?_, fun h => ?_⟩
    · have hi' : i < ps.length := by simp only [decide_eq_true_eq] at h; omega
      simp -implicitDefEqProofs (maxSteps := 1000000) only [go_sem, List.getElem?_eq_getElem hi']
      have hlen : a.length + ps[i].length ≤ ps.flatten.length := by
        rw [he, ← List.length_append]
        have e := List.take_succ_eq_append_getElem hi'
        have : (ps.take i).flatten ++ ps[i] = (ps.take (i + 1)).flatten := by rw [e, List.flatten_append]; simp
        rw [this]
        have h5 : ps.flatten = (ps.take (i + 1)).flatten ++ (ps.drop (i + 1)).flatten := by rw [← List.flatten_append, List.take_append_drop]
        rw [h5, List.length_append]
        omega
      refine ⟨⟨decide_eq_true (by omega), decide_eq_true (by omega)⟩, (i + 1, a ++ ps[i]), ?_, ⟨hi', ?_⟩, by simp only; omega⟩
      · rw [IntWalk.i64_in _ (by omega)]
        rw [show List.map uR a ++ List.map uR ps[i] = List.map uR (a ++ ps[i]) from List.map_append.symm, show a.length + ps[i].length = (a ++ ps[i]).length from List.length_append.symm]
        rfl
      · rw [he, List.take_succ_eq_append_getElem hi', List.flatten_append]
        simp
    · have hle : ps.length ≤ i := by simp only [decide_eq_false_iff_not] at h; omega
      rw [List.take_of_length_le hle] at he
      subst he
      simp -implicitDefEqProofs (maxSteps := 1000000) only [go_sem]
def x_i_Sum : FnX := ⟨29, [.tmp 2],
  .seq (.reg [⟨none, some 2, 2, .mv (.k (.one (.pv (.int .i64 0))))⟩])
 (.seq (.reg [⟨none, some 3, 3, .mv (.k (.one (.pv (.int .i64 65535))))⟩])
 (.seq (.seq (.reg [⟨none, some 6, 6, .mv (.t 0)⟩,
   ⟨none, some 7, 7, .len (.t 6)⟩,
   ⟨none, some 8, 8, .mv (.k (.one (.pv (.int .i64 0))))⟩])
 (.block 0 (.loop [3, 6, 7, 8] (.seq (.reg [⟨none, some 9, 9, .bin .lss (.t 8) (.t 7)⟩])
 (.seq (.cond 9 (.skip) (.exit 0))
 (.seq (.block 1 (.seq (.reg [⟨none, some 10, 10, .iaddr 1 (.t 6) (.t 8)⟩,
   ⟨none, some 11, 11, .load none (.t 10)⟩,
   ⟨none, some 5, 5, .mv (.t 11)⟩])
 (.seq (.reg [⟨none, some 12, 12, .mv (.t 3)⟩,
   ⟨none, some 13, 13, .mv (.t 5)⟩,
   ⟨none, some 14, 14, .conv (.int .i64) (.t 13)⟩,
   ⟨none, some 15, 15, .bin .mul (.k (.one (.pv (.int .i64 256)))) (.t 14)⟩,
   ⟨none, some 16, 16, .bin .xor (.t 12) (.t 15)⟩,
   ⟨none, some 3, 3, .mv (.t 16)⟩])
 (.seq (.reg [⟨none, some 17, 17, .mv (.k (.one (.pv (.int .i64 0))))⟩])
 (.block 2 (.loop [3, 6, 7, 8, 17] (.seq (.reg [⟨none, some 18, 18, .bin .lss (.t 17) (.k (.one (.pv (.int .i64 8))))⟩])
 (.seq (.cond 18 (.skip) (.exit 2))
 (.seq (.block 3 (.seq (.reg [⟨none, some 19, 19, .mv (.t 3)⟩,
   ⟨none, some 20, 20, .bin .mul (.t 19) (.k (.one (.pv (.int .i64 2))))⟩,
   ⟨none, some 3, 3, .mv (.t 20)⟩])
 (.seq (.reg [⟨none, some 21, 21, .mv (.t 3)⟩,
   ⟨none, some 22, 22, .bin .gtr (.t 21) (.k (.one (.pv (.int .i64 65535))))⟩])
 (.cond 22 (.reg [⟨none, some 23, 23, .mv (.t 3)⟩,
   ⟨none, some 24, 24, .bin .xor (.t 23) (.k (.one (.pv (.int .i64 69665))))⟩,
   ⟨none, some 3, 3, .mv (.t 24)⟩]) (.skip)))))
 (.reg [⟨none, some 25, 25, .bin .add (.t 17) (.k (.one (.pv (.int .i64 1))))⟩,
   ⟨none, some 17, 17, .mv (.t 25)⟩]))))))))))
 (.norm [3, 6, 7, 8] (.reg [⟨none, some 26, 26, .bin .add (.t 8) (.k (.one (.pv (.int .i64 1))))⟩,
   ⟨none, some 8, 8, .mv (.t 26)⟩]))))))))
 (.norm [3] (.seq (.reg [⟨none, some 27, 27, .mv (.t 3)⟩,
   ⟨none, some 28, 28, .bin .and (.t 27) (.k (.one (.pv (.int .i64 65535))))⟩,
   ⟨none, some 2, 2, .mv (.t 28)⟩])
 (.ret)))))⟩
abbrev C_i_Sum (Te : Nat → List AV → Res → Prop) : Prop := ∀ (l : List UInt8) (h : l.length ≤ 2 ^ 31), Te 58 [.one (slT false 1 uR l)] ⟨[.one (iT (sum l))], [[slT false 1 uR l]]⟩
theorem r_i_Sum {Te : Nat → List AV → Res → Prop} : ∀ (l : List UInt8) (h : l.length ≤ 2 ^ 31), RunFn Te x_i_Sum [.one (slT false 1 uR l)] ⟨[.one (iT (sum l))], [[slT false 1 uR l]]⟩ := by
  intro l h
  refine ⟨by simp -implicitDefEqProofs (maxSteps := 1000000) only [x_i_Sum, go_sem], ?_⟩
  simp -implicitDefEqProofs (maxSteps := 1000000) only [x_i_Sum, go_sem]
  refine loop_of (σ := Nat × Nat) (fun x => ⟨[(3, .one (.pv (.int .i64 x.2))), (6, .one (.ro 1 (l.map uR))), (7, .one (.pv (.int .i64 l.length))), (8, .one (.pv (.int .i64 x.1)))], [], [(0, [slT false 1 uR l])]⟩) (fun x => x.1 ≤ l.length ∧ x.2 < 65536 ∧ x.2 = (l.take x.1).foldl sumByte 65535) (fun x => l.length - x.1) (0, 65535) ?_ ⟨Nat.zero_le _, by decide, rfl⟩ ?_
  · simp -implicitDefEqProofs (maxSteps := 1000000) only [go_sem]; rfl
  · rintro ⟨i, s⟩ ⟨hi, hs, he⟩
    simp only at hi hs he
    simp -implicitDefEqProofs (maxSteps := 1000000) only [go_sem]
    refine ⟨fun h => ?_, fun h => ?_⟩
    · have hi' : i < l.length := by simp only [decide_eq_true_eq] at h; omega
      have hb := l[i].toNat_lt
      have e1 : IntKind.i64.wrap (l[i].toNat : Int) = (l[i].toNat : Int) := IntWalk.i64_in _ (by omega)
      have e2 : IntKind.i64.wrap (256 * (l[i].toNat : Int)) = ((256 * l[i].toNat : Nat) : Int) := by rw [IntWalk.i64_in _ (by omega)]; rfl
      simp -implicitDefEqProofs (maxSteps := 1000000) only [go_sem, List.getElem?_eq_getElem hi', e1, e2, xor_nat s (256 * l[i].toNat) (by omega) (by omega)]
      have hx := sumX_lt l[i] hs
      have e9 : sumByte s l[i] = sumBits 8 (s ^^^ (256 * l[i].toNat)) := rfl
      generalize s ^^^ (256 * l[i].toNat) = S at *
      refine loop_of (σ := Nat × Nat) (fun x => ⟨[(3, .one (.pv (.int .i64 x.2))), (6, .one (.ro 1 (l.map uR))), (7, .one (.pv (.int .i64 l.length))), (8, .one (.pv (.int .i64 i))), (17, .one (.pv (.int .i64 x.1)))], [], [(0, [slT false 1 uR l])]⟩) (fun x => x.1 ≤ 8 ∧ x.2 = sumBits x.1 S) (fun x => 8 - x.1) (0, S) ?_ ⟨Nat.zero_le _, rfl⟩ ?_
      · simp -implicitDefEqProofs (maxSteps := 1000000) only [go_sem]; rfl
      · rintro ⟨j, v⟩ ⟨hj, hv⟩
        simp only at hj hv
        have hz : v < 65536 := by rw [hv]; exact sumBits_lt j hx
        have e3 : IntKind.i64.wrap ((v : Int) * 2) = ((2 * v : Nat) : Int) := by rw [IntWalk.i64_in _ (by omega)]; omega
        have e4 := xor_nat (2 * v) 69665 (by omega) (by decide)
        have e5 : ((69665 : Nat) : Int) = 69665 := rfl
        rw [e5] at e4
        have e6 : sumBits (j + 1) S = sumBit v := by rw [hv]; rfl
        simp -implicitDefEqProofs (maxSteps := 1000000) only [go_sem]
        refine ⟨fun h => ?_, fun h => ?_⟩
        · have hj' : j < 8 := by simp only [decide_eq_true_eq] at h; omega
          simp -implicitDefEqProofs (maxSteps := 1000000) only [go_sem, e3]
          refine ⟨fun h6 => ?_, fun h6 => ?_⟩
          · simp -implicitDefEqProofs (maxSteps := 1000000) only [go_sem, e4]
            refine ⟨(j + 1, 2 * v ^^^ 69665), by rw [IntWalk.i64_in _ (by omega)]; rfl, ⟨hj', ?_⟩, by simp only; omega⟩
            rw [e6, sumBit, if_pos (by simp only [decide_eq_true_eq] at h6; omega)]
          · refine ⟨(j + 1, 2 * v), by rw [IntWalk.i64_in _ (by omega)]; rfl, ⟨hj', ?_⟩, by simp only; omega⟩
            rw [e6, sumBit, if_neg (by simp only [decide_eq_false_iff_not] at h6; omega)]
        · have hj' : j = 8 := by simp only [decide_eq_false_iff_not] at h; omega
          subst hj'
          rw [← e9] at hv
          refine ⟨(i + 1, v), by rw [IntWalk.i64_in _ (by omega)]; rfl, ⟨hi', hz, ?_⟩, by simp only; omega⟩
          simp only
          rw [List.take_succ_eq_append_getElem hi', List.foldl_append, ← he, hv, List.foldl_cons, List.foldl_nil]
    · have hle : l.length ≤ i := by simp only [decide_eq_false_iff_not] at h; omega
      rw [List.take_of_length_le hle] at he
      have e7 := and_nat s 65535 (by omega) (by decide)
      have e8 : ((65535 : Nat) : Int) = 65535 := rfl
      rw [e8] at e7
      simp -implicitDefEqProofs (maxSteps := 1000000) only [go_sem, e7, sum, ← he]
def x_s_Sum : FnX := ⟨32, [.tmp 2],
  .seq (.reg [⟨none, some 2, 2, .mv (.k (.one (.pv (.int .i64 0))))⟩])
 (.seq (.reg [⟨none, some 3, 3, .mv (.k (.one (.pv (.int .i64 65535))))⟩])
 (.seq (.seq (.reg [⟨none, some 4, 4, .mv (.k (.one (.pv (.int .i64 0))))⟩])
 (.block 0 (.loop [0, 3, 4] (.seq (.seq (.reg [⟨none, some 6, 6, .mv (.t 4)⟩,
   ⟨none, some 7, 7, .mv (.t 0)⟩,
   ⟨none, some 8, 8, .len (.t 7)⟩,
   ⟨none, some 9, 9, .bin .lss (.t 6) (.t 8)⟩])
 (.cond 9 (.skip) (.exit 0)))
 (.seq (.block 1 (.seq (.reg [⟨none, some 12, 12, .mv (.t 3)⟩,
   ⟨none, some 13, 13, .mv (.t 0)⟩,
   ⟨none, some 14, 14, .mv (.t 4)⟩,
   ⟨none, some 15, 15, .iaddr 1 (.t 13) (.t 14)⟩,
   ⟨none, some 16, 16, .load none (.t 15)⟩,
   ⟨none, some 17, 17, .conv (.int .i64) (.t 16)⟩,
   ⟨none, some 18, 18, .bin .shl (.t 17) (.k (.one (.pv (.int .u64 8))))⟩,
   ⟨none, some 19, 19, .bin .xor (.t 12) (.t 18)⟩,
   ⟨none, some 3, 3, .mv (.t 19)⟩])
 (.seq (.reg [⟨none, some 5, 5, .mv (.k (.one (.pv (.int .i64 0))))⟩])
 (.block 2 (.loop [0, 3, 4, 5] (.seq (.seq (.reg [⟨none, some 20, 20, .mv (.t 5)⟩,
   ⟨none, some 21, 21, .bin .lss (.t 20) (.k (.one (.pv (.int .i64 8))))⟩])
 (.cond 21 (.skip) (.exit 2)))
 (.seq (.block 3 (.seq (.reg [⟨none, some 24, 24, .mv (.t 3)⟩,
   ⟨none, some 25, 25, .bin .shl (.t 24) (.k (.one (.pv (.int .u64 1))))⟩,
   ⟨none, some 3, 3, .mv (.t 25)⟩])
 (.seq (.reg [⟨none, some 26, 26, .mv (.t 3)⟩,
   ⟨none, some 27, 27, .bin .gtr (.t 26) (.k (.one (.pv (.int .i64 65535))))⟩])
 (.cond 27 (.reg [⟨none, some 28, 28, .mv (.t 3)⟩,
   ⟨none, some 29, 29, .bin .xor (.t 28) (.k (.one (.pv (.int .i64 69665))))⟩,
   ⟨none, some 3, 3, .mv (.t 29)⟩]) (.skip)))))
 (.reg [⟨none, some 22, 22, .mv (.t 5)⟩,
   ⟨none, some 23, 23, .bin .add (.t 22) (.k (.one (.pv (.int .i64 1))))⟩,
   ⟨none, some 5, 5, .mv (.t 23)⟩]))))))))
 (.norm [0, 3, 4] (.reg [⟨none, some 10, 10, .mv (.t 4)⟩,
   ⟨none, some 11, 11, .bin .add (.t 10) (.k (.one (.pv (.int .i64 1))))⟩,
   ⟨none, some 4, 4, .mv (.t 11)⟩])))))))
 (.norm [3] (.seq (.reg [⟨none, some 30, 30, .mv (.t 3)⟩,
   ⟨none, some 31, 31, .bin .and (.t 30) (.k (.one (.pv (.int .i64 65535))))⟩,
   ⟨none, some 2, 2, .mv (.t 31)⟩])
 (.ret)))))⟩
abbrev C_s_Sum (Te : Nat → List AV → Res → Prop) : Prop := ∀ (l : List UInt8) (h : l.length ≤ 2 ^ 31), Te 55 [.one (slT false 1 uR l)] ⟨[.one (iT (sum l))], [[slT false 1 uR l]]⟩
theorem r_s_Sum {Te : Nat → List AV → Res → Prop} : ∀ (l : List UInt8) (h : l.length ≤ 2 ^ 31), RunFn Te x_s_Sum [.one (slT false 1 uR l)] ⟨[.one (iT (sum l))], [[slT false 1 uR l]]⟩ := by
  intro l h
  refine ⟨by simp -implicitDefEqProofs (maxSteps := 1000000) only [x_s_Sum, go_sem], ?_⟩
  simp -implicitDefEqProofs (maxSteps := 1000000) only [x_s_Sum, go_sem]
  refine loop_of (σ := Nat × Nat) (fun x => ⟨[(0, .one (.ro 1 (l.map uR))), (3, .one (.pv (.int .i64 x.2))), (4, .one (.pv (.int .i64 x.1)))], [], [(0, [slT false 1 uR l])]⟩) (fun x => x.1 ≤ l.length ∧ x.2 < 65536 ∧ x.2 = (l.take x.1).foldl sumByte 65535) (fun x => l.length - x.1) (0, 65535) ?_ ⟨Nat.zero_le _, by decide, rfl⟩ ?_
  · simp -implicitDefEqProofs (maxSteps := 1000000) only [go_sem]; rfl
  · rintro ⟨i, s⟩ ⟨hi, hs, he⟩
    simp only at hi hs he
    simp -implicitDefEqProofs (maxSteps := 1000000) only [go_sem]
    refine ⟨fun h => ?_, fun h => ?_⟩
    · have hi' : i < l.length := by simp only [decide_eq_true_eq] at h; omega
      have hb := l[i].toNat_lt
      have e1 : IntKind.i64.wrap (l[i].toNat : Int) = (l[i].toNat : Int) := IntWalk.i64_in _ (by omega)
      have e2 : IntKind.i64.wrap ((l[i].toNat : Int) * 2 ^ 8) = ((256 * l[i].toNat : Nat) : Int) := by rw [IntWalk.i64_in _ (by omega)]; omega
      simp -implicitDefEqProofs (maxSteps := 1000000) only [go_sem, List.getElem?_eq_getElem hi', min8, e1, e2, xor_nat s (256 * l[i].toNat) (by omega) (by omega)]
      have hx := sumX_lt l[i] hs
      have e9 : sumByte s l[i] = sumBits 8 (s ^^^ (256 * l[i].toNat)) := rfl
      generalize s ^^^ (256 * l[i].toNat) = S at *
      refine loop_of (σ := Nat × Nat) (fun x => ⟨[(0, .one (.ro 1 (l.map uR))), (3, .one (.pv (.int .i64 x.2))), (4, .one (.pv (.int .i64 i))), (5, .one (.pv (.int .i64 x.1)))], [], [(0, [slT false 1 uR l])]⟩) (fun x => x.1 ≤ 8 ∧ x.2 = sumBits x.1 S) (fun x => 8 - x.1) (0, S) ?_ ⟨Nat.zero_le _, rfl⟩ ?_
      · simp -implicitDefEqProofs (maxSteps := 1000000) only [go_sem]; rfl
      · rintro ⟨j, v⟩ ⟨hj, hv⟩
        simp only at hj hv
        have hz : v < 65536 := by rw [hv]; exact sumBits_lt j hx
        have e3 : IntKind.i64.wrap ((v : Int) * 2 ^ 1) = ((2 * v : Nat) : Int) := by rw [IntWalk.i64_in _ (by omega)]; omega
        have e4 := xor_nat (2 * v) 69665 (by omega) (by decide)
        have e5 : ((69665 : Nat) : Int) = 69665 := rfl
        rw [e5] at e4
        have e6 : sumBits (j + 1) S = sumBit v := by rw [hv]; rfl
        simp -implicitDefEqProofs (maxSteps := 1000000) only [go_sem]
        refine ⟨fun h => ?_, fun h => ?_⟩
        · have hj' : j < 8 := by simp only [decide_eq_true_eq] at h; omega
          simp -implicitDefEqProofs (maxSteps := 1000000) only [go_sem, show Nat.min 1 64 = 1 from rfl, e3]
          refine ⟨fun h6 => ?_, fun h6 => ?_⟩
          · simp -implicitDefEqProofs (maxSteps := 1000000) only [go_sem, e4]
            refine ⟨(j + 1, 2 * v ^^^ 69665), by rw [IntWalk.i64_in _ (by omega)]; rfl, ⟨hj', ?_⟩, by simp only; omega⟩
            rw [e6, sumBit, if_pos (by simp only [decide_eq_true_eq] at h6; omega)]
          · refine ⟨(j + 1, 2 * v), by rw [IntWalk.i64_in _ (by omega)]; rfl, ⟨hj', ?_⟩, by simp only; omega⟩
            rw [e6, sumBit, if_neg (by simp only [decide_eq_false_iff_not] at h6; omega)]
        · have hj' : j = 8 := by simp only [decide_eq_false_iff_not] at h; omega
          subst hj'
          rw [← e9] at hv
          refine ⟨(i + 1, v), by rw [IntWalk.i64_in _ (by omega)]; rfl, ⟨hi', hz, ?_⟩, by simp only; omega⟩
          simp only
          rw [List.take_succ_eq_append_getElem hi', List.foldl_append, ← he, hv, List.foldl_cons, List.foldl_nil]
    · have hle : l.length ≤ i := by simp only [decide_eq_false_iff_not] at h; omega
      rw [List.take_of_length_le hle] at he
      have e7 := and_nat s 65535 (by omega) (by decide)
      have e8 : ((65535 : Nat) : Int) = 65535 := rfl
      rw [e8] at e7
      simp -implicitDefEqProofs (maxSteps := 1000000) only [go_sem, e7, sum, ← he]
def x_i_PutW : FnX := ⟨16, [.tmp 4],
  .seq (.reg [⟨none, some 4, 4, .mv (.k (.one (.nils 1)))⟩])
 (.seq (.reg [⟨none, some 5, 5, .mv (.t 0)⟩,
   ⟨none, some 6, 6, .mv (.t 1)⟩,
   ⟨none, some 7, 7, .bin .shr (.t 6) (.k (.one (.pv (.int .u64 8))))⟩,
   ⟨none, some 8, 8, .bin .and (.t 7) (.k (.one (.pv (.int .i64 255))))⟩,
   ⟨none, some 9, 9, .conv (.int .u8) (.t 8)⟩,
   ⟨none, some 10, 10, .mv (.t 1)⟩,
   ⟨none, some 11, 11, .bin .and (.t 10) (.k (.one (.pv (.int .i64 255))))⟩,
   ⟨none, some 12, 12, .conv (.int .u8) (.t 11)⟩,
   ⟨none, some 13, 13, .bslice 1 [(.t 9), (.t 12)]⟩,
   ⟨none, some 14, 14, .bslice 1 [(.t 5), (.t 13)]⟩,
   ⟨none, some 15, 15, .call 81 [0] [(.t 14)]⟩,
   ⟨none, some 4, 4, .mv (.t 15)⟩])
 (.ret))⟩
abbrev C_i_PutW (Te : Nat → List AV → Res → Prop) : Prop := ∀ (b : List UInt8) (n : Int) (h : b.length ≤ 2 ^ 30), Te 57 [.one (slT false 1 uR b), .one (iT n)] ⟨[.one (slT true 1 uR (putW b n))], [[slT false 1 uR b], [iT n]]⟩
theorem r_i_PutW {Te : Nat → List AV → Res → Prop} (c_i_joined : C_i_joined Te) : ∀ (b : List UInt8) (n : Int) (h : b.length ≤ 2 ^ 30), RunFn Te x_i_PutW [.one (slT false 1 uR b), .one (iT n)] ⟨[.one (slT true 1 uR (putW b n))], [[slT false 1 uR b], [iT n]]⟩ := by
  intro b n h
  refine ⟨by simp -implicitDefEqProofs (maxSteps := 1000000) only [x_i_PutW, go_sem], ?_⟩
  have e1 : mkU (n.fdiv (2 ^ 8)) = hiB n := rfl
  simp -implicitDefEqProofs (maxSteps := 1000000) only [x_i_PutW, go_sem, min8, mkU_wrap, and255, e1]
  refine .of (c_i_joined [b, [hiB n, mkU n]] (by simp; omega) (by simp)) ?_
  have e2 : [b, [hiB n, mkU n]].flatten = putW b n := by simp [putW]
  simp -implicitDefEqProofs (maxSteps := 1000000) only [go_sem, e2]
def x_s_PutW : FnX := ⟨17, [.tmp 4],
  .seq (.reg [⟨none, some 4, 4, .mv (.k (.one (.nils 1)))⟩])
 (.seq (.reg [⟨none, some 6, 6, .bslice 1 []⟩,
   ⟨none, some 7, 7, .mv (.t 0)⟩,
   ⟨none, some 8, 8, .app 1 1 (.t 6) (.t 7)⟩,
   ⟨none, some 5, 5, .mv (.t 8)⟩])
 (.seq (.reg [⟨none, some 9, 9, .mv (.t 5)⟩,
   ⟨none, some 10, 10, .mv (.t 1)⟩,
   ⟨none, some 11, 11, .bin .shr (.t 10) (.k (.one (.pv (.int .u64 8))))⟩,
   ⟨none, some 12, 12, .conv (.int .u8) (.t 11)⟩,
   ⟨none, some 13, 13, .mv (.t 1)⟩,
   ⟨none, some 14, 14, .conv (.int .u8) (.t 13)⟩,
   ⟨none, some 15, 15, .bslice 1 [(.t 12), (.t 14)]⟩,
   ⟨none, some 16, 16, .app 1 1 (.t 9) (.t 15)⟩,
   ⟨none, some 4, 4, .mv (.t 16)⟩])
 (.ret)))⟩
abbrev C_s_PutW (Te : Nat → List AV → Res → Prop) : Prop := ∀ (b : List UInt8) (n : Int) (h : b.length ≤ 2 ^ 30), Te 54 [.one (slT false 1 uR b), .one (iT n)] ⟨[.one (slT true 1 uR (putW b n))], [[slT false 1 uR b], [iT n]]⟩
theorem r_s_PutW {Te : Nat → List AV → Res → Prop} : ∀ (b : List UInt8) (n : Int) (h : b.length ≤ 2 ^ 30), RunFn Te x_s_PutW [.one (slT false 1 uR b), .one (iT n)] ⟨[.one (slT true 1 uR (putW b n))], [[slT false 1 uR b], [iT n]]⟩ := by
  intro b n h
  refine ⟨by simp -implicitDefEqProofs (maxSteps := 1000000) only [x_s_PutW, go_sem], ?_⟩
  have e1 : mkU (n.fdiv (2 ^ 8)) = hiB n := rfl
  have e2 : List.take (b.length + 2) (List.map uR b ++ [[uT (hiB n)], [uT (mkU n)]]) = List.map uR (putW b n) := by rw [List.take_of_length_le (by simp)]; simp [putW]
  simp -implicitDefEqProofs (maxSteps := 1000000) only [x_s_PutW, go_sem, min8, mkU_wrap, e1, e2]
  exact ⟨⟨decide_eq_true (by omega), decide_eq_true (by omega)⟩, decide_eq_true (by omega), decide_eq_true (by omega)⟩
theorem putW_len (b : List UInt8) (n : Int) : (putW b n).length = b.length + 2 := by simp only [putW, List.length_append]; rfl
theorem putText_len (b : List UInt8) (t : ByteArray) : (putText b t).length ≤ b.length + 62 := by
  unfold putText
  split
  · omega
  · have : t.data.toList.length = t.size := by rw [Array.length_toList]; rfl
    rw [List.length_append, putW_len]
    omega
theorem flat1 {α : Type} (a : List α) : [a].flatten = a := by rw [List.flatten_cons, List.flatten_nil, List.append_nil]
theorem flat2 {α : Type} (a b : List α) : [a, b].flatten = a ++ b := by rw [List.flatten_cons, flat1]
def x_s_PutText : FnX := ⟨17, [.tmp 4],
  .seq (.reg [⟨none, some 4, 4, .mv (.k (.one (.nils 1)))⟩])
 (.seq (.seq (.reg [⟨none, some 5, 5, .mv (.t 1)⟩,
   ⟨none, some 6, 6, .slen (.t 5)⟩,
   ⟨none, some 7, 7, .bin .gtr (.t 6) (.k (.one (.pv (.int .i64 60))))⟩])
 (.cond 7 (.seq (.reg [⟨none, some 8, 8, .bslice 1 []⟩,
   ⟨none, some 9, 9, .mv (.t 0)⟩,
   ⟨none, some 10, 10, .app 1 1 (.t 8) (.t 9)⟩,
   ⟨none, some 4, 4, .mv (.t 10)⟩])
 (.ret)) (.skip)))
 (.seq (.reg [⟨none, some 11, 11, .mv (.t 0)⟩,
   ⟨none, some 12, 12, .mv (.t 1)⟩,
   ⟨none, some 13, 13, .slen (.t 12)⟩,
   ⟨none, some 14, 14, .call 54 [0, 0] [(.t 11), (.t 13)]⟩,
   ⟨none, some 15, 15, .mv (.t 1)⟩,
   ⟨none, some 16, 16, .apps 1 1 (.t 14) (.t 15)⟩,
   ⟨none, some 4, 4, .mv (.t 16)⟩])
 (.ret)))⟩
abbrev C_s_PutText (Te : Nat → List AV → Res → Prop) : Prop := ∀ (b : List UInt8) (t : ByteArray) (h : b.length ≤ 2 ^ 29) (ht : t.size ≤ 2 ^ 48), Te 53 [.one (slT false 1 uR b), .one (sT t)] ⟨[.one (slT true 1 uR (putText b t))], [[slT false 1 uR b], [sT t]]⟩
theorem r_s_PutText {Te : Nat → List AV → Res → Prop} (c_s_PutW : C_s_PutW Te) : ∀ (b : List UInt8) (t : ByteArray) (h : b.length ≤ 2 ^ 29) (ht : t.size ≤ 2 ^ 48), RunFn Te x_s_PutText [.one (slT false 1 uR b), .one (sT t)] ⟨[.one (slT true 1 uR (putText b t))], [[slT false 1 uR b], [sT t]]⟩ := by
  intro b t h ht
  refine ⟨by simp -implicitDefEqProofs (maxSteps := 1000000) only [x_s_PutText, go_sem], ?_⟩
  simp -implicitDefEqProofs (maxSteps := 1000000) only [x_s_PutText, go_sem]
  refine ⟨fun q => ?_, fun q => ?_⟩
  · have q' : (t.size : Int) > 60 := by simpa using q
    simp only [putText, if_pos q']
    exact ⟨⟨decide_eq_true (by omega), decide_eq_true (by omega)⟩, trivial⟩
  · have q' : ¬ ((t.size : Int) > 60) := by simpa using q
    have q3 : t.data.toList.length = t.size := by rw [Array.length_toList]; rfl
    have el := putW_len b t.size
    have e1 : List.take (b.length + 2) (List.map uR (putW b t.size)) = List.map uR (putW b t.size) := List.take_of_length_le (by rw [List.length_map, el]; exact Nat.le_refl _)
    have e2 : List.take (b.length + 2 + t.data.toList.length) (List.map uR (putW b t.size) ++ List.map uR t.data.toList) = List.map uR (putW b t.size ++ t.data.toList) := by
      rw [List.take_of_length_le (by rw [List.length_append, List.length_map, List.length_map, el]; exact Nat.le_refl _), List.map_append]
    simp only [putText, if_neg q']
    refine .of (c_s_PutW b _ (by omega)) ?_
    simp -implicitDefEqProofs (maxSteps := 1000000) only [go_sem, ofBytes_eq, el, e1, e2]
    repeat (first | refine ⟨rfl, ?_⟩ | refine ⟨by decide, ?_⟩ | refine ⟨decide_eq_true (by omega), ?_⟩ | refine ⟨⟨decide_eq_true (by omega), decide_eq_true (by omega)⟩, ?_⟩)
    exact decide_eq_true (Nat.le_refl _)
def x_i_PutText : FnX := ⟨19, [.tmp 4],
  .seq (.reg [⟨none, some 4, 4, .mv (.k (.one (.nils 1)))⟩])
 (.seq (.seq (.reg [⟨none, some 5, 5, .mv (.t 1)⟩,
   ⟨none, some 6, 6, .slen (.t 5)⟩,
   ⟨none, some 7, 7, .bin .gtr (.t 6) (.k (.one (.pv (.int .i64 60))))⟩])
 (.cond 7 (.seq (.reg [⟨none, some 8, 8, .mv (.t 0)⟩,
   ⟨none, some 9, 9, .bslice 1 [(.t 8)]⟩,
   ⟨none, some 10, 10, .call 81 [0] [(.t 9)]⟩,
   ⟨none, some 4, 4, .mv (.t 10)⟩])
 (.ret)) (.skip)))
 (.seq (.reg [⟨none, some 11, 11, .mv (.t 0)⟩,
   ⟨none, some 12, 12, .mv (.t 1)⟩,
   ⟨none, some 13, 13, .slen (.t 12)⟩,
   ⟨none, some 14, 14, .call 57 [0, 0] [(.t 11), (.t 13)]⟩,
   ⟨none, some 15, 15, .mv (.t 1)⟩,
   ⟨none, some 16, 16, .conv .s2b (.t 15)⟩,
   ⟨none, some 17, 17, .bslice 1 [(.t 14), (.t 16)]⟩,
   ⟨none, some 18, 18, .call 81 [0] [(.t 17)]⟩,
   ⟨none, some 4, 4, .mv (.t 18)⟩])
 (.ret)))⟩
abbrev C_i_PutText (Te : Nat → List AV → Res → Prop) : Prop := ∀ (b : List UInt8) (t : ByteArray) (h : b.length ≤ 2 ^ 29) (ht : t.size ≤ 2 ^ 48), Te 56 [.one (slT false 1 uR b), .one (sT t)] ⟨[.one (slT true 1 uR (putText b t))], [[slT false 1 uR b], [sT t]]⟩
theorem r_i_PutText {Te : Nat → List AV → Res → Prop} (c_i_joined : C_i_joined Te) (c_i_PutW : C_i_PutW Te) : ∀ (b : List UInt8) (t : ByteArray) (h : b.length ≤ 2 ^ 29) (ht : t.size ≤ 2 ^ 48), RunFn Te x_i_PutText [.one (slT false 1 uR b), .one (sT t)] ⟨[.one (slT true 1 uR (putText b t))], [[slT false 1 uR b], [sT t]]⟩ := by
  intro b t h ht
  refine ⟨by simp -implicitDefEqProofs (maxSteps := 1000000) only [x_i_PutText, go_sem], ?_⟩
  simp -implicitDefEqProofs (maxSteps := 1000000) only [x_i_PutText, go_sem]
  refine ⟨fun q => ?_, fun q => ?_⟩
  · have q' : (t.size : Int) > 60 := by simpa using q
    simp only [putText, if_pos q']
    refine .of (c_i_joined [b] (by rw [flat1]; omega) (by show 1 ≤ 2 ^ 31; decide)) ?_
    simp -implicitDefEqProofs (maxSteps := 1000000) only [go_sem, flat1]
  · have q' : ¬ ((t.size : Int) > 60) := by simpa using q
    have q3 : t.data.toList.length = t.size := by rw [Array.length_toList]; rfl
    have el := putW_len b t.size
    simp only [putText, if_neg q']
    refine .of (c_i_PutW b _ (by omega)) ?_
    simp -implicitDefEqProofs (maxSteps := 1000000) only [go_sem, ofBytes_eq]
    repeat (first | refine ⟨rfl, ?_⟩ | refine ⟨by decide, ?_⟩ | refine ⟨decide_eq_true (by omega), ?_⟩ | refine ⟨⟨decide_eq_true (by omega), decide_eq_true (by omega)⟩, ?_⟩)
    refine .of (c_i_joined [putW b t.size, t.data.toList] (by rw [flat2, List.length_append, el]; omega) (by show 2 ≤ 2 ^ 31; decide)) ?_
    simp -implicitDefEqProofs (maxSteps := 1000000) only [go_sem, flat2]
    refine ⟨decide_eq_true (Nat.le_refl _), ?_⟩
    rw [List.take_of_length_le (by rw [List.length_map, List.length_append]; exact Nat.le_refl _)]
def msgBytes (m : Msg) : List UInt8 := putText (putText (putW [mkU m.Kind, mkU m.From, mkU m.To, mkU m.N, mkU m.Code] m.Seq) m.Key) m.Text
def putMsg (m : Msg) : List UInt8 := if m.ok = true then putW (msgBytes m) (sum (msgBytes m)) else []
theorem msgBytes_len (m : Msg) : (msgBytes m).length ≤ 200 := by
  have h1 := putText_len (putText (putW [mkU m.Kind, mkU m.From, mkU m.To, mkU m.N, mkU m.Code] m.Seq) m.Key) m.Text
  have h2 := putText_len (putW [mkU m.Kind, mkU m.From, mkU m.To, mkU m.N, mkU m.Code] m.Seq) m.Key
  have h3 := putW_len [mkU m.Kind, mkU m.From, mkU m.To, mkU m.N, mkU m.Code] m.Seq
  simp only [List.length_cons, List.length_nil] at h3
  unfold msgBytes
  omega
theorem putMsg_len (m : Msg) : (putMsg m).length ≤ 202 := by
  unfold putMsg
  split
  · rw [putW_len]; have := msgBytes_len m; omega
  · exact Nat.zero_le _
def x_i_PutMsg : FnX := ⟨37, [.tmp 2],
  .seq (.reg [⟨none, some 1, 1, .box (.t 0)⟩,
   ⟨none, some 2, 2, .mv (.k (.one (.nils 1)))⟩])
 (.seq (.seq (.reg [⟨none, some 4, 4, .load (some 8) (.t 1)⟩,
   ⟨none, some 5, 5, .call 49 [0] [(.t 4)]⟩,
   ⟨none, some 6, 6, .not (.t 5)⟩])
 (.cond 6 (.seq (.reg [⟨none, some 2, 2, .mv (.k (.one (.nils 1)))⟩])
 (.ret)) (.skip)))
 (.seq (.reg [⟨none, some 7, 7, .faddr (.t 1) 0⟩,
   ⟨none, some 8, 8, .load none (.t 7)⟩,
   ⟨none, some 9, 9, .conv (.int .u8) (.t 8)⟩,
   ⟨none, some 10, 10, .faddr (.t 1) 1⟩,
   ⟨none, some 11, 11, .load none (.t 10)⟩,
   ⟨none, some 12, 12, .conv (.int .u8) (.t 11)⟩,
   ⟨none, some 13, 13, .faddr (.t 1) 2⟩,
   ⟨none, some 14, 14, .load none (.t 13)⟩,
   ⟨none, some 15, 15, .conv (.int .u8) (.t 14)⟩,
   ⟨none, some 16, 16, .faddr (.t 1) 6⟩,
   ⟨none, some 17, 17, .load none (.t 16)⟩,
   ⟨none, some 18, 18, .conv (.int .u8) (.t 17)⟩,
   ⟨none, some 19, 19, .faddr (.t 1) 7⟩,
   ⟨none, some 20, 20, .load none (.t 19)⟩,
   ⟨none, some 21, 21, .conv (.int .u8) (.t 20)⟩,
   ⟨none, some 22, 22, .bslice 1 [(.t 9), (.t 12), (.t 15), (.t 18), (.t 21)]⟩,
   ⟨none, some 3, 3, .mv (.t 22)⟩])
 (.seq (.draw [⟨none, some 23, 23, .mv (.t 3)⟩,
   ⟨none, some 24, 24, .faddr (.t 1) 3⟩,
   ⟨none, some 25, 25, .load none (.t 24)⟩,
   ⟨none, some 26, 26, .call 57 [0, 0] [(.t 23), (.t 25)]⟩,
   ⟨none, some 27, 27, .faddr (.t 1) 4⟩,
   ⟨none, some 28, 28, .load none (.t 27)⟩,
   ⟨none, some 29, 29, .call 56 [0, 0] [(.t 26), (.t 28)]⟩,
   ⟨none, some 30, 30, .faddr (.t 1) 5⟩,
   ⟨none, some 31, 31, .load none (.t 30)⟩,
   ⟨none, some 32, 32, .call 56 [0, 0] [(.t 29), (.t 31)]⟩,
   ⟨none, some 3, 3, .mv (.t 32)⟩] [[], [], [1], [0, 2], [], [4], [3, 5, 3], [], [7], [6, 8, 6], [9, 9, 0, 1, 2, 3, 4, 5, 6, 7, 8, 9]])
 (.seq (.reg [⟨none, some 33, 33, .mv (.t 3)⟩,
   ⟨none, some 34, 34, .mv (.t 3)⟩,
   ⟨none, some 35, 35, .call 58 [0] [(.t 34)]⟩,
   ⟨none, some 36, 36, .call 57 [0, 0] [(.t 33), (.t 35)]⟩,
   ⟨none, some 2, 2, .mv (.t 36)⟩])
 (.ret)))))⟩
abbrev C_i_PutMsg (Te : Nat → List AV → Res → Prop) : Prop := ∀ (m : Msg) (h : m.In (2 ^ 48)), Te 14 [.agg m.row] ⟨[.one (slT true 1 uR (putMsg m))], [m.row]⟩
theorem r_i_PutMsg {Te : Nat → List AV → Res → Prop} (c_i_MsgOk : C_i_MsgOk Te) (c_i_PutW : C_i_PutW Te) (c_i_PutText : C_i_PutText Te) (c_i_Sum : C_i_Sum Te) : ∀ (m : Msg) (h : m.In (2 ^ 48)), RunFn Te x_i_PutMsg [.agg m.row] ⟨[.one (slT true 1 uR (putMsg m))], [m.row]⟩ := by
  intro m h
  refine ⟨by simp -implicitDefEqProofs (maxSteps := 1000000) only [x_i_PutMsg, go_sem], ?_⟩
  obtain ⟨hk, ht⟩ := h
  simp -implicitDefEqProofs (maxSteps := 1000000) only [x_i_PutMsg, go_sem]
  refine .of (c_i_MsgOk _) ?_
  cases hm : m.ok
  · simp -implicitDefEqProofs (maxSteps := 1000000) only [go_sem, putMsg, hm, if_false]
    rfl
  · simp -implicitDefEqProofs (maxSteps := 1000000) only [go_sem, putMsg, hm, if_true, mkU_wrap]
    refine .of (c_i_PutW [mkU m.Kind, mkU m.From, mkU m.To, mkU m.N, mkU m.Code] m.Seq (by show 5 ≤ 2 ^ 30; decide)) ?_
    simp -implicitDefEqProofs (maxSteps := 1000000) only [go_sem]
    have h2 := putText_len (putW [mkU m.Kind, mkU m.From, mkU m.To, mkU m.N, mkU m.Code] m.Seq) m.Key
    have h3 := putW_len [mkU m.Kind, mkU m.From, mkU m.To, mkU m.N, mkU m.Code] m.Seq
    have h4 : (putW [mkU m.Kind, mkU m.From, mkU m.To, mkU m.N, mkU m.Code] m.Seq).length = 7 := h3
    refine .of (c_i_PutText (putW [mkU m.Kind, mkU m.From, mkU m.To, mkU m.N, mkU m.Code] m.Seq) m.Key (by omega) hk) ?_
    simp -implicitDefEqProofs (maxSteps := 1000000) only [go_sem]
    refine .of (c_i_PutText (putText (putW [mkU m.Kind, mkU m.From, mkU m.To, mkU m.N, mkU m.Code] m.Seq) m.Key) m.Text (by omega) ht) ?_
    have h5 := msgBytes_len m
    have e : putText (putText (putW [mkU m.Kind, mkU m.From, mkU m.To, mkU m.N, mkU m.Code] m.Seq) m.Key) m.Text = msgBytes m := rfl
    simp -implicitDefEqProofs (maxSteps := 1000000) only [go_sem, e]
    repeat (first | refine ⟨rfl, ?_⟩ | refine ⟨by decide, ?_⟩ | refine ⟨decide_eq_true (by omega), ?_⟩ | refine ⟨⟨decide_eq_true (by omega), decide_eq_true (by omega)⟩, ?_⟩)
    refine .of (c_i_Sum (msgBytes m) (by omega)) ?_
    simp -implicitDefEqProofs (maxSteps := 1000000) only [go_sem]
    refine .of (c_i_PutW (msgBytes m) _ (by omega)) ?_
    simp -implicitDefEqProofs (maxSteps := 1000000) only [go_sem]
def x_s_PutMsg : FnX := ⟨38, [.tmp 2],
  .seq (.reg [⟨none, some 1, 1, .box (.t 0)⟩,
   ⟨none, some 2, 2, .mv (.k (.one (.nils 1)))⟩])
 (.seq (.seq (.reg [⟨none, some 4, 4, .load (some 8) (.t 1)⟩,
   ⟨none, some 5, 5, .call 50 [0] [(.t 4)]⟩,
   ⟨none, some 6, 6, .not (.t 5)⟩])
 (.cond 6 (.seq (.reg [⟨none, some 7, 7, .bslice 1 []⟩,
   ⟨none, some 2, 2, .mv (.t 7)⟩])
 (.ret)) (.skip)))
 (.seq (.reg [⟨none, some 8, 8, .faddr (.t 1) 0⟩,
   ⟨none, some 9, 9, .load none (.t 8)⟩,
   ⟨none, some 10, 10, .conv (.int .u8) (.t 9)⟩,
   ⟨none, some 11, 11, .faddr (.t 1) 1⟩,
   ⟨none, some 12, 12, .load none (.t 11)⟩,
   ⟨none, some 13, 13, .conv (.int .u8) (.t 12)⟩,
   ⟨none, some 14, 14, .faddr (.t 1) 2⟩,
   ⟨none, some 15, 15, .load none (.t 14)⟩,
   ⟨none, some 16, 16, .conv (.int .u8) (.t 15)⟩,
   ⟨none, some 17, 17, .faddr (.t 1) 6⟩,
   ⟨none, some 18, 18, .load none (.t 17)⟩,
   ⟨none, some 19, 19, .conv (.int .u8) (.t 18)⟩,
   ⟨none, some 20, 20, .faddr (.t 1) 7⟩,
   ⟨none, some 21, 21, .load none (.t 20)⟩,
   ⟨none, some 22, 22, .conv (.int .u8) (.t 21)⟩,
   ⟨none, some 23, 23, .bslice 1 [(.t 10), (.t 13), (.t 16), (.t 19), (.t 22)]⟩,
   ⟨none, some 3, 3, .mv (.t 23)⟩])
 (.seq (.draw [⟨none, some 24, 24, .mv (.t 3)⟩,
   ⟨none, some 25, 25, .faddr (.t 1) 3⟩,
   ⟨none, some 26, 26, .load none (.t 25)⟩,
   ⟨none, some 27, 27, .call 54 [0, 0] [(.t 24), (.t 26)]⟩,
   ⟨none, some 28, 28, .faddr (.t 1) 4⟩,
   ⟨none, some 29, 29, .load none (.t 28)⟩,
   ⟨none, some 30, 30, .call 53 [0, 0] [(.t 27), (.t 29)]⟩,
   ⟨none, some 31, 31, .faddr (.t 1) 5⟩,
   ⟨none, some 32, 32, .load none (.t 31)⟩,
   ⟨none, some 33, 33, .call 53 [0, 0] [(.t 30), (.t 32)]⟩,
   ⟨none, some 3, 3, .mv (.t 33)⟩] [[], [], [1], [0, 2], [], [4], [3, 5, 3], [], [7], [6, 8, 6], [9, 9, 0, 1, 2, 3, 4, 5, 6, 7, 8, 9]])
 (.seq (.reg [⟨none, some 34, 34, .mv (.t 3)⟩,
   ⟨none, some 35, 35, .mv (.t 3)⟩,
   ⟨none, some 36, 36, .call 55 [0] [(.t 35)]⟩,
   ⟨none, some 37, 37, .call 54 [0, 0] [(.t 34), (.t 36)]⟩,
   ⟨none, some 2, 2, .mv (.t 37)⟩])
 (.ret)))))⟩
abbrev C_s_PutMsg (Te : Nat → List AV → Res → Prop) : Prop := ∀ (m : Msg) (h : m.In (2 ^ 48)), Te 12 [.agg m.row] ⟨[.one (slT true 1 uR (putMsg m))], [m.row]⟩
theorem r_s_PutMsg {Te : Nat → List AV → Res → Prop} (c_s_MsgOk : C_s_MsgOk Te) (c_s_PutW : C_s_PutW Te) (c_s_PutText : C_s_PutText Te) (c_s_Sum : C_s_Sum Te) : ∀ (m : Msg) (h : m.In (2 ^ 48)), RunFn Te x_s_PutMsg [.agg m.row] ⟨[.one (slT true 1 uR (putMsg m))], [m.row]⟩ := by
  intro m h
  refine ⟨by simp -implicitDefEqProofs (maxSteps := 1000000) only [x_s_PutMsg, go_sem], ?_⟩
  obtain ⟨hk, ht⟩ := h
  simp -implicitDefEqProofs (maxSteps := 1000000) only [x_s_PutMsg, go_sem]
  refine .of (c_s_MsgOk _) ?_
  cases hm : m.ok
  · simp -implicitDefEqProofs (maxSteps := 1000000) only [go_sem, putMsg, hm, if_false]
    rfl
  · simp -implicitDefEqProofs (maxSteps := 1000000) only [go_sem, putMsg, hm, if_true, mkU_wrap]
    refine .of (c_s_PutW [mkU m.Kind, mkU m.From, mkU m.To, mkU m.N, mkU m.Code] m.Seq (by show 5 ≤ 2 ^ 30; decide)) ?_
    simp -implicitDefEqProofs (maxSteps := 1000000) only [go_sem]
    have h2 := putText_len (putW [mkU m.Kind, mkU m.From, mkU m.To, mkU m.N, mkU m.Code] m.Seq) m.Key
    have h3 := putW_len [mkU m.Kind, mkU m.From, mkU m.To, mkU m.N, mkU m.Code] m.Seq
    have h4 : (putW [mkU m.Kind, mkU m.From, mkU m.To, mkU m.N, mkU m.Code] m.Seq).length = 7 := h3
    refine .of (c_s_PutText (putW [mkU m.Kind, mkU m.From, mkU m.To, mkU m.N, mkU m.Code] m.Seq) m.Key (by omega) hk) ?_
    simp -implicitDefEqProofs (maxSteps := 1000000) only [go_sem]
    refine .of (c_s_PutText (putText (putW [mkU m.Kind, mkU m.From, mkU m.To, mkU m.N, mkU m.Code] m.Seq) m.Key) m.Text (by omega) ht) ?_
    have h5 := msgBytes_len m
    have e : putText (putText (putW [mkU m.Kind, mkU m.From, mkU m.To, mkU m.N, mkU m.Code] m.Seq) m.Key) m.Text = msgBytes m := rfl
    simp -implicitDefEqProofs (maxSteps := 1000000) only [go_sem, e]
    repeat (first | refine ⟨rfl, ?_⟩ | refine ⟨by decide, ?_⟩ | refine ⟨decide_eq_true (by omega), ?_⟩ | refine ⟨⟨decide_eq_true (by omega), decide_eq_true (by omega)⟩, ?_⟩)
    refine .of (c_s_Sum (msgBytes m) (by omega)) ?_
    simp -implicitDefEqProofs (maxSteps := 1000000) only [go_sem]
    refine .of (c_s_PutW (msgBytes m) _ (by omega)) ?_
    simp -implicitDefEqProofs (maxSteps := 1000000) only [go_sem]
end Go.X

/- W_PutMsg -/
namespace Go.X
set_option maxRecDepth 100000
set_option maxHeartbeats 8000000
def x_l_FnExactPutMsg : FnX := ⟨50, [.tmp 2],
  .seq (.reg [⟨none, some 1, 1, .box (.t 0)⟩,
   ⟨none, some 2, 2, .mv (.k (.one (.pv (.bool false))))⟩])
 (.seq (.reg [⟨none, some 3, 3, .mv (.k (.one (.pv (.int .i64 1048576))))⟩])
 (.seq (.reg [⟨none, some 9, 9, .load (some 8) (.t 1)⟩,
   ⟨none, some 10, 10, .mv (.t 3)⟩,
   ⟨none, some 11, 11, .call 11 [0, 0] [(.t 9), (.t 10)]⟩,
   ⟨none, some 3, 3, .mv (.t 11)⟩])
 (.seq (.seq (.reg [⟨none, some 12, 12, .mv (.t 3)⟩,
   ⟨none, some 13, 13, .bin .lss (.t 12) (.k (.one (.pv (.int .i64 0))))⟩])
 (.cond 13 (.seq (.reg [⟨none, some 2, 2, .mv (.k (.one (.pv (.bool true))))⟩])
 (.ret)) (.skip)))
 (.seq (.reg [⟨none, some 14, 14, .load (some 8) (.t 1)⟩,
   ⟨none, some 15, 15, .call 13 [0] [(.t 14)]⟩,
   ⟨none, some 16, 16, .call 12 [0] [(.t 15)]⟩,
   ⟨none, some 4, 4, .mv (.t 16)⟩])
 (.seq (.reg [⟨none, some 17, 17, .load (some 8) (.t 1)⟩,
   ⟨none, some 18, 18, .call 13 [0] [(.t 17)]⟩,
   ⟨none, some 19, 19, .call 14 [0] [(.t 18)]⟩,
   ⟨none, some 5, 5, .mv (.t 19)⟩])
 (.seq (.seq (.reg [⟨none, some 20, 20, .mv (.t 5)⟩,
   ⟨none, some 21, 21, .mv (.t 4)⟩,
   ⟨none, some 22, 22, .call 15 [0, 0] [(.t 20), (.t 21)]⟩,
   ⟨none, some 23, 23, .not (.t 22)⟩])
 (.cond 23 (.seq (.reg [⟨none, some 2, 2, .mv (.k (.one (.pv (.bool false))))⟩])
 (.ret)) (.skip)))
 (.seq (.reg [⟨none, some 6, 6, .mv (.k (.one (.pv (.int .i64 1))))⟩])
 (.seq (.reg [⟨none, some 24, 24, .mv (.t 5)⟩,
   ⟨none, some 25, 25, .mv (.t 6)⟩,
   ⟨none, some 26, 26, .io 16 (.t 24) [(.t 25)]⟩,
   ⟨none, some 6, 6, .mv (.t 26)⟩])
 (.seq (.reg [⟨none, some 7, 7, .mv (.k (.one (.pv (.int .i64 1))))⟩])
 (.seq (.reg [⟨none, some 27, 27, .mv (.t 5)⟩,
   ⟨none, some 28, 28, .mv (.t 7)⟩,
   ⟨none, some 29, 29, .call 17 [0, 0] [(.t 27), (.t 28)]⟩,
   ⟨none, some 7, 7, .mv (.t 29)⟩])
 (.seq (.seq (.reg [⟨none, some 30, 30, .mv (.t 7)⟩,
   ⟨none, some 31, 31, .bin .lss (.t 30) (.k (.one (.pv (.int .i64 0))))⟩])
 (.cond 31 (.seq (.reg [⟨none, some 2, 2, .mv (.k (.one (.pv (.bool false))))⟩])
 (.ret)) (.skip)))
 (.seq (.seq (.reg [⟨none, some 32, 32, .mv (.t 7)⟩,
   ⟨none, some 33, 33, .mv (.t 6)⟩,
   ⟨none, some 34, 34, .bin .neq (.t 32) (.t 33)⟩])
 (.cond 34 (.seq (.reg [⟨none, some 2, 2, .mv (.k (.one (.pv (.bool false))))⟩])
 (.ret)) (.skip)))
 (.seq (.reg [⟨none, some 35, 35, .load (some 8) (.t 1)⟩,
   ⟨none, some 36, 36, .call 13 [0] [(.t 35)]⟩,
   ⟨none, some 37, 37, .call 14 [0] [(.t 36)]⟩,
   ⟨none, some 8, 8, .mv (.t 37)⟩])
 (.seq (.seq (.reg [⟨none, some 38, 38, .mv (.t 8)⟩,
   ⟨none, some 39, 39, .mv (.t 4)⟩,
   ⟨none, some 40, 40, .call 15 [0, 0] [(.t 38), (.t 39)]⟩,
   ⟨none, some 41, 41, .not (.t 40)⟩])
 (.cond 41 (.seq (.reg [⟨none, some 2, 2, .mv (.k (.one (.pv (.bool false))))⟩])
 (.ret)) (.skip)))
 (.seq (.reg [⟨none, some 7, 7, .mv (.k (.one (.pv (.int .i64 1))))⟩])
 (.seq (.reg [⟨none, some 42, 42, .mv (.t 5)⟩,
   ⟨none, some 43, 43, .mv (.t 7)⟩,
   ⟨none, some 44, 44, .call 17 [0, 0] [(.t 42), (.t 43)]⟩,
   ⟨none, some 7, 7, .mv (.t 44)⟩])
 (.seq (.seq (.reg [⟨none, some 45, 45, .mv (.t 7)⟩,
   ⟨none, some 46, 46, .bin .lss (.t 45) (.k (.one (.pv (.int .i64 0))))⟩])
 (.cond 46 (.seq (.reg [⟨none, some 2, 2, .mv (.k (.one (.pv (.bool false))))⟩])
 (.ret)) (.skip)))
 (.seq (.seq (.reg [⟨none, some 47, 47, .mv (.t 7)⟩,
   ⟨none, some 48, 48, .mv (.t 6)⟩,
   ⟨none, some 49, 49, .bin .neq (.t 47) (.t 48)⟩])
 (.cond 49 (.seq (.reg [⟨none, some 2, 2, .mv (.k (.one (.pv (.bool false))))⟩])
 (.ret)) (.skip)))
 (.seq (.reg [⟨none, some 2, 2, .mv (.k (.one (.pv (.bool true))))⟩])
 (.ret))))))))))))))))))))⟩
abbrev C_l_FnExactPutMsg (Te : Nat → List AV → Res → Prop) : Prop := ∀ (aM : Msg) (h_aM : aM.In (2 ^ 48)), Te 3 [.agg aM.row] ⟨[.one (bT true)], [aM.row]⟩
theorem r_l_FnExactPutMsg {Te : Nat → List AV → Res → Prop} (c_l_szMsg : C_l_szMsg Te) (c_l_toMsg : C_l_toMsg Te) (c_s_PutMsg : C_s_PutMsg Te) (c_i_PutMsg : C_i_PutMsg Te) (c_l_eqByteS : C_l_eqByteS Te) (c_l_markByteS : C_l_markByteS Te) (c_l_heldByteS : C_l_heldByteS Te) : ∀ (aM : Msg) (h_aM : aM.In (2 ^ 48)), RunFn Te x_l_FnExactPutMsg [.agg aM.row] ⟨[.one (bT true)], [aM.row]⟩ := by
  intro aM h_aM
  refine ⟨by simp -implicitDefEqProofs (maxSteps := 1000000) only [x_l_FnExactPutMsg, go_sem], ?_⟩
  simp -implicitDefEqProofs (maxSteps := 1000000) only [x_l_FnExactPutMsg, go_sem]
  refine .of (c_l_szMsg aM (1048576) h_aM (by omega)) ?_
  simp -implicitDefEqProofs (maxSteps := 1000000) only [go_sem]
  refine fun q0 => ?_
  replace q0 : 0 ≤ (szMsg aM (1048576)) := by simpa using q0
  have cb_aM : (0 : Int) ≤ (1048576) ∧ (1048576) ≤ (1048576 : Int) := by omega
  have n_aM : aM.In (1048576) := szMsg_in (n := 1048576) cb_aM.1 cb_aM.2 q0
  have b_aM : 0 ≤ (szMsg aM (1048576)) ∧ (szMsg aM (1048576)) ≤ 1048576 := ⟨q0, Int.le_trans (szMsg_sane aM _ cb_aM.1) cb_aM.2⟩
  refine .of (c_l_toMsg aM) ?_
  simp -implicitDefEqProofs (maxSteps := 1000000) only [go_sem, eq_self, bne_self_eq_false, Bool.xor_self, true_implies, false_implies, marks_length, marks_take, take_map]
  repeat (first | refine ⟨rfl, ?_⟩ | refine ⟨by decide, ?_⟩ | refine ⟨⟨by decide, by decide⟩, ?_⟩)
  refine .of (c_s_PutMsg _ (n_aM.mono (by decide))) ?_
  simp -implicitDefEqProofs (maxSteps := 1000000) only [go_sem, eq_self, bne_self_eq_false, Bool.xor_self, true_implies, false_implies, marks_length, marks_take, take_map]
  repeat (first | refine ⟨rfl, ?_⟩ | refine ⟨by decide, ?_⟩ | refine ⟨⟨by decide, by decide⟩, ?_⟩)
  refine .of (c_l_toMsg aM) ?_
  simp -implicitDefEqProofs (maxSteps := 1000000) only [go_sem, eq_self, bne_self_eq_false, Bool.xor_self, true_implies, false_implies, marks_length, marks_take, take_map]
  repeat (first | refine ⟨rfl, ?_⟩ | refine ⟨by decide, ?_⟩ | refine ⟨⟨by decide, by decide⟩, ?_⟩)
  refine .of (c_i_PutMsg _ (n_aM.mono (by decide))) ?_
  simp -implicitDefEqProofs (maxSteps := 1000000) only [go_sem, eq_self, bne_self_eq_false, Bool.xor_self, true_implies, false_implies, marks_length, marks_take, take_map]
  repeat (first | refine ⟨rfl, ?_⟩ | refine ⟨by decide, ?_⟩ | refine ⟨⟨by decide, by decide⟩, ?_⟩)
  refine .of (c_l_eqByteS (putMsg aM) (putMsg aM) (Nat.le_trans (putMsg_len aM) (by decide))) ?_
  simp -implicitDefEqProofs (maxSteps := 1000000) only [go_sem, eq_self, bne_self_eq_false, Bool.xor_self, true_implies, false_implies, marks_length, marks_take, take_map]
  repeat (first | refine ⟨rfl, ?_⟩ | refine ⟨by decide, ?_⟩ | refine ⟨⟨by decide, by decide⟩, ?_⟩)
  refine .of (c_l_markByteS (putMsg aM) 1 (Nat.le_trans (putMsg_len aM) (by decide)) (by omega)) ?_
  simp -implicitDefEqProofs (maxSteps := 1000000) only [go_sem, eq_self, bne_self_eq_false, Bool.xor_self, true_implies, false_implies, marks_length, marks_take, take_map]
  repeat (first | refine ⟨rfl, ?_⟩ | refine ⟨by decide, ?_⟩ | refine ⟨⟨by decide, by decide⟩, ?_⟩)
  refine .of (c_l_heldByteS (putMsg aM).length 1 (Nat.le_trans (putMsg_len aM) (by decide)) (by omega)) ?_
  simp -implicitDefEqProofs (maxSteps := 1000000) only [go_sem, eq_self, bne_self_eq_false, Bool.xor_self, true_implies, false_implies, marks_length, marks_take, take_map]
  repeat (first | refine ⟨rfl, ?_⟩ | refine ⟨by decide, ?_⟩ | refine ⟨⟨by decide, by decide⟩, ?_⟩)
  have f_q : decide (((1 : Int) + (1 * (putMsg aM).length : Nat)) < 0) = false := decide_eq_false (by omega)
  simp -implicitDefEqProofs (maxSteps := 1000000) only [f_q, go_sem, true_implies, false_implies, marks_length, marks_take, take_map]
  repeat (first | refine ⟨rfl, ?_⟩ | refine ⟨by decide, ?_⟩ | refine ⟨⟨by decide, by decide⟩, ?_⟩)
  try (simp -implicitDefEqProofs (maxSteps := 1000000) only [bne_self_eq_false, go_sem, true_implies, false_implies, marks_length, marks_take, take_map])
  refine .of (c_l_toMsg aM) ?_
  simp -implicitDefEqProofs (maxSteps := 1000000) only [go_sem, eq_self, bne_self_eq_false, Bool.xor_self, true_implies, false_implies, marks_length, marks_take, take_map]
  repeat (first | refine ⟨rfl, ?_⟩ | refine ⟨by decide, ?_⟩ | refine ⟨⟨by decide, by decide⟩, ?_⟩)
  refine .of (c_i_PutMsg _ (n_aM.mono (by decide))) ?_
  simp -implicitDefEqProofs (maxSteps := 1000000) only [go_sem, eq_self, bne_self_eq_false, Bool.xor_self, true_implies, false_implies, marks_length, marks_take, take_map]
  repeat (first | refine ⟨rfl, ?_⟩ | refine ⟨by decide, ?_⟩ | refine ⟨⟨by decide, by decide⟩, ?_⟩)
  refine .of (c_l_eqByteS (putMsg aM) (putMsg aM) (Nat.le_trans (putMsg_len aM) (by decide))) ?_
  simp -implicitDefEqProofs (maxSteps := 1000000) only [go_sem, eq_self, bne_self_eq_false, Bool.xor_self, true_implies, false_implies, marks_length, marks_take, take_map]
  repeat (first | refine ⟨rfl, ?_⟩ | refine ⟨by decide, ?_⟩ | refine ⟨⟨by decide, by decide⟩, ?_⟩)
  refine .of (c_l_heldByteS (putMsg aM).length 1 (Nat.le_trans (putMsg_len aM) (by decide)) (by omega)) ?_
  simp -implicitDefEqProofs (maxSteps := 1000000) only [go_sem, eq_self, bne_self_eq_false, Bool.xor_self, true_implies, false_implies, marks_length, marks_take, take_map]
  repeat (first | refine ⟨rfl, ?_⟩ | refine ⟨by decide, ?_⟩ | refine ⟨⟨by decide, by decide⟩, ?_⟩)
  simp -implicitDefEqProofs (maxSteps := 1000000) only [f_q, go_sem, true_implies, false_implies, marks_length, marks_take, take_map]
  repeat (first | refine ⟨rfl, ?_⟩ | refine ⟨by decide, ?_⟩ | refine ⟨⟨by decide, by decide⟩, ?_⟩)
  try (simp -implicitDefEqProofs (maxSteps := 1000000) only [bne_self_eq_false, go_sem, true_implies, false_implies, marks_length, marks_take, take_map])
end Go.X

