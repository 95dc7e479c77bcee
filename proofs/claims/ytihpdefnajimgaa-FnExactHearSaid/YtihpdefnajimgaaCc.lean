/- Texts: XOpen CA CB CC CD CF CG CH CI CW_Hear. -/
import Derived.Test.YtihpdefnajimgaaCb
import Derived.SizedLaws
import Derived.Deep.Slices
import Derived.ChangeArms
import Derived.WideShapes
import Derived.Below
set_option linter.unusedVariables false
set_option linter.unusedSimpArgs false
/- How what comes in reads; how a law is asked. -/
namespace Go.X
open Go.WideShapes Go.RowKit
def Old (w : World) : Nat → Prop := fun b => b < w.heap.size
def RdL (S : Nat → Prop) (w : World) (ts : List T) (vs : List Value) : Prop := ts.length = vs.length ∧ ∀ (k : Nat) (t : T) (v : Value), ts[k]? = some t → vs[k]? = some v → Rd S w t v
theorem RdL.app {S : Nat → Prop} {w : World} {a b : List T} {vs us : List Value} (h : RdL S w a vs) (h' : RdL S w b us) : RdL S w (a ++ b) (vs ++ us) :=
  ⟨by simp [h.1, h'.1], fun k t v ht hv => by
    by_cases hk : k < a.length
    · rw [List.getElem?_append_left hk] at ht
      rw [List.getElem?_append_left (by have := h.1; omega)] at hv
      exact h.2 k t v ht hv
    · rw [List.getElem?_append_right (by omega)] at ht
      rw [List.getElem?_append_right (by have := h.1; omega), ← h.1] at hv
      exact h'.2 _ t v ht hv⟩
theorem RdL.one {S : Nat → Prop} {w : World} {t : T} {v : Value} (h : Rd S w t v) : RdL S w [t] [v] := ⟨rfl, fun k t' v' ht hv => by
  cases k with
  | zero => simp at ht hv; subst ht; subst hv; exact h
  | succ k => simp at ht⟩
/-- Every reading of type t is a value that is told so and meets p. -/
def OpT {α : Type} (P : Program) (t : TypeId) (e : α → List T) (p : α → Prop) : Prop :=
  ∀ (H : Type) (enc : TypeId × Value → H) (w : World) (fuel : Nat) (cs : List Value) (x : DataW H × List MemPlace), DataW.trod enc P w 0 (fun _ => true) true fuel t cs = some x →
    (∀ n ∈ x.1.weights P t, n ≤ 140737488351232) → ∃ a, p a ∧ RdL (Old w) w (e a) cs
def FT {α : Type} (P : Program) (fs : List Field) (off z : Nat) (e : α → List T) (p : α → Prop) : Prop :=
  ∀ (H : Type) (enc : TypeId × Value → H) (w : World) (n : Nat) (cs : List Value) (xs : List (DataW H × List MemPlace)),
    (∀ (i : Nat) (f : Field), fs[i]? = some f → DataW.trod enc P w 0 (fun _ => true) true n f.type ((cs.drop f.offset).take (P.cellsOf f.type)) = xs[i]?) → xs.length = fs.length →
    (∀ m ∈ DataW.weightsEach P (fs.map (·.type)) (xs.map (·.1)), m ≤ 140737488351232) → cs.length = off + z → ∃ a, p a ∧ RdL (Old w) w (e a) (cs.drop off)
def InI (k : IntKind) (a : Int) : Prop := (Lit.int k a).wf = true
section
variable {P : Program} {t : TypeId}
theorem OpT.int {k : IntKind} (ht : P.underlying t = some (.int k)) : OpT P t (fun a => [.pv (.int k a)]) (InI k) := fun H enc w fuel cs x h _ => by
  obtain ⟨n, rfl, _, hw⟩ := DataW.trod_int ht h
  exact ⟨n, hw, .one (.pv rfl)⟩
theorem OpT.bool (ht : P.underlying t = some .bool) : OpT P t (fun a => [.pv (.bool a)]) (fun _ => True) := fun H enc w fuel cs x h _ => by
  obtain ⟨n, rfl, _⟩ := DataW.trod_bool ht h
  exact ⟨n, trivial, .one (.pv rfl)⟩
theorem OpT.string (ht : P.underlying t = some .string) : OpT P t (fun a => [.pv (.string a)]) (fun a => a.size ≤ 140737488351232) := fun H enc w fuel cs x h hw => by
  obtain ⟨s, rfl, rfl, hs⟩ := DataW.trod_string ht h
  refine ⟨s, ?_, .one (.pv rfl)⟩
  have := hw s.data.toList.length (by simp [DataW.weights])
  simpa using this
theorem old_of_cell {w : World} {ad : Addr} {v : Value} (h : w.cell? ad = some v) : ad.block < w.heap.size := by
  unfold World.cell? at h
  cases hb : w.heap[ad.block]? with
  | none => simp [hb] at h
  | some _ => exact (Array.getElem?_eq_some_iff.1 hb).1
theorem mem_allW {H : Type} {e : TypeId} {d : DataW H} {n : Nat} (hn : n ∈ d.weights P e) : ∀ {l : List (DataW H)}, d ∈ l → n ∈ DataW.weightsAll P e l
  | [], h => by cases h
  | y :: l, h => by
    simp only [DataW.weightsAll, List.mem_append]
    rcases List.mem_cons.1 h with rfl | h
    · exact .inl hn
    · exact .inr (mem_allW hn h)
theorem OpT.slice {α : Type} {e : TypeId} {en : α → List T} {p : α → Prop} (z B : Nat) (ht : P.underlying t = some (.slice e)) (hc : P.cellsOf e = z) (hB : P.bytesOf e = B) (h : OpT P e en p) :
    OpT P t (fun l : List α => [.sl false z () (l.map en)]) (fun l => l.length * B ≤ 140737488351232 ∧ ∀ a ∈ l, p a) := fun H enc w fuel cs x hx hw => by
  rcases Deep.open_slice ht hx with ⟨rfl, rfl⟩ | ⟨ad, len, cap, m, n, D, Pl, rfl, _, hl, hm, hmm, rfl, hel⟩
  · refine ⟨[], ⟨by simp, fun _ h => by cases h⟩, .one ?_⟩
    exact Rd.sl (rows := []) (fun _ _ => undef) (Nat.le_refl _) (by simp [maxLen]) (fun r hr => by cases hr) (fun i r j t hr => by simp at hr) (fun i r j t hr => by simp at hr)
  · simp only [if_true] at hmm
    replace hmm := hmm.symm
    subst hmm
    have hel' : ∀ i, i < len → ∃ a, p a ∧ ∃ c : List Value, c.length = z ∧ RdL (Old w) w (en a) c ∧ ∀ j u, c[j]? = some u → w.cell? (ad.add (i * z + j)) = some u := fun i hi => by
      obtain ⟨c, h1, h2⟩ := hel i (by omega)
      have hww : ∀ k ∈ (D i).weights P e, k ≤ 140737488351232 := fun k hk => hw k (by
        simp only [DataW.weights, ht, List.mem_cons, List.mem_append]
        exact .inr (.inl (mem_allW hk (List.mem_map.2 ⟨i, by simpa using hi, rfl⟩))))
      obtain ⟨a, hpa, ha⟩ := h H enc w n c _ h2 hww
      obtain ⟨_, hlen, hcell⟩ := World.cells?_some h1
      refine ⟨a, hpa, c, hlen.trans hc, ha, fun j u hu => ?_⟩
      have hj : j < c.length := (List.getElem?_eq_some_iff.1 hu).1
      have := hcell j (by omega)
      rw [hu, Deep.add_add, hc] at this
      exact this
    have : ∃ l : List α, l.length = len ∧ ∀ i a, l[i]? = some a → p a ∧ ∃ c : List Value, c.length = z ∧ RdL (Old w) w (en a) c ∧ ∀ j u, c[j]? = some u → w.cell? (ad.add (i * z + j)) = some u := by
      clear hx hw hel hl
      induction len with
      | zero => exact ⟨[], rfl, fun i a h => by simp at h⟩
      | succ len ih =>
        obtain ⟨l, hl, hh⟩ := ih (fun i hi => hel' i (by omega))
        obtain ⟨a, ha⟩ := hel' len (by omega)
        refine ⟨l ++ [a], by simp [hl], fun i b hb => ?_⟩
        by_cases hi : i < l.length
        · exact hh i b (by rwa [List.getElem?_append_left hi] at hb)
        · have hi' : i = len := by
            have := (List.getElem?_eq_some_iff.1 hb).1
            simp at this
            omega
          subst hi'
          rw [List.getElem?_append_right (by omega), hl] at hb
          simp at hb
          subst hb
          exact ha
    obtain ⟨l, hll, hh⟩ := this
    have hsz : len * B ≤ 140737488351232 := by
      have z := hw ((((List.range len).map D).length + ((List.range (cap - len)).map fun j => D (len + j)).length) * P.bytesOf e) (by simp [DataW.weights, ht])
      rw [hB] at z
      simp only [List.length_map, List.length_range] at z
      exact Nat.le_trans (Nat.mul_le_mul_right _ (by omega)) z
    refine ⟨l, ⟨by rw [hll]; exact hsz, fun a ha => ?_⟩, .one ?_⟩
    · obtain ⟨i, hi, rfl⟩ := List.mem_iff_getElem.1 ha
      exact (hh i _ (List.getElem?_eq_getElem hi)).1
    · have key : ∀ i r j t, (l.map en)[i]? = some r → r[j]? = some t → w.cell? (ad.add (i * z + j)) = some ((w.cell? (ad.add (i * z + j))).getD undef) ∧ Rd (Old w) w t ((w.cell? (ad.add (i * z + j))).getD undef) := fun i r j t hr hj => by
        rw [List.getElem?_map] at hr
        cases hi : l[i]? with
        | none => simp [hi] at hr
        | some a =>
          simp [hi] at hr
          subst hr
          obtain ⟨_, c, h1, h2, h3⟩ := hh i a hi
          have hjl : j < c.length := by rw [← h2.1]; exact (List.getElem?_eq_some_iff.1 hj).1
          have h4 := h3 j c[j] (List.getElem?_eq_getElem hjl)
          rw [h4]
          exact ⟨rfl, h2.2 j t _ hj (List.getElem?_eq_getElem hjl)⟩
      have := Rd.sl (S := Old w) (w := w) (z := z) (cap := cap) (a := some ad) (rows := l.map en) (fun i j => (w.cell? (ad.add (i * z + j))).getD undef) (by simp; omega) hm (fun r hr => by
        obtain ⟨a, ha, rfl⟩ := List.mem_map.1 hr
        obtain ⟨i, hi, rfl⟩ := List.mem_iff_getElem.1 ha
        obtain ⟨_, c, h1, h2, h3⟩ := hh i _ (List.getElem?_eq_getElem hi)
        rw [h2.1, h1]) (fun i r j t hr hj => by
        obtain ⟨h1, h2⟩ := key i r j t hr hj
        refine ⟨ad, rfl, ?_, h1⟩
        have := old_of_cell h1
        rwa [add_block] at this) (fun i r j t hr hj => (key i r j t hr hj).2)
      rw [List.length_map, hll] at this
      exact this
theorem FT.one {α : Type} {e : α → List T} {p : α → Prop} {f : Field} {off z : Nat} (ho : f.offset = off) (hc : P.cellsOf f.type = z) (h : OpT P f.type e p) : FT P [f] off z e p := fun H enc w n cs xs hx hl hw hlen => by
  match xs, hl with
  | [x], _ =>
    have h0 := hx 0 f rfl
    rw [ho, hc, List.take_of_length_le (by rw [List.length_drop]; omega)] at h0
    exact h H enc w n _ x (by simpa using h0) (fun m hm => hw m (by simp only [List.map_cons, List.map_nil, DataW.weightsEach, List.append_nil]; exact hm))
theorem FT.cons {α β : Type} {e : α → List T} {e' : β → List T} {p : α → Prop} {p' : β → Prop} {f : Field} {fs : List Field} {off z z' : Nat} (ho : f.offset = off) (hc : P.cellsOf f.type = z) (h : OpT P f.type e p) (h' : FT P fs (off + z) z' e' p') :
    FT P (f :: fs) off (z + z') (fun a : α × β => e a.1 ++ e' a.2) (fun a => p a.1 ∧ p' a.2) := fun H enc w n cs xs hx hl hw hlen => by
  match xs, hl with
  | x :: xs, hl =>
    have h0 := hx 0 f rfl
    rw [ho, hc] at h0
    obtain ⟨a, hpa, ha⟩ := h H enc w n _ x (by simpa using h0) (fun m hm => hw m (by simp only [List.map_cons, DataW.weightsEach, List.mem_append]; exact .inl hm))
    obtain ⟨b, hpb, hb⟩ := h' H enc w n cs xs (fun i g hg => by simpa using hx (i + 1) g (by simpa using hg)) (by simpa using hl)
      (fun m hm => hw m (by simp only [List.map_cons, DataW.weightsEach, List.mem_append]; exact .inr hm)) (by omega)
    refine ⟨(a, b), ⟨hpa, hpb⟩, ?_⟩
    have := ha.app hb
    rwa [← List.drop_drop, List.take_append_drop] at this
theorem OpT.struct {α β : Type} {e : α → List T} {e' : β → List T} {p : α → Prop} {q : β → Prop} {fs : Array Field} {z : Nat} (ht : P.underlying t = some (.struct fs)) (hc : P.cellsOf t = z) (h : FT P fs.toList 0 z e p) (g : α → β) (hg : ∀ a, e' (g a) = e a) (hq : ∀ a, p a → q (g a)) :
    OpT P t e' q := fun H enc w fuel cs x hx hw => by
  obtain ⟨xs, n, _, rfl, hl, hlen, hf⟩ := DataW.trod_struct ht hx
  obtain ⟨a, hpa, ha⟩ := h H enc w n cs xs (fun i f hi => hf i f (by simpa using hi)) (by simpa using hlen) (fun m hm => hw m (by simpa only [DataW.weights, ht] using hm)) (by omega)
  exact ⟨g a, hq a hpa, by rw [hg]; simpa using ha⟩
theorem OpT.weaken {α : Type} {e : α → List T} {p q : α → Prop} (h : OpT P t e p) (hq : ∀ a, p a → q a) : OpT P t e q := fun H enc w fuel cs x hx hw => by
  obtain ⟨a, hp, ha⟩ := h H enc w fuel cs x hx hw
  exact ⟨a, hq a hp, ha⟩
/-- A parameter's value. -/
theorem OpT.param {α : Type} {e : α → List T} {p : α → Prop} (h : OpT P t e p) {H : Type} {enc : TypeId × Value → H} {W : World} {v : Value} {x : DataW H} {ps : List MemPlace} {ts : List TypeId} {ds : List (DataW H)} (hT : DataW.Trod enc P W 0 (fun _ => true) true t v x ps)
    (hsz : (DataW.weightsEach P ts ds).all (· ≤ reachBytes) = true) (j : Nat) (hj : ts[j]? = some t) (hd : ds[j]? = some x) : ∃ a, p a ∧ RdL (Old W) W (e a) v.cells.toList := by
  obtain ⟨fuel, hf⟩ := hT
  exact h H enc W fuel _ _ hf (fun n hn => by
    have := List.all_eq_true.1 hsz _ (DataW.weights_mem_each hj hd n hn)
    exact of_decide_eq_true this)
theorem lt_of_trod {H : Type} {enc : TypeId × Value → H} {W : World} {v : Value} {x : DataW H} {ps : List MemPlace} (h : DataW.Trod enc P W 0 (fun _ => true) true t v x ps) : ∀ y ∈ ps, y.block < W.heap.size := by
  obtain ⟨m, hm⟩ := h
  exact DataW.trod_lt m _ _ _ hm
/-- An argument, and how it reads. -/
def RdA (w : World) : AV → Value → Prop
  | .one t, v => Rd (Old w) w t v
  | .agg ts, v => ∃ vs : List Value, v = .agg vs.toArray ∧ RdL (Old w) w ts vs
  | .ptr _, _ => False
def RdAs (w : World) : List AV → List Value → Prop
  | [], [] => True
  | a :: as, v :: vs => RdA w a v ∧ RdAs w as vs
  | _, _ => False
theorem rdL_ghost {w : World} : ∀ {ts : List T} {vs : List Value}, RdL (Old w) w ts vs → ∃ gs : List G, gs.map er = ts ∧ gs.map hdr = vs ∧ ∀ t ∈ gs, Rp (Old w) w t ∧ ∀ b, cnt b t = 0
  | [], [], _ => ⟨[], rfl, rfl, fun t h => by cases h⟩
  | t :: ts, v :: vs, h => by
    obtain ⟨gs, e1, e2, e3⟩ := rdL_ghost (ts := ts) (vs := vs) ⟨by simpa using h.1, fun k t v ht hv => h.2 (k + 1) t v (by simpa using ht) (by simpa using hv)⟩
    obtain ⟨f1, f2, f3⟩ := gro_ok (h.2 0 t v rfl rfl)
    exact ⟨gro t v :: gs, by simp [gro_er, e1], by simp [f1, e2], fun t' ht' => by
      rcases List.mem_cons.1 ht' with rfl | ht'
      · exact ⟨f2, f3⟩
      · exact e3 t' ht'⟩
  | [], _ :: _, h => by simp [RdL] at h
  | _ :: _, [], h => by simp [RdL] at h
theorem rdAs_ghost {w : World} : ∀ {as : List AV} {vs : List Value}, RdAs w as vs → ∃ gs : List GA, gs.map GA.er = as ∧ gs.map GA.val = vs ∧ (∀ x ∈ gs, x.ok (Old w) w ∧ noPtr x) ∧ ∀ b, treeCnt b gs + ptrCnt b gs = 0
  | [], [], _ => ⟨[], rfl, rfl, fun x h => (by cases h), fun b => rfl⟩
  | a :: as, v :: vs, h => by
    obtain ⟨gs, e1, e2, e3, e4⟩ := rdAs_ghost h.2
    have h1 := h.1
    cases a with
    | one t =>
      obtain ⟨f1, f2, f3⟩ := gro_ok (show Rd (Old w) w t v from h1)
      refine ⟨.one (gro t v) :: gs, by simp [GA.er, gro_er, e1], by simp [GA.val, f1, e2], fun x hx => ?_, fun b => ?_⟩
      · rcases List.mem_cons.1 hx with rfl | hx
        · exact ⟨⟨fun t ht => by simp only [GA.ts, List.mem_singleton] at ht; subst ht; exact f2, fun A ts e => by cases e⟩, trivial⟩
        · exact e3 x hx
      · have := e4 b
        have := f3 b
        simp only [treeCnt, ptrCnt, List.flatMap_cons, cntL_append, GA.ts, GA.pb, cntL] at *
        omega
    | agg ts =>
      obtain ⟨us, rfl, hR⟩ := h1
      obtain ⟨ys, f1, f2, f3⟩ := rdL_ghost hR
      refine ⟨.agg ys :: gs, by simp [GA.er, f1, e1], by simp [GA.val, f2, e2], fun x hx => ?_, fun b => ?_⟩
      · rcases List.mem_cons.1 hx with rfl | hx
        · exact ⟨⟨fun t ht => (f3 t ht).1, fun A ts e => by cases e⟩, trivial⟩
        · exact e3 x hx
      · have h4 := e4 b
        have z : cntL b ys = 0 := by
          have : ∀ l : List G, (∀ t ∈ l, cnt b t = 0) → cntL b l = 0 := fun l => by
            induction l with
            | nil => intro _; rfl
            | cons t l ih => intro h; simp [cntL, h t (List.mem_cons_self ..), ih (fun t ht => h t (List.mem_cons_of_mem _ ht))]
          exact this _ (fun t ht => (f3 t ht).2 b)
        simp only [treeCnt, ptrCnt, List.flatMap_cons, cntL_append, GA.ts, GA.pb] at *
        omega
    | ptr => exact h1.elim
  | [], _ :: _, h => h.elim
  | _ :: _, [], h => h.elim
/-- A law is asked. -/
theorem asked {f : Nat} {as : List AV} {args : Array Value} {w : World} {u : Value} {os : List (List T)} (hT : Tells P f as ⟨[.one (.pv u)], os⟩) (ha : RdAs w as args.toList) : Calls P f args w fun e w' => e = .returned u ∧ Below w.heap.size w w' := by
  obtain ⟨gs, e1, e2, e3, e4⟩ := rdAs_ghost ha
  have := hT (Old w) gs w e1 (fun b h => h) (fun x hx => (e3 x hx).1) (fun b => by have := e4 b; omega) (fun b hb => by have := e4 b; omega)
  rw [e2] at this
  refine this.mono ?_
  rintro e w1 ⟨rs, os', rfl, er1, er2, hrs, hos, hOut, hc1, hc2, hF, _⟩
  have hrs' : rs = [.one (.pv u)] := by
    cases rs with
    | nil => simp at er1
    | cons y ys =>
      cases ys with
      | cons => simp at er1
      | nil =>
        simp at er1
        cases y with
        | one t =>
          simp only [GA.er, AV.one.injEq] at er1
          cases t <;> simp_all [er]
        | _ => simp [GA.er] at er1
  subst hrs'
  exact ⟨rfl, ⟨hF.os, hF.tape, hF.output, hF.size, fun b hb => hF.block b hb (e4 b)⟩⟩
end
end Go.X

/- A -/
namespace Go.X
set_option maxRecDepth 100000
set_option maxHeartbeats 8000000
abbrev iT (a : Int) : T := .pv (.int .i64 a)
abbrev bT (a : Bool) : T := .pv (.bool a)
abbrev sT (s : ByteArray) : T := .pv (.string s)
abbrev uT (a : UInt8) : T := .pv (.int .u8 a.toNat)
abbrev slT {α : Type} (o : Bool) (z : Nat) (f : α → List T) (l : List α) : T := .sl o z () (l.map f)
abbrev bR (a : Bool) : List T := [bT a]
abbrev sR (a : ByteArray) : List T := [sT a]
abbrev iR (a : Int) : List T := [iT a]
abbrev uR (a : UInt8) : List T := [uT a]
/-- What is left of a measure. -/
def left (a : Int) : Int := if a < 0 then -1 else a
def Sane (f : Int → Int) : Prop := ∀ k, 0 ≤ k → f k ≤ k
def SaneL (fs : List (Int → Int)) : Prop := ∀ f ∈ fs, Sane f
theorem SaneL.nil : SaneL [] := fun _ h => by cases h
theorem SaneL.cons {f : Int → Int} {fs : List (Int → Int)} (h : Sane f) (t : SaneL fs) : SaneL (f :: fs) := fun g hg => by
  rcases List.mem_cons.1 hg with rfl | hg
  · exact h
  · exact t _ hg
/-- One measure behind the other, as long as something is left. -/
def szAll : List (Int → Int) → Int → Int
  | [], k => k
  | f :: fs, k => if f k < 0 then -1 else szAll fs (f k)
def ExL (n : Int) : List (Int → Int) → Prop
  | [] => True
  | f :: fs => (∃ j, 0 ≤ j ∧ j ≤ n ∧ 0 ≤ f j) ∧ ExL n fs
theorem Sane.all {fs : List (Int → Int)} (h : SaneL fs) : Sane (szAll fs) := by
  induction fs with
  | nil => intro k hk; exact Int.le_refl _
  | cons f fs ih =>
    intro k hk
    have h1 := h f (List.mem_cons_self ..) k hk
    simp only [szAll]
    split
    · omega
    · have := ih (fun g hg => h g (List.mem_cons_of_mem _ hg)) (f k) (by omega)
      omega
theorem szAll_ex {fs : List (Int → Int)} (h : SaneL fs) {k n : Int} (hk : 0 ≤ k) (hn : k ≤ n) (h0 : 0 ≤ szAll fs k) : ExL n fs := by
  induction fs generalizing k with
  | nil => trivial
  | cons f fs ih =>
    have h1 := h f (List.mem_cons_self ..) k hk
    simp only [szAll] at h0
    split at h0
    · omega
    · exact ⟨⟨k, hk, hn, by omega⟩, ih (fun g hg => h g (List.mem_cons_of_mem _ hg)) (k := f k) (by omega) (by omega) h0⟩
theorem Sane.sub (n : Nat) : Sane (fun k => k - n) := fun k hk => by show k - (n : Int) ≤ k; omega
theorem Sane.left (n : Nat) : Sane (fun k => left (k - n)) := fun k hk => by
  show Go.X.left (k - (n : Int)) ≤ k
  unfold Go.X.left
  split <;> omega
theorem left_nn {a : Int} (h : ¬ left a < 0) : left a = a := by
  unfold left at h ⊢
  split at h
  · omega
  · rw [if_neg (by assumption)]
theorem left_in {k : Int} {n : Nat} (h : 0 ≤ left (k - n)) : (n : Int) ≤ k := by
  unfold left at h
  split at h <;> omega
/-- What is left of a measure behind a row of things. -/
def szSl {α : Type} (f : α → Int → Int) (l : List α) (k : Int) : Int := szAll ((fun k => k - l.length) :: l.map f) k
theorem Sane.sl {α : Type} {f : α → Int → Int} (hf : ∀ a, Sane (f a)) (l : List α) : Sane (szSl f l) := by
  refine Sane.all (.cons (.sub _) fun g hg => ?_)
  obtain ⟨a, _, rfl⟩ := List.mem_map.1 hg
  exact hf a
theorem ExL_map {α : Type} {f : α → Int → Int} {n : Int} : ∀ {l : List α}, ExL n (l.map f) → ∀ a ∈ l, ∃ j, 0 ≤ j ∧ j ≤ n ∧ 0 ≤ f a j
  | [], _, a, h => by cases h
  | b :: l, ⟨h1, h2⟩, a, h => by
    rcases List.mem_cons.1 h with rfl | h
    · exact h1
    · exact ExL_map h2 a h
theorem szSl_in {α : Type} {f : α → Int → Int} {P : α → Prop} {n : Nat} (hf : ∀ a, Sane (f a)) (hP : ∀ a j, 0 ≤ j → j ≤ (n : Int) → 0 ≤ f a j → P a) {l : List α} {k : Int} (hk : 0 ≤ k) (hn : k ≤ n) (h : 0 ≤ szSl f l k) : l.length ≤ n ∧ ∀ a ∈ l, P a := by
  obtain ⟨⟨j, h1, h2, h3⟩, h4⟩ := szAll_ex (.cons (.sub _) fun g hg => by obtain ⟨a, _, rfl⟩ := List.mem_map.1 hg; exact hf a) hk hn h
  refine ⟨by have h5 : (0 : Int) ≤ j - (l.length : Nat) := h3; omega, fun a ha => ?_⟩
  obtain ⟨j, q1, q2, q3⟩ := ExL_map h4 a ha
  exact hP a j q1 q2 q3
def szStr (s : ByteArray) (k : Int) : Int := left (k - s.size)
theorem szStr_sane (s : ByteArray) : Sane (szStr s) := Sane.left _
theorem fill_get {α : Type} (f : α → List T) (l : List α) (z : List T) {i : Nat} (hi : i < l.length) : ((l.take i).map f ++ List.replicate (l.length - i) z)[i]? = some z := by
  rw [List.getElem?_append_right (by simp; omega), List.getElem?_replicate, if_pos (by simp; omega)]
theorem fill_set {α : Type} (f : α → List T) (l : List α) (z : List T) {i : Nat} (hi : i < l.length) : ((l.take i).map f ++ List.replicate (l.length - i) z).set i (f l[i]) = (l.take (i + 1)).map f ++ List.replicate (l.length - (i + 1)) z := by
  rw [List.set_append_right _ _ (by simp; omega), List.take_succ_eq_append_getElem hi, List.map_append, List.append_assoc]
  congr 1
  have e : l.length - i = (l.length - (i + 1)) + 1 := by omega
  rw [e, List.replicate_succ]
  have : i - ((l.take i).map f).length = 0 := by simp; omega
  rw [this]
  rfl
theorem fill_len {α : Type} (f : α → List T) (l : List α) (z : List T) {i : Nat} (hi : i ≤ l.length) : ((l.take i).map f ++ List.replicate (l.length - i) z).length = l.length := by simp; omega
theorem fill_end {α : Type} (f : α → List T) (l : List α) (z : List T) : (l.take l.length).map f ++ List.replicate (l.length - l.length) z = l.map f := by simp
/-- As far as i they are the same. -/
theorem same_step {α : Type} {l m : List α} {i : Nat} (hl : i < l.length) (hm : i < m.length) (h : l.take i = m.take i) (he : l[i] = m[i]) : l.take (i + 1) = m.take (i + 1) := by
  rw [List.take_succ_eq_append_getElem hl, List.take_succ_eq_append_getElem hm, h, he]
theorem same_end {α : Type} {l m : List α} {i : Nat} (hl : l.length ≤ i) (hm : m.length ≤ i) (h : l.take i = m.take i) : l = m := by
  rwa [List.take_of_length_le hl, List.take_of_length_le hm] at h
theorem all_step {α : Type} {l : List α} {p : α → Bool} {i : Nat} (hi : i < l.length) (h : (l.take i).all p = true) (h2 : p l[i] = true) : (l.take (i + 1)).all p = true := by
  rw [List.take_succ_eq_append_getElem hi, List.all_append, h, List.all_cons, h2]; rfl
theorem all_not {α : Type} {l : List α} {p : α → Bool} {i : Nat} (hi : i < l.length) (h2 : p l[i] = false) : l.all p = false := by
  rw [List.all_eq_false]; exact ⟨l[i], List.getElem_mem hi, by simp [h2]⟩
theorem all_end {α : Type} {l : List α} {p : α → Bool} {i : Nat} (hi : l.length ≤ i) (h : (l.take i).all p = true) : l.all p = true := by
  rwa [List.take_of_length_le hi] at h
/-- The marks of n things from k on, w to each. -/
def marks {α : Type} (w : Nat) (mk : Int → α) (n : Nat) (k : Int) : List α := (List.range n).map fun i => mk (k + (w * i : Nat))
theorem marks_length {α : Type} (w : Nat) (mk : Int → α) (n : Nat) (k : Int) : (marks w mk n k).length = n := by simp [marks]
theorem marks_succ {α : Type} (w : Nat) (mk : Int → α) (n : Nat) (k : Int) : marks w mk (n + 1) k = marks w mk n k ++ [mk (k + (w * n : Nat))] := by simp [marks, List.range_succ]
theorem marks_get {α : Type} (w : Nat) (mk : Int → α) {n i : Nat} (k : Int) (h : i < n) : (marks w mk n k)[i]? = some (mk (k + (w * i : Nat))) := by simp [marks, h]
theorem mark_get {α : Type} (f : α → List T) (w : Nat) (mk : Int → α) (l : List α) (k : Int) {i : Nat} (hi : i < l.length) : ((marks w mk i k).map f ++ (l.drop i).map f)[i]? = some (f l[i]) := by
  rw [List.getElem?_append_right (by simp [marks_length]), List.length_map, marks_length, Nat.sub_self, List.getElem?_map, List.getElem?_drop]
  simp [hi]
theorem mark_set {α : Type} (f : α → List T) (w : Nat) (mk : Int → α) (l : List α) (k : Int) {i : Nat} (hi : i < l.length) : ((marks w mk i k).map f ++ (l.drop i).map f).set i (f (mk (k + (w * i : Nat)))) = (marks w mk (i + 1) k).map f ++ (l.drop (i + 1)).map f := by
  rw [List.set_append_right _ _ (by simp [marks_length]), List.length_map, marks_length, Nat.sub_self, List.drop_eq_getElem_cons hi, List.map_cons, List.set_cons_zero, marks_succ, List.map_append, List.append_assoc]
  rfl
theorem mark_len {α : Type} (f : α → List T) (w : Nat) (mk : Int → α) (l : List α) (k : Int) {i : Nat} (hi : i ≤ l.length) : ((marks w mk i k).map f ++ (l.drop i).map f).length = l.length := by simp [marks_length]; omega
theorem mark_reget {α : Type} (f : α → List T) (w : Nat) (mk : Int → α) (l : List α) (k : Int) {i : Nat} (hi : i < l.length) (r : List T) : (((marks w mk i k).map f ++ (l.drop i).map f).set i r)[i]? = some r := by
  rw [List.getElem?_set_self (by rw [mark_len f w mk l k (by omega)]; exact hi)]
theorem mark_end {α : Type} (f : α → List T) (w : Nat) (mk : Int → α) (l : List α) (k : Int) : (marks w mk l.length k).map f ++ (l.drop l.length).map f = (marks w mk l.length k).map f := by simp
theorem marks_take {α β : Type} (f : α → β) (w : Nat) (mk : Int → α) (n : Nat) (k : Int) : ((marks w mk n k).map f).take n = (marks w mk n k).map f := by rw [List.take_of_length_le (by simp [marks_length])]
def mkB (k : Int) : Bool := k.tmod 3 == 0
theorem byte_neq (a b : UInt8) : binV .neq (.int .u8 a.toNat) (.int .u8 b.toNat) = some (.bool (!decide (a = b))) := by
  have : ((a.toNat : Int) = b.toNat) ↔ a = b := by rw [Int.ofNat_inj]; exact UInt8.toNat_inj
  rw [bI_neq]
  by_cases h : a = b
  · subst h; simp
  · have h2 : ¬ ((a.toNat : Int) = b.toNat) := fun e => h (this.1 e)
    simp [h, bne, h2]
def digs (n : Nat) (out : ByteArray) : ByteArray := if h : n = 0 then out else digs (n / 10) (⟨#[UInt8.ofNat (48 + n % 10)]⟩ ++ out)
termination_by n
decreasing_by omega
def mkS (k : Int) : ByteArray := if k ≤ 0 then ⟨#[109, 48]⟩ else ⟨#[109]⟩ ++ digs k.toNat ⟨#[]⟩
def mkI (k : Int) : Int := k
def mkU (k : Int) : UInt8 := UInt8.ofNat (k % 256).toNat
theorem mkU_wrap (k : Int) : IntKind.u8.wrap k = ((mkU k).toNat : Int) := by
  have h1 := Int.emod_nonneg k (show (256 : Int) ≠ 0 by decide)
  have h2 := Int.emod_lt_of_pos k (show (0 : Int) < 256 by decide)
  have h3 : (mkU k).toNat = (k % 256).toNat := by
    rw [mkU, UInt8.toNat_ofNat', Nat.mod_eq_of_lt (by omega)]
  rw [h3, IntKind.wrap_u8]
  omega
def x_l_markText : FnX := ⟨20, [.tmp 2],
  .seq (.reg [⟨none, some 2, 2, .mv (.k (.one (.pv (.string ⟨#[]⟩))))⟩])
 (.seq (.seq (.reg [⟨none, some 4, 4, .mv (.t 0)⟩,
   ⟨none, some 5, 5, .bin .leq (.t 4) (.k (.one (.pv (.int .i64 0))))⟩])
 (.cond 5 (.seq (.reg [⟨none, some 2, 2, .mv (.k (.one (.pv (.string ⟨#[109, 48]⟩))))⟩])
 (.ret)) (.skip)))
 (.seq (.reg [⟨none, some 3, 3, .mv (.k (.one (.pv (.string ⟨#[]⟩))))⟩])
 (.seq (.block 0 (.loop [0, 3] (.seq (.seq (.reg [⟨none, some 6, 6, .mv (.t 0)⟩,
   ⟨none, some 7, 7, .bin .gtr (.t 6) (.k (.one (.pv (.int .i64 0))))⟩])
 (.cond 7 (.skip) (.exit 0)))
 (.block 1 (.seq (.reg [⟨none, some 8, 8, .mv (.t 0)⟩,
   ⟨none, some 9, 9, .bin .rem (.t 8) (.k (.one (.pv (.int .i64 10))))⟩,
   ⟨none, some 10, 10, .bin .add (.k (.one (.pv (.int .i64 48)))) (.t 9)⟩,
   ⟨none, some 11, 11, .conv (.int .u8) (.t 10)⟩,
   ⟨none, some 12, 12, .bslice 1 [(.t 11)]⟩,
   ⟨none, some 13, 13, .conv .b2s (.t 12)⟩,
   ⟨none, some 14, 14, .mv (.t 3)⟩,
   ⟨none, some 15, 15, .bin .add (.t 13) (.t 14)⟩,
   ⟨none, some 3, 3, .mv (.t 15)⟩])
 (.reg [⟨none, some 16, 16, .mv (.t 0)⟩,
   ⟨none, some 17, 17, .bin .quo (.t 16) (.k (.one (.pv (.int .i64 10))))⟩,
   ⟨none, some 0, 0, .mv (.t 17)⟩]))))))
 (.norm [3] (.seq (.reg [⟨none, some 18, 18, .mv (.t 3)⟩,
   ⟨none, some 19, 19, .bin .add (.k (.one (.pv (.string ⟨#[109]⟩)))) (.t 18)⟩,
   ⟨none, some 2, 2, .mv (.t 19)⟩])
 (.ret))))))⟩
abbrev C_l_markText (Te : Nat → List AV → Res → Prop) : Prop := ∀ (k : Int) (hk : 0 ≤ k ∧ k ≤ 2 ^ 48), Te 63 [.one (iT k)] ⟨[.one (sT (mkS k))], [[iT k]]⟩
theorem r_l_markText {Te : Nat → List AV → Res → Prop} : ∀ (k : Int) (hk : 0 ≤ k ∧ k ≤ 2 ^ 48), RunFn Te x_l_markText [.one (iT k)] ⟨[.one (sT (mkS k))], [[iT k]]⟩ := by
  intro k hk
  refine ⟨by simp -implicitDefEqProofs (maxSteps := 1000000) only [x_l_markText, go_sem], ?_⟩
  simp -implicitDefEqProofs (maxSteps := 1000000) only [x_l_markText, go_sem]
  refine ⟨fun h => ?_, fun h => ?_⟩
  · simp only [decide_eq_true_eq] at h
    simp only [mkS, if_pos h]
  · simp only [decide_eq_false_iff_not] at h
    refine loop_of (σ := Nat × ByteArray) (fun x => ⟨[(0, .one (.pv (.int .i64 x.1))), (3, .one (.pv (.string x.2)))], [], [(0, [iT k])]⟩) (fun x => x.2.size ≤ 15 ∧ x.1 * 10 ^ x.2.size ≤ 2 ^ 48 ∧ digs k.toNat ⟨#[]⟩ = digs x.1 x.2) (fun x => x.1) (k.toNat, ⟨#[]⟩) ?_ ?_ ?_
    · simp -implicitDefEqProofs (maxSteps := 1000000) only [go_sem]
      rw [Int.toNat_of_nonneg hk.1]
    · exact ⟨by simp [ByteArray.size], by simp [ByteArray.size]; omega, rfl⟩
    · rintro ⟨j, s⟩ ⟨h1, h2, h3⟩
      simp only at h1 h2 h3
      simp -implicitDefEqProofs (maxSteps := 1000000) only [go_sem]
      have hj : j ≤ 2 ^ 48 := Nat.le_trans (Nat.le_mul_of_pos_right j (Nat.pow_pos (by decide))) h2
      refine ⟨fun h0 => ?_, fun h0 => ?_⟩
      · have h0' : 0 < j := by simp only [decide_eq_true_eq] at h0; omega
        have hs : s.size ≤ 14 := by
          by_cases h15 : s.size ≤ 14
          · exact h15
          · have e1 := Nat.pow_le_pow_right (n := 10) (by decide) (show 15 ≤ s.size by omega)
            have e2 := Nat.le_mul_of_pos_left (10 ^ s.size) h0'
            omega
        have em : (j : Int).tmod 10 = ((j % 10 : Nat) : Int) := by rw [Int.tmod_eq_emod_of_nonneg (by omega)]; rfl
        have ed : (j : Int).tdiv 10 = ((j / 10 : Nat) : Int) := by rw [Int.tdiv_eq_ediv_of_nonneg (by omega)]; rfl
        have hlt : j % 10 < 10 := Nat.mod_lt _ (by decide)
        rw [em, ed, IntWalk.i64_in _ (by omega), IntWalk.i64_in _ (by omega), IntWalk.u8_in _ (by omega)]
        refine ⟨rfl, ?_⟩
        have e5 : bytesOf [[(Tr.pv (Value.int IntKind.u8 (48 + ((j % 10 : Nat) : Int))) : T)]] = [UInt8.ofNat (48 + j % 10)] := by
          simp only [bytesOf, List.map_cons, List.map_nil, List.headD_cons, byteOf]
          rw [show (48 + ((j % 10 : Nat) : Int)).toNat = 48 + j % 10 by omega]
        rw [e5, show decide ([UInt8.ofNat (48 + j % 10)].toArray.size + s.size ≤ 4294967296) = true by simp; omega]
        simp only [cond_true, onSome]
        have esz : ((⟨[UInt8.ofNat (48 + j % 10)].toArray⟩ : ByteArray) ++ s).size = s.size + 1 := by rw [ByteArray.size_append]; show 1 + s.size = s.size + 1; omega
        refine ⟨(j / 10, ⟨[UInt8.ofNat (48 + j % 10)].toArray⟩ ++ s), rfl, ⟨by simp only [esz]; omega, ?_, ?_⟩, Nat.div_lt_self h0' (by decide)⟩
        · simp only [esz]
          have e6 : j / 10 * 10 ^ (s.size + 1) = (j / 10 * 10) * 10 ^ s.size := by rw [Nat.pow_succ, Nat.mul_assoc, Nat.mul_comm 10]
          rw [e6]
          exact Nat.le_trans (Nat.mul_le_mul_right _ (by omega)) h2
        · rw [h3, digs, dif_neg (by omega)]
      · have h0' : j = 0 := by simp only [decide_eq_false_iff_not] at h0; omega
        subst h0'
        rw [show decide (#[(109 : UInt8)].size + s.size ≤ 4294967296) = true by simp; omega]
        simp only [cond_true, onSome]
        have e0 : digs 0 s = s := by rw [digs, dif_pos rfl]
        rw [e0] at h3
        simp only [mkS, if_neg h, h3]
end Go.X

/- B -/
namespace Go.X
set_option maxRecDepth 100000
set_option maxHeartbeats 8000000
def x_l_szBoolS : FnX := ⟨12, [.tmp 4],
  .seq (.reg [⟨none, some 4, 4, .mv (.k (.one (.pv (.int .i64 0))))⟩])
 (.seq (.reg [⟨none, some 5, 5, .mv (.t 1)⟩,
   ⟨none, some 6, 6, .mv (.t 0)⟩,
   ⟨none, some 7, 7, .len (.t 6)⟩,
   ⟨none, some 8, 8, .bin .sub (.t 5) (.t 7)⟩,
   ⟨none, some 1, 1, .mv (.t 8)⟩])
 (.seq (.seq (.reg [⟨none, some 9, 9, .mv (.t 1)⟩,
   ⟨none, some 10, 10, .bin .lss (.t 9) (.k (.one (.pv (.int .i64 0))))⟩])
 (.cond 10 (.seq (.reg [⟨none, some 4, 4, .mv (.k (.one (.pv (.int .i64 (-1)))))⟩])
 (.ret)) (.skip)))
 (.seq (.reg [⟨none, some 11, 11, .mv (.t 1)⟩,
   ⟨none, some 4, 4, .mv (.t 11)⟩])
 (.ret))))⟩
abbrev C_l_szBoolS (Te : Nat → List AV → Res → Prop) : Prop := ∀ (l : List Bool) (k : Int) (hl : l.length ≤ 2 ^ 48) (hk : 0 ≤ k ∧ k ≤ 2 ^ 48), Te 54 [.one (slT false 1 bR l), .one (iT k)] ⟨[.one (iT (left (k - (l.length : Nat))))], [[slT false 1 bR l], [iT k]]⟩
theorem r_l_szBoolS {Te : Nat → List AV → Res → Prop} : ∀ (l : List Bool) (k : Int) (hl : l.length ≤ 2 ^ 48) (hk : 0 ≤ k ∧ k ≤ 2 ^ 48), RunFn Te x_l_szBoolS [.one (slT false 1 bR l), .one (iT k)] ⟨[.one (iT (left (k - (l.length : Nat))))], [[slT false 1 bR l], [iT k]]⟩ := by
  intro l k hl hk
  refine ⟨by simp -implicitDefEqProofs (maxSteps := 1000000) only [x_l_szBoolS, go_sem], ?_⟩
  simp -implicitDefEqProofs (maxSteps := 1000000) (disch := omega) only [x_l_szBoolS, go_sem, IntWalk.i64_in]
  refine ⟨fun h => ?_, fun h => ?_⟩
  · simp only [decide_eq_true_eq] at h
    simp only [left, if_pos h]
  · simp only [decide_eq_false_iff_not] at h
    simp only [left, if_neg h]
def x_l_toBoolS : FnX := ⟨22, [.tmp 2],
  .seq (.reg [⟨none, some 2, 2, .mv (.k (.one (.nils 1)))⟩])
 (.seq (.reg [⟨none, some 5, 5, .mv (.t 0)⟩,
   ⟨none, some 6, 6, .len (.t 5)⟩,
   ⟨none, some 7, 7, .mks 1 1 [.pv (.bool false)] (.t 6)⟩,
   ⟨none, some 3, 3, .mv (.t 7)⟩])
 (.seq (.seq (.reg [⟨none, some 4, 4, .mv (.k (.one (.pv (.int .i64 0))))⟩])
 (.block 0 (.loop [0, 3, 4] (.seq (.seq (.reg [⟨none, some 8, 8, .mv (.t 4)⟩,
   ⟨none, some 9, 9, .mv (.t 0)⟩,
   ⟨none, some 10, 10, .len (.t 9)⟩,
   ⟨none, some 11, 11, .bin .lss (.t 8) (.t 10)⟩])
 (.cond 11 (.skip) (.exit 0)))
 (.seq (.block 1 (.reg [⟨none, some 14, 14, .mv (.t 3)⟩,
   ⟨none, some 15, 15, .mv (.t 4)⟩,
   ⟨none, some 16, 16, .mv (.t 0)⟩,
   ⟨none, some 17, 17, .mv (.t 4)⟩,
   ⟨none, some 18, 18, .iaddr 1 (.t 16) (.t 17)⟩,
   ⟨none, some 19, 19, .load none (.t 18)⟩,
   ⟨none, some 20, 20, .iaddr 1 (.t 14) (.t 15)⟩,
   ⟨none, none, 100001, .store 1 (.t 20) (.t 19)⟩]))
 (.reg [⟨none, some 12, 12, .mv (.t 4)⟩,
   ⟨none, some 13, 13, .bin .add (.t 12) (.k (.one (.pv (.int .i64 1))))⟩,
   ⟨none, some 4, 4, .mv (.t 13)⟩]))))))
 (.norm [3] (.seq (.reg [⟨none, some 21, 21, .mv (.t 3)⟩,
   ⟨none, some 2, 2, .mv (.t 21)⟩])
 (.ret)))))⟩
abbrev C_l_toBoolS (Te : Nat → List AV → Res → Prop) : Prop := ∀ (l : List Bool) (hl : l.length ≤ 2 ^ 31), Te 56 [.one (slT false 1 bR l)] ⟨[.one (slT true 1 bR l)], [[slT false 1 bR l]]⟩
theorem r_l_toBoolS {Te : Nat → List AV → Res → Prop} : ∀ (l : List Bool) (hl : l.length ≤ 2 ^ 31), RunFn Te x_l_toBoolS [.one (slT false 1 bR l)] ⟨[.one (slT true 1 bR l)], [[slT false 1 bR l]]⟩ := by
  intro l hl
  refine ⟨by simp -implicitDefEqProofs (maxSteps := 1000000) only [x_l_toBoolS, go_sem], ?_⟩
  simp -implicitDefEqProofs (maxSteps := 1000000) (disch := omega) only [x_l_toBoolS, go_sem, IntWalk.i64_in]
  refine ⟨⟨by simp only [decide_eq_true_eq]; omega, by simp only [decide_eq_true_eq]; omega⟩, ?_⟩
  refine loop_of (σ := Nat) (fun i => ⟨[(0, .one (.ro 1 (l.map bR))), (3, .one (.rf 23 0 [] 1 0 l.length)), (4, .one (.pv (.int .i64 i)))], [],
    [(0, [slT false 1 bR l]), (23, [.sl true 1 () ((l.take i).map bR ++ List.replicate (l.length - i) [.pv (.bool false)])])]⟩) (fun i => i ≤ l.length) (fun i => l.length - i) 0 ?_ (Nat.zero_le _) ?_
  · simp -implicitDefEqProofs (maxSteps := 1000000) only [go_sem]; rfl
  · intro i hi
    simp -implicitDefEqProofs (maxSteps := 1000000) only [go_sem]
    refine ⟨fun h => ?_, fun h => ?_⟩
    · have hi' : i < l.length := by simp only [decide_eq_true_eq] at h; omega
      simp -implicitDefEqProofs (maxSteps := 1000000) only [go_sem, List.getElem?_eq_getElem hi', fill_len bR l [.pv (.bool false)] hi, storeAp, setCells, List.getD_eq_getElem?_getD, fill_get bR l [.pv (.bool false)] hi']
      repeat (first | refine ⟨by decide, ?_⟩ | refine ⟨by simpa using hi', ?_⟩)
      refine ⟨i + 1, ?_, hi', by omega⟩
      rw [← fill_set bR l [.pv (.bool false)] hi', IntWalk.i64_in _ (by omega)]
      rfl
    · have : i = l.length := by simp only [decide_eq_false_iff_not] at h; omega
      subst this
      simp -implicitDefEqProofs (maxSteps := 1000000) only [go_sem, fill_len bR l [.pv (.bool false)] hi, fill_end]
      refine ⟨by simp, ?_⟩
      simp [take_map]
def x_l_eqBoolS : FnX := ⟨26, [.tmp 4],
  .seq (.reg [⟨none, some 4, 4, .mv (.k (.one (.pv (.bool false))))⟩])
 (.seq (.seq (.reg [⟨none, some 6, 6, .mv (.t 0)⟩,
   ⟨none, some 7, 7, .len (.t 6)⟩,
   ⟨none, some 8, 8, .mv (.t 1)⟩,
   ⟨none, some 9, 9, .len (.t 8)⟩,
   ⟨none, some 10, 10, .bin .neq (.t 7) (.t 9)⟩])
 (.cond 10 (.seq (.reg [⟨none, some 4, 4, .mv (.k (.one (.pv (.bool false))))⟩])
 (.ret)) (.skip)))
 (.seq (.seq (.reg [⟨none, some 5, 5, .mv (.k (.one (.pv (.int .i64 0))))⟩])
 (.block 0 (.loop [0, 1, 5] (.seq (.seq (.reg [⟨none, some 11, 11, .mv (.t 5)⟩,
   ⟨none, some 12, 12, .mv (.t 0)⟩,
   ⟨none, some 13, 13, .len (.t 12)⟩,
   ⟨none, some 14, 14, .bin .lss (.t 11) (.t 13)⟩])
 (.cond 14 (.skip) (.exit 0)))
 (.seq (.block 1 (.seq (.draw [⟨none, some 17, 17, .mv (.t 0)⟩,
   ⟨none, some 18, 18, .mv (.t 5)⟩,
   ⟨none, some 19, 19, .iaddr 1 (.t 17) (.t 18)⟩,
   ⟨none, some 20, 20, .load none (.t 19)⟩,
   ⟨none, some 21, 21, .mv (.t 1)⟩,
   ⟨none, some 22, 22, .mv (.t 5)⟩,
   ⟨none, some 23, 23, .iaddr 1 (.t 21) (.t 22)⟩,
   ⟨none, some 24, 24, .load none (.t 23)⟩,
   ⟨none, some 25, 25, .beq true (.t 20) (.t 24)⟩] [[], [], [0, 1], [2], [], [], [4, 5], [6], [3, 7]])
 (.cond 25 (.seq (.reg [⟨none, some 4, 4, .mv (.k (.one (.pv (.bool false))))⟩])
 (.ret)) (.skip))))
 (.reg [⟨none, some 15, 15, .mv (.t 5)⟩,
   ⟨none, some 16, 16, .bin .add (.t 15) (.k (.one (.pv (.int .i64 1))))⟩,
   ⟨none, some 5, 5, .mv (.t 16)⟩]))))))
 (.norm [] (.seq (.reg [⟨none, some 4, 4, .mv (.k (.one (.pv (.bool true))))⟩])
 (.ret)))))⟩
abbrev C_l_eqBoolS (Te : Nat → List AV → Res → Prop) : Prop := ∀ (l m : List Bool) (hl : l.length ≤ 2 ^ 31), Te 41 [.one (slT false 1 bR l), .one (slT false 1 bR m)] ⟨[.one (bT (decide (l = m)))], [[slT false 1 bR l], [slT false 1 bR m]]⟩
theorem r_l_eqBoolS {Te : Nat → List AV → Res → Prop} : ∀ (l m : List Bool) (hl : l.length ≤ 2 ^ 31), RunFn Te x_l_eqBoolS [.one (slT false 1 bR l), .one (slT false 1 bR m)] ⟨[.one (bT (decide (l = m)))], [[slT false 1 bR l], [slT false 1 bR m]]⟩ := by
  intro l m hl
  refine ⟨by simp -implicitDefEqProofs (maxSteps := 1000000) only [x_l_eqBoolS, go_sem], ?_⟩
  simp -implicitDefEqProofs (maxSteps := 1000000) (disch := omega) only [x_l_eqBoolS, go_sem, IntWalk.i64_in]
  refine ⟨fun h => ?_, fun h => ?_⟩
  · have : l ≠ m := fun e => by simp [e] at h
    simp [this]
  · have hlen : l.length = m.length := by simp at h; omega
    refine loop_of (σ := Nat) (fun i => ⟨[(0, .one (.ro 1 (l.map bR))), (1, .one (.ro 1 (m.map bR))), (5, .one (.pv (.int .i64 i)))], [], [(0, [slT false 1 bR l]), (1, [slT false 1 bR m])]⟩) (fun i => i ≤ l.length ∧ l.take i = m.take i) (fun i => l.length - i) 0 ?_ ⟨Nat.zero_le _, by simp⟩ ?_
    · simp -implicitDefEqProofs (maxSteps := 1000000) only [go_sem]; rfl
    · intro i ⟨hi, hs⟩
      simp -implicitDefEqProofs (maxSteps := 1000000) only [go_sem]
      refine ⟨fun h => ?_, fun h => ?_⟩
      · have hi' : i < l.length := by simp only [decide_eq_true_eq] at h; omega
        have hj' : i < m.length := by omega
        simp -implicitDefEqProofs (maxSteps := 1000000) only [go_sem, List.getElem?_eq_getElem hi', List.getElem?_eq_getElem hj']
        refine ⟨by decide, fun h2 => ?_, fun h2 => ?_⟩
        · have : l ≠ m := fun e => by subst e; simp at h2
          simp [this]
        · refine ⟨i + 1, by rw [IntWalk.i64_in _ (by omega)]; rfl, ⟨hi', same_step hi' hj' hs ?_⟩, by omega⟩
          simpa using h2
      · have hle : l.length ≤ i := by simp only [decide_eq_false_iff_not] at h; omega
        have : l = m := same_end hle (by omega) hs
        simp [this]
def x_l_markBoolS : FnX := ⟨21, [.tmp 4],
  .seq (.reg [⟨none, some 4, 4, .mv (.k (.one (.pv (.int .i64 0))))⟩])
 (.seq (.seq (.reg [⟨none, some 5, 5, .mv (.k (.one (.pv (.int .i64 0))))⟩])
 (.block 0 (.loop [0, 1, 5] (.seq (.seq (.reg [⟨none, some 6, 6, .mv (.t 5)⟩,
   ⟨none, some 7, 7, .mv (.t 0)⟩,
   ⟨none, some 8, 8, .len (.t 7)⟩,
   ⟨none, some 9, 9, .bin .lss (.t 6) (.t 8)⟩])
 (.cond 9 (.skip) (.exit 0)))
 (.seq (.block 1 (.seq (.reg [⟨none, some 12, 12, .mv (.t 0)⟩,
   ⟨none, some 13, 13, .mv (.t 5)⟩,
   ⟨none, some 14, 14, .mv (.t 1)⟩,
   ⟨none, some 15, 15, .bin .rem (.t 14) (.k (.one (.pv (.int .i64 3))))⟩,
   ⟨none, some 16, 16, .bin .eql (.t 15) (.k (.one (.pv (.int .i64 0))))⟩,
   ⟨none, some 17, 17, .iaddr 1 (.t 12) (.t 13)⟩,
   ⟨none, none, 100001, .store 1 (.t 17) (.t 16)⟩])
 (.reg [⟨none, some 18, 18, .mv (.t 1)⟩,
   ⟨none, some 19, 19, .bin .add (.t 18) (.k (.one (.pv (.int .i64 1))))⟩,
   ⟨none, some 1, 1, .mv (.t 19)⟩])))
 (.reg [⟨none, some 10, 10, .mv (.t 5)⟩,
   ⟨none, some 11, 11, .bin .add (.t 10) (.k (.one (.pv (.int .i64 1))))⟩,
   ⟨none, some 5, 5, .mv (.t 11)⟩]))))))
 (.norm [1] (.seq (.reg [⟨none, some 20, 20, .mv (.t 1)⟩,
   ⟨none, some 4, 4, .mv (.t 20)⟩])
 (.ret))))⟩
abbrev C_l_markBoolS (Te : Nat → List AV → Res → Prop) : Prop := ∀ (l : List Bool) (k : Int) (hl : l.length ≤ 2 ^ 31) (hk : 0 ≤ k ∧ k ≤ 2 ^ 46), Te 43 [.one (slT true 1 bR l), .one (iT k)] ⟨[.one (iT (k + (1 * l.length : Nat)))], [[slT true 1 bR (marks 1 mkB l.length k)], [iT k]]⟩
theorem r_l_markBoolS {Te : Nat → List AV → Res → Prop} : ∀ (l : List Bool) (k : Int) (hl : l.length ≤ 2 ^ 31) (hk : 0 ≤ k ∧ k ≤ 2 ^ 46), RunFn Te x_l_markBoolS [.one (slT true 1 bR l), .one (iT k)] ⟨[.one (iT (k + (1 * l.length : Nat)))], [[slT true 1 bR (marks 1 mkB l.length k)], [iT k]]⟩ := by
  intro l k hl hk
  refine ⟨by simp -implicitDefEqProofs (maxSteps := 1000000) only [x_l_markBoolS, go_sem], ?_⟩
  simp -implicitDefEqProofs (maxSteps := 1000000) (disch := omega) only [x_l_markBoolS, go_sem, IntWalk.i64_in]
  refine loop_of (σ := Nat) (fun i => ⟨[(0, .one (.rf 0 0 [] 1 0 l.length)), (1, .one (.pv (.int .i64 (k + (1 * i : Nat))))), (5, .one (.pv (.int .i64 i)))], [], [(0, [.sl true 1 () ((marks 1 mkB i k).map bR ++ (l.drop i).map bR)]), (1, [iT k])]⟩) (fun i => i ≤ l.length) (fun i => l.length - i) 0 ?_ (Nat.zero_le _) ?_
  · simp -implicitDefEqProofs (maxSteps := 1000000) only [go_sem]; simp [marks]
  · intro i hi
    simp -implicitDefEqProofs (maxSteps := 1000000) only [go_sem]
    refine ⟨fun h => ?_, fun h => ?_⟩
    · have hi' : i < l.length := by simp only [decide_eq_true_eq] at h; omega
      try simp -implicitDefEqProofs (maxSteps := 1000000) (disch := omega) only [go_sem, storeAp, setCells, List.length_set, List.set_set, mark_len bR 1 mkB l k hi, List.getD_eq_getElem?_getD, mark_get bR 1 mkB l k hi', mark_reget bR 1 mkB l k hi', Option.getD_some, IntWalk.i64_in]
      repeat (first | refine ⟨by decide, ?_⟩ | refine ⟨decide_eq_true hi', ?_⟩)
      refine ⟨i + 1, ?_, hi', by omega⟩
      rw [← mark_set bR 1 mkB l k hi', show k + ((1 * (i + 1) : Nat) : Int) = k + (1 * i : Nat) + 1 by omega]
      rfl
    · have : i = l.length := by simp only [decide_eq_false_iff_not] at h; omega
      subst this
      simp -implicitDefEqProofs (maxSteps := 1000000) only [go_sem, mark_end]
def x_l_heldBoolS : FnX := ⟨23, [.tmp 4],
  .seq (.reg [⟨none, some 4, 4, .mv (.k (.one (.pv (.int .i64 0))))⟩])
 (.seq (.seq (.reg [⟨none, some 5, 5, .mv (.k (.one (.pv (.int .i64 0))))⟩])
 (.block 0 (.loop [0, 1, 5] (.seq (.seq (.reg [⟨none, some 6, 6, .mv (.t 5)⟩,
   ⟨none, some 7, 7, .mv (.t 0)⟩,
   ⟨none, some 8, 8, .len (.t 7)⟩,
   ⟨none, some 9, 9, .bin .lss (.t 6) (.t 8)⟩])
 (.cond 9 (.skip) (.exit 0)))
 (.seq (.block 1 (.seq (.seq (.reg [⟨none, some 12, 12, .mv (.t 0)⟩,
   ⟨none, some 13, 13, .mv (.t 5)⟩,
   ⟨none, some 14, 14, .iaddr 1 (.t 12) (.t 13)⟩,
   ⟨none, some 15, 15, .load none (.t 14)⟩,
   ⟨none, some 16, 16, .mv (.t 1)⟩,
   ⟨none, some 17, 17, .bin .rem (.t 16) (.k (.one (.pv (.int .i64 3))))⟩,
   ⟨none, some 18, 18, .bin .eql (.t 17) (.k (.one (.pv (.int .i64 0))))⟩,
   ⟨none, some 19, 19, .beq true (.t 15) (.t 18)⟩])
 (.cond 19 (.seq (.reg [⟨none, some 4, 4, .mv (.k (.one (.pv (.int .i64 (-1)))))⟩])
 (.ret)) (.skip)))
 (.reg [⟨none, some 20, 20, .mv (.t 1)⟩,
   ⟨none, some 21, 21, .bin .add (.t 20) (.k (.one (.pv (.int .i64 1))))⟩,
   ⟨none, some 1, 1, .mv (.t 21)⟩])))
 (.reg [⟨none, some 10, 10, .mv (.t 5)⟩,
   ⟨none, some 11, 11, .bin .add (.t 10) (.k (.one (.pv (.int .i64 1))))⟩,
   ⟨none, some 5, 5, .mv (.t 11)⟩]))))))
 (.norm [1] (.seq (.reg [⟨none, some 22, 22, .mv (.t 1)⟩,
   ⟨none, some 4, 4, .mv (.t 22)⟩])
 (.ret))))⟩
abbrev C_l_heldBoolS (Te : Nat → List AV → Res → Prop) : Prop := ∀ (n : Nat) (k : Int) (hl : n ≤ 2 ^ 31) (hk : 0 ≤ k ∧ k ≤ 2 ^ 46), Te 45 [.one (slT false 1 bR (marks 1 mkB n k)), .one (iT k)] ⟨[.one (iT (k + (1 * n : Nat)))], [[slT false 1 bR (marks 1 mkB n k)], [iT k]]⟩
theorem r_l_heldBoolS {Te : Nat → List AV → Res → Prop} : ∀ (n : Nat) (k : Int) (hl : n ≤ 2 ^ 31) (hk : 0 ≤ k ∧ k ≤ 2 ^ 46), RunFn Te x_l_heldBoolS [.one (slT false 1 bR (marks 1 mkB n k)), .one (iT k)] ⟨[.one (iT (k + (1 * n : Nat)))], [[slT false 1 bR (marks 1 mkB n k)], [iT k]]⟩ := by
  intro n k hl hk
  refine ⟨by simp -implicitDefEqProofs (maxSteps := 1000000) only [x_l_heldBoolS, go_sem], ?_⟩
  simp -implicitDefEqProofs (maxSteps := 1000000) (disch := omega) only [x_l_heldBoolS, go_sem, IntWalk.i64_in]
  refine loop_of (σ := Nat) (fun i => ⟨[(0, .one (.ro 1 ((marks 1 mkB n k).map bR))), (1, .one (.pv (.int .i64 (k + (1 * i : Nat))))), (5, .one (.pv (.int .i64 i)))], [], [(0, [slT false 1 bR (marks 1 mkB n k)]), (1, [iT k])]⟩) (fun i => i ≤ n) (fun i => n - i) 0 ?_ (Nat.zero_le _) ?_
  · simp -implicitDefEqProofs (maxSteps := 1000000) only [go_sem]; simp
  · intro i hi
    simp -implicitDefEqProofs (maxSteps := 1000000) only [go_sem, marks_length]
    refine ⟨fun h => ?_, fun h => ?_⟩
    · have hi' : i < n := by simp only [decide_eq_true_eq] at h; omega
      try simp -implicitDefEqProofs (maxSteps := 1000000) (disch := omega) only [go_sem, marks_get 1 mkB k hi', IntWalk.i64_in, mkB, bne_self_eq_false, decide_true, Bool.not_true]
      refine ⟨i + 1, ?_, hi', by omega⟩
      rw [show k + ((1 * (i + 1) : Nat) : Int) = k + (1 * i : Nat) + 1 by omega]
      rfl
    · have : i = n := by simp only [decide_eq_false_iff_not] at h; omega
      subst this
      simp -implicitDefEqProofs (maxSteps := 1000000) only [go_sem]
def x_l_szStringS : FnX := ⟨28, [.tmp 4],
  .seq (.reg [⟨none, some 4, 4, .mv (.k (.one (.pv (.int .i64 0))))⟩])
 (.seq (.reg [⟨none, some 6, 6, .mv (.t 1)⟩,
   ⟨none, some 7, 7, .mv (.t 0)⟩,
   ⟨none, some 8, 8, .len (.t 7)⟩,
   ⟨none, some 9, 9, .bin .sub (.t 6) (.t 8)⟩,
   ⟨none, some 1, 1, .mv (.t 9)⟩])
 (.seq (.seq (.reg [⟨none, some 10, 10, .mv (.t 1)⟩,
   ⟨none, some 11, 11, .bin .lss (.t 10) (.k (.one (.pv (.int .i64 0))))⟩])
 (.cond 11 (.seq (.reg [⟨none, some 4, 4, .mv (.k (.one (.pv (.int .i64 (-1)))))⟩])
 (.ret)) (.skip)))
 (.seq (.seq (.reg [⟨none, some 5, 5, .mv (.k (.one (.pv (.int .i64 0))))⟩])
 (.block 0 (.loop [0, 1, 5] (.seq (.seq (.reg [⟨none, some 12, 12, .mv (.t 5)⟩,
   ⟨none, some 13, 13, .mv (.t 0)⟩,
   ⟨none, some 14, 14, .len (.t 13)⟩,
   ⟨none, some 15, 15, .bin .lss (.t 12) (.t 14)⟩])
 (.cond 15 (.skip) (.exit 0)))
 (.seq (.block 1 (.seq (.reg [⟨none, some 18, 18, .mv (.t 1)⟩,
   ⟨none, some 19, 19, .mv (.t 0)⟩,
   ⟨none, some 20, 20, .mv (.t 5)⟩,
   ⟨none, some 21, 21, .iaddr 1 (.t 19) (.t 20)⟩,
   ⟨none, some 22, 22, .load none (.t 21)⟩,
   ⟨none, some 23, 23, .slen (.t 22)⟩,
   ⟨none, some 24, 24, .bin .sub (.t 18) (.t 23)⟩,
   ⟨none, some 1, 1, .mv (.t 24)⟩])
 (.seq (.reg [⟨none, some 25, 25, .mv (.t 1)⟩,
   ⟨none, some 26, 26, .bin .lss (.t 25) (.k (.one (.pv (.int .i64 0))))⟩])
 (.cond 26 (.seq (.reg [⟨none, some 4, 4, .mv (.k (.one (.pv (.int .i64 (-1)))))⟩])
 (.ret)) (.skip)))))
 (.reg [⟨none, some 16, 16, .mv (.t 5)⟩,
   ⟨none, some 17, 17, .bin .add (.t 16) (.k (.one (.pv (.int .i64 1))))⟩,
   ⟨none, some 5, 5, .mv (.t 17)⟩]))))))
 (.norm [1] (.seq (.reg [⟨none, some 27, 27, .mv (.t 1)⟩,
   ⟨none, some 4, 4, .mv (.t 27)⟩])
 (.ret))))))⟩
abbrev C_l_szStringS (Te : Nat → List AV → Res → Prop) : Prop := ∀ (l : List ByteArray) (k : Int) (hk : 0 ≤ k ∧ k ≤ 2 ^ 48) (hl : l.length ≤ 2 ^ 48) (hs : ∀ y ∈ l, y.size ≤ 2 ^ 48), Te 55 [.one (slT false 1 sR l), .one (iT k)] ⟨[.one (iT (szSl szStr l k))], [[slT false 1 sR l], [iT k]]⟩
theorem r_l_szStringS {Te : Nat → List AV → Res → Prop} : ∀ (l : List ByteArray) (k : Int) (hk : 0 ≤ k ∧ k ≤ 2 ^ 48) (hl : l.length ≤ 2 ^ 48) (hs : ∀ y ∈ l, y.size ≤ 2 ^ 48), RunFn Te x_l_szStringS [.one (slT false 1 sR l), .one (iT k)] ⟨[.one (iT (szSl szStr l k))], [[slT false 1 sR l], [iT k]]⟩ := by
  intro l k hk hl hs
  refine ⟨by simp -implicitDefEqProofs (maxSteps := 1000000) only [x_l_szStringS, go_sem], ?_⟩
  simp -implicitDefEqProofs (maxSteps := 1000000) (disch := omega) only [x_l_szStringS, go_sem, IntWalk.i64_in]
  refine ⟨fun h => ?_, fun h => ?_⟩
  · simp only [decide_eq_true_eq] at h
    simp only [szSl, szAll, if_pos h]
  · simp only [decide_eq_false_iff_not] at h
    refine loop_of (σ := Nat × Int) (fun x => ⟨[(0, .one (.ro 1 (l.map sR))), (1, .one (.pv (.int .i64 x.2))), (5, .one (.pv (.int .i64 x.1)))], [], [(0, [slT false 1 sR l]), (1, [iT k])]⟩) (fun x => x.1 ≤ l.length ∧ 0 ≤ x.2 ∧ x.2 ≤ k ∧ szSl szStr l k = szAll ((l.drop x.1).map szStr) x.2) (fun x => l.length - x.1) (0, k - l.length) ?_ ⟨Nat.zero_le _, by omega, by omega, by simp only [szSl, szAll, if_neg h, List.drop_zero]⟩ ?_
    · simp -implicitDefEqProofs (maxSteps := 1000000) only [go_sem]; rfl
    · rintro ⟨i, c⟩ ⟨hi, h0, h1, he⟩
      simp only at hi h0 h1 he
      simp -implicitDefEqProofs (maxSteps := 1000000) only [go_sem]
      refine ⟨fun h => ?_, fun h => ?_⟩
      · have hi' : i < l.length := by simp only [decide_eq_true_eq] at h; omega
        have hsz := hs l[i] (List.getElem_mem hi')
        rw [List.drop_eq_getElem_cons hi'] at he
        simp -implicitDefEqProofs (maxSteps := 1000000) (disch := omega) only [go_sem, List.getElem?_eq_getElem hi', IntWalk.i64_in]
        refine ⟨fun h2 => ?_, fun h2 => ?_⟩
        · simp only [decide_eq_true_eq] at h2
          rw [he]
          simp only [List.map_cons, szAll, szStr, left, if_pos h2, show (-1 : Int) < 0 by decide, if_true]
        · simp only [decide_eq_false_iff_not] at h2
          refine ⟨(i + 1, c - (l[i]).size), rfl, ⟨hi', by omega, by simp only; omega, ?_⟩, by simp only; omega⟩
          rw [he]
          simp only [List.map_cons, szAll, szStr, left, if_neg h2]
      · have hle : l.length ≤ i := by simp only [decide_eq_false_iff_not] at h; omega
        rw [List.drop_of_length_le hle] at he
        simp only [szAll, List.map_nil] at he
        rw [he]
def x_l_toStringS : FnX := ⟨22, [.tmp 2],
  .seq (.reg [⟨none, some 2, 2, .mv (.k (.one (.nils 1)))⟩])
 (.seq (.reg [⟨none, some 5, 5, .mv (.t 0)⟩,
   ⟨none, some 6, 6, .len (.t 5)⟩,
   ⟨none, some 7, 7, .mks 1 16 [.pv (.string ⟨#[]⟩)] (.t 6)⟩,
   ⟨none, some 3, 3, .mv (.t 7)⟩])
 (.seq (.seq (.reg [⟨none, some 4, 4, .mv (.k (.one (.pv (.int .i64 0))))⟩])
 (.block 0 (.loop [0, 3, 4] (.seq (.seq (.reg [⟨none, some 8, 8, .mv (.t 4)⟩,
   ⟨none, some 9, 9, .mv (.t 0)⟩,
   ⟨none, some 10, 10, .len (.t 9)⟩,
   ⟨none, some 11, 11, .bin .lss (.t 8) (.t 10)⟩])
 (.cond 11 (.skip) (.exit 0)))
 (.seq (.block 1 (.reg [⟨none, some 14, 14, .mv (.t 3)⟩,
   ⟨none, some 15, 15, .mv (.t 4)⟩,
   ⟨none, some 16, 16, .mv (.t 0)⟩,
   ⟨none, some 17, 17, .mv (.t 4)⟩,
   ⟨none, some 18, 18, .iaddr 1 (.t 16) (.t 17)⟩,
   ⟨none, some 19, 19, .load none (.t 18)⟩,
   ⟨none, some 20, 20, .iaddr 1 (.t 14) (.t 15)⟩,
   ⟨none, none, 100001, .store 1 (.t 20) (.t 19)⟩]))
 (.reg [⟨none, some 12, 12, .mv (.t 4)⟩,
   ⟨none, some 13, 13, .bin .add (.t 12) (.k (.one (.pv (.int .i64 1))))⟩,
   ⟨none, some 4, 4, .mv (.t 13)⟩]))))))
 (.norm [3] (.seq (.reg [⟨none, some 21, 21, .mv (.t 3)⟩,
   ⟨none, some 2, 2, .mv (.t 21)⟩])
 (.ret)))))⟩
abbrev C_l_toStringS (Te : Nat → List AV → Res → Prop) : Prop := ∀ (l : List ByteArray) (hl : l.length ≤ 2 ^ 31), Te 57 [.one (slT false 1 sR l)] ⟨[.one (slT true 1 sR l)], [[slT false 1 sR l]]⟩
theorem r_l_toStringS {Te : Nat → List AV → Res → Prop} : ∀ (l : List ByteArray) (hl : l.length ≤ 2 ^ 31), RunFn Te x_l_toStringS [.one (slT false 1 sR l)] ⟨[.one (slT true 1 sR l)], [[slT false 1 sR l]]⟩ := by
  intro l hl
  refine ⟨by simp -implicitDefEqProofs (maxSteps := 1000000) only [x_l_toStringS, go_sem], ?_⟩
  simp -implicitDefEqProofs (maxSteps := 1000000) (disch := omega) only [x_l_toStringS, go_sem, IntWalk.i64_in]
  refine ⟨⟨by simp only [decide_eq_true_eq]; omega, by simp only [decide_eq_true_eq]; omega⟩, ?_⟩
  refine loop_of (σ := Nat) (fun i => ⟨[(0, .one (.ro 1 (l.map sR))), (3, .one (.rf 23 0 [] 1 0 l.length)), (4, .one (.pv (.int .i64 i)))], [],
    [(0, [slT false 1 sR l]), (23, [.sl true 1 () ((l.take i).map sR ++ List.replicate (l.length - i) [.pv (.string ⟨#[]⟩)])])]⟩) (fun i => i ≤ l.length) (fun i => l.length - i) 0 ?_ (Nat.zero_le _) ?_
  · simp -implicitDefEqProofs (maxSteps := 1000000) only [go_sem]; rfl
  · intro i hi
    simp -implicitDefEqProofs (maxSteps := 1000000) only [go_sem]
    refine ⟨fun h => ?_, fun h => ?_⟩
    · have hi' : i < l.length := by simp only [decide_eq_true_eq] at h; omega
      simp -implicitDefEqProofs (maxSteps := 1000000) only [go_sem, List.getElem?_eq_getElem hi', fill_len sR l [.pv (.string ⟨#[]⟩)] hi, storeAp, setCells, List.getD_eq_getElem?_getD, fill_get sR l [.pv (.string ⟨#[]⟩)] hi']
      repeat (first | refine ⟨by decide, ?_⟩ | refine ⟨by simpa using hi', ?_⟩)
      refine ⟨i + 1, ?_, hi', by omega⟩
      rw [← fill_set sR l [.pv (.string ⟨#[]⟩)] hi', IntWalk.i64_in _ (by omega)]
      rfl
    · have : i = l.length := by simp only [decide_eq_false_iff_not] at h; omega
      subst this
      simp -implicitDefEqProofs (maxSteps := 1000000) only [go_sem, fill_len sR l [.pv (.string ⟨#[]⟩)] hi, fill_end]
      refine ⟨by simp, ?_⟩
      simp [take_map]
def x_l_eqStringS : FnX := ⟨26, [.tmp 4],
  .seq (.reg [⟨none, some 4, 4, .mv (.k (.one (.pv (.bool false))))⟩])
 (.seq (.seq (.reg [⟨none, some 6, 6, .mv (.t 0)⟩,
   ⟨none, some 7, 7, .len (.t 6)⟩,
   ⟨none, some 8, 8, .mv (.t 1)⟩,
   ⟨none, some 9, 9, .len (.t 8)⟩,
   ⟨none, some 10, 10, .bin .neq (.t 7) (.t 9)⟩])
 (.cond 10 (.seq (.reg [⟨none, some 4, 4, .mv (.k (.one (.pv (.bool false))))⟩])
 (.ret)) (.skip)))
 (.seq (.seq (.reg [⟨none, some 5, 5, .mv (.k (.one (.pv (.int .i64 0))))⟩])
 (.block 0 (.loop [0, 1, 5] (.seq (.seq (.reg [⟨none, some 11, 11, .mv (.t 5)⟩,
   ⟨none, some 12, 12, .mv (.t 0)⟩,
   ⟨none, some 13, 13, .len (.t 12)⟩,
   ⟨none, some 14, 14, .bin .lss (.t 11) (.t 13)⟩])
 (.cond 14 (.skip) (.exit 0)))
 (.seq (.block 1 (.seq (.draw [⟨none, some 17, 17, .mv (.t 0)⟩,
   ⟨none, some 18, 18, .mv (.t 5)⟩,
   ⟨none, some 19, 19, .iaddr 1 (.t 17) (.t 18)⟩,
   ⟨none, some 20, 20, .load none (.t 19)⟩,
   ⟨none, some 21, 21, .mv (.t 1)⟩,
   ⟨none, some 22, 22, .mv (.t 5)⟩,
   ⟨none, some 23, 23, .iaddr 1 (.t 21) (.t 22)⟩,
   ⟨none, some 24, 24, .load none (.t 23)⟩,
   ⟨none, some 25, 25, .bin .neq (.t 20) (.t 24)⟩] [[], [], [0, 1], [2], [], [], [4, 5], [6], [3, 7]])
 (.cond 25 (.seq (.reg [⟨none, some 4, 4, .mv (.k (.one (.pv (.bool false))))⟩])
 (.ret)) (.skip))))
 (.reg [⟨none, some 15, 15, .mv (.t 5)⟩,
   ⟨none, some 16, 16, .bin .add (.t 15) (.k (.one (.pv (.int .i64 1))))⟩,
   ⟨none, some 5, 5, .mv (.t 16)⟩]))))))
 (.norm [] (.seq (.reg [⟨none, some 4, 4, .mv (.k (.one (.pv (.bool true))))⟩])
 (.ret)))))⟩
abbrev C_l_eqStringS (Te : Nat → List AV → Res → Prop) : Prop := ∀ (l m : List ByteArray) (hl : l.length ≤ 2 ^ 31), Te 42 [.one (slT false 1 sR l), .one (slT false 1 sR m)] ⟨[.one (bT (decide (l = m)))], [[slT false 1 sR l], [slT false 1 sR m]]⟩
theorem r_l_eqStringS {Te : Nat → List AV → Res → Prop} : ∀ (l m : List ByteArray) (hl : l.length ≤ 2 ^ 31), RunFn Te x_l_eqStringS [.one (slT false 1 sR l), .one (slT false 1 sR m)] ⟨[.one (bT (decide (l = m)))], [[slT false 1 sR l], [slT false 1 sR m]]⟩ := by
  intro l m hl
  refine ⟨by simp -implicitDefEqProofs (maxSteps := 1000000) only [x_l_eqStringS, go_sem], ?_⟩
  simp -implicitDefEqProofs (maxSteps := 1000000) (disch := omega) only [x_l_eqStringS, go_sem, IntWalk.i64_in]
  refine ⟨fun h => ?_, fun h => ?_⟩
  · have : l ≠ m := fun e => by simp [e] at h
    simp [this]
  · have hlen : l.length = m.length := by simp at h; omega
    refine loop_of (σ := Nat) (fun i => ⟨[(0, .one (.ro 1 (l.map sR))), (1, .one (.ro 1 (m.map sR))), (5, .one (.pv (.int .i64 i)))], [], [(0, [slT false 1 sR l]), (1, [slT false 1 sR m])]⟩) (fun i => i ≤ l.length ∧ l.take i = m.take i) (fun i => l.length - i) 0 ?_ ⟨Nat.zero_le _, by simp⟩ ?_
    · simp -implicitDefEqProofs (maxSteps := 1000000) only [go_sem]; rfl
    · intro i ⟨hi, hs⟩
      simp -implicitDefEqProofs (maxSteps := 1000000) only [go_sem]
      refine ⟨fun h => ?_, fun h => ?_⟩
      · have hi' : i < l.length := by simp only [decide_eq_true_eq] at h; omega
        have hj' : i < m.length := by omega
        simp -implicitDefEqProofs (maxSteps := 1000000) only [go_sem, List.getElem?_eq_getElem hi', List.getElem?_eq_getElem hj']
        refine ⟨by decide, fun h2 => ?_, fun h2 => ?_⟩
        · have : l ≠ m := fun e => by subst e; simp at h2
          simp [this]
        · refine ⟨i + 1, by rw [IntWalk.i64_in _ (by omega)]; rfl, ⟨hi', same_step hi' hj' hs ?_⟩, by omega⟩
          simpa using h2
      · have hle : l.length ≤ i := by simp only [decide_eq_false_iff_not] at h; omega
        have : l = m := same_end hle (by omega) hs
        simp [this]
def x_l_markStringS : FnX := ⟨20, [.tmp 4],
  .seq (.reg [⟨none, some 4, 4, .mv (.k (.one (.pv (.int .i64 0))))⟩])
 (.seq (.seq (.reg [⟨none, some 5, 5, .mv (.k (.one (.pv (.int .i64 0))))⟩])
 (.block 0 (.loop [0, 1, 5] (.seq (.seq (.reg [⟨none, some 6, 6, .mv (.t 5)⟩,
   ⟨none, some 7, 7, .mv (.t 0)⟩,
   ⟨none, some 8, 8, .len (.t 7)⟩,
   ⟨none, some 9, 9, .bin .lss (.t 6) (.t 8)⟩])
 (.cond 9 (.skip) (.exit 0)))
 (.seq (.block 1 (.seq (.reg [⟨none, some 12, 12, .mv (.t 0)⟩,
   ⟨none, some 13, 13, .mv (.t 5)⟩,
   ⟨none, some 14, 14, .mv (.t 1)⟩,
   ⟨none, some 15, 15, .call 63 [0] [(.t 14)]⟩,
   ⟨none, some 16, 16, .iaddr 1 (.t 12) (.t 13)⟩,
   ⟨none, none, 100001, .store 1 (.t 16) (.t 15)⟩])
 (.reg [⟨none, some 17, 17, .mv (.t 1)⟩,
   ⟨none, some 18, 18, .bin .add (.t 17) (.k (.one (.pv (.int .i64 1))))⟩,
   ⟨none, some 1, 1, .mv (.t 18)⟩])))
 (.reg [⟨none, some 10, 10, .mv (.t 5)⟩,
   ⟨none, some 11, 11, .bin .add (.t 10) (.k (.one (.pv (.int .i64 1))))⟩,
   ⟨none, some 5, 5, .mv (.t 11)⟩]))))))
 (.norm [1] (.seq (.reg [⟨none, some 19, 19, .mv (.t 1)⟩,
   ⟨none, some 4, 4, .mv (.t 19)⟩])
 (.ret))))⟩
abbrev C_l_markStringS (Te : Nat → List AV → Res → Prop) : Prop := ∀ (l : List ByteArray) (k : Int) (hl : l.length ≤ 2 ^ 31) (hk : 0 ≤ k ∧ k ≤ 2 ^ 46), Te 44 [.one (slT true 1 sR l), .one (iT k)] ⟨[.one (iT (k + (1 * l.length : Nat)))], [[slT true 1 sR (marks 1 mkS l.length k)], [iT k]]⟩
theorem r_l_markStringS {Te : Nat → List AV → Res → Prop} (c_l_markText : C_l_markText Te) : ∀ (l : List ByteArray) (k : Int) (hl : l.length ≤ 2 ^ 31) (hk : 0 ≤ k ∧ k ≤ 2 ^ 46), RunFn Te x_l_markStringS [.one (slT true 1 sR l), .one (iT k)] ⟨[.one (iT (k + (1 * l.length : Nat)))], [[slT true 1 sR (marks 1 mkS l.length k)], [iT k]]⟩ := by
  intro l k hl hk
  refine ⟨by simp -implicitDefEqProofs (maxSteps := 1000000) only [x_l_markStringS, go_sem], ?_⟩
  simp -implicitDefEqProofs (maxSteps := 1000000) (disch := omega) only [x_l_markStringS, go_sem, IntWalk.i64_in]
  refine loop_of (σ := Nat) (fun i => ⟨[(0, .one (.rf 0 0 [] 1 0 l.length)), (1, .one (.pv (.int .i64 (k + (1 * i : Nat))))), (5, .one (.pv (.int .i64 i)))], [], [(0, [.sl true 1 () ((marks 1 mkS i k).map sR ++ (l.drop i).map sR)]), (1, [iT k])]⟩) (fun i => i ≤ l.length) (fun i => l.length - i) 0 ?_ (Nat.zero_le _) ?_
  · simp -implicitDefEqProofs (maxSteps := 1000000) only [go_sem]; simp [marks]
  · intro i hi
    simp -implicitDefEqProofs (maxSteps := 1000000) only [go_sem]
    refine ⟨fun h => ?_, fun h => ?_⟩
    · have hi' : i < l.length := by simp only [decide_eq_true_eq] at h; omega
      try simp -implicitDefEqProofs (maxSteps := 1000000) (disch := omega) only [go_sem, storeAp, setCells, List.length_set, List.set_set, mark_len sR 1 mkS l k hi, List.getD_eq_getElem?_getD, mark_get sR 1 mkS l k hi', mark_reget sR 1 mkS l k hi', Option.getD_some, IntWalk.i64_in]
      repeat (first | refine ⟨by decide, ?_⟩ | refine ⟨decide_eq_true hi', ?_⟩)
      refine .of (c_l_markText _ (by omega)) ?_
      simp -implicitDefEqProofs (maxSteps := 1000000) (disch := omega) only [go_sem, storeAp, setCells, List.length_set, List.set_set, mark_len sR 1 mkS l k hi, List.getD_eq_getElem?_getD, mark_get sR 1 mkS l k hi', mark_reget sR 1 mkS l k hi', Option.getD_some, IntWalk.i64_in]
      repeat (first | refine ⟨by decide, ?_⟩ | refine ⟨decide_eq_true hi', ?_⟩)
      refine ⟨i + 1, ?_, hi', by omega⟩
      rw [← mark_set sR 1 mkS l k hi', show k + ((1 * (i + 1) : Nat) : Int) = k + (1 * i : Nat) + 1 by omega]
      rfl
    · have : i = l.length := by simp only [decide_eq_false_iff_not] at h; omega
      subst this
      simp -implicitDefEqProofs (maxSteps := 1000000) only [go_sem, mark_end]
def x_l_heldStringS : FnX := ⟨22, [.tmp 4],
  .seq (.reg [⟨none, some 4, 4, .mv (.k (.one (.pv (.int .i64 0))))⟩])
 (.seq (.seq (.reg [⟨none, some 5, 5, .mv (.k (.one (.pv (.int .i64 0))))⟩])
 (.block 0 (.loop [0, 1, 5] (.seq (.seq (.reg [⟨none, some 6, 6, .mv (.t 5)⟩,
   ⟨none, some 7, 7, .mv (.t 0)⟩,
   ⟨none, some 8, 8, .len (.t 7)⟩,
   ⟨none, some 9, 9, .bin .lss (.t 6) (.t 8)⟩])
 (.cond 9 (.skip) (.exit 0)))
 (.seq (.block 1 (.seq (.seq (.draw [⟨none, some 12, 12, .mv (.t 0)⟩,
   ⟨none, some 13, 13, .mv (.t 5)⟩,
   ⟨none, some 14, 14, .iaddr 1 (.t 12) (.t 13)⟩,
   ⟨none, some 15, 15, .load none (.t 14)⟩,
   ⟨none, some 16, 16, .mv (.t 1)⟩,
   ⟨none, some 17, 17, .call 63 [0] [(.t 16)]⟩,
   ⟨none, some 18, 18, .bin .neq (.t 15) (.t 17)⟩] [[], [], [0, 1], [2], [], [4], [3, 5]])
 (.cond 18 (.seq (.reg [⟨none, some 4, 4, .mv (.k (.one (.pv (.int .i64 (-1)))))⟩])
 (.ret)) (.skip)))
 (.reg [⟨none, some 19, 19, .mv (.t 1)⟩,
   ⟨none, some 20, 20, .bin .add (.t 19) (.k (.one (.pv (.int .i64 1))))⟩,
   ⟨none, some 1, 1, .mv (.t 20)⟩])))
 (.reg [⟨none, some 10, 10, .mv (.t 5)⟩,
   ⟨none, some 11, 11, .bin .add (.t 10) (.k (.one (.pv (.int .i64 1))))⟩,
   ⟨none, some 5, 5, .mv (.t 11)⟩]))))))
 (.norm [1] (.seq (.reg [⟨none, some 21, 21, .mv (.t 1)⟩,
   ⟨none, some 4, 4, .mv (.t 21)⟩])
 (.ret))))⟩
abbrev C_l_heldStringS (Te : Nat → List AV → Res → Prop) : Prop := ∀ (n : Nat) (k : Int) (hl : n ≤ 2 ^ 31) (hk : 0 ≤ k ∧ k ≤ 2 ^ 46), Te 46 [.one (slT false 1 sR (marks 1 mkS n k)), .one (iT k)] ⟨[.one (iT (k + (1 * n : Nat)))], [[slT false 1 sR (marks 1 mkS n k)], [iT k]]⟩
theorem r_l_heldStringS {Te : Nat → List AV → Res → Prop} (c_l_markText : C_l_markText Te) : ∀ (n : Nat) (k : Int) (hl : n ≤ 2 ^ 31) (hk : 0 ≤ k ∧ k ≤ 2 ^ 46), RunFn Te x_l_heldStringS [.one (slT false 1 sR (marks 1 mkS n k)), .one (iT k)] ⟨[.one (iT (k + (1 * n : Nat)))], [[slT false 1 sR (marks 1 mkS n k)], [iT k]]⟩ := by
  intro n k hl hk
  refine ⟨by simp -implicitDefEqProofs (maxSteps := 1000000) only [x_l_heldStringS, go_sem], ?_⟩
  simp -implicitDefEqProofs (maxSteps := 1000000) (disch := omega) only [x_l_heldStringS, go_sem, IntWalk.i64_in]
  refine loop_of (σ := Nat) (fun i => ⟨[(0, .one (.ro 1 ((marks 1 mkS n k).map sR))), (1, .one (.pv (.int .i64 (k + (1 * i : Nat))))), (5, .one (.pv (.int .i64 i)))], [], [(0, [slT false 1 sR (marks 1 mkS n k)]), (1, [iT k])]⟩) (fun i => i ≤ n) (fun i => n - i) 0 ?_ (Nat.zero_le _) ?_
  · simp -implicitDefEqProofs (maxSteps := 1000000) only [go_sem]; simp
  · intro i hi
    simp -implicitDefEqProofs (maxSteps := 1000000) only [go_sem, marks_length]
    refine ⟨fun h => ?_, fun h => ?_⟩
    · have hi' : i < n := by simp only [decide_eq_true_eq] at h; omega
      try simp -implicitDefEqProofs (maxSteps := 1000000) (disch := omega) only [go_sem, marks_get 1 mkS k hi', IntWalk.i64_in, bne_self_eq_false, decide_true, Bool.not_true]
      refine .of (c_l_markText _ (by omega)) ?_
      simp -implicitDefEqProofs (maxSteps := 1000000) (disch := omega) only [go_sem, marks_get 1 mkS k hi', IntWalk.i64_in, bne_self_eq_false, decide_true, Bool.not_true]
      repeat (refine ⟨by decide, ?_⟩)
      refine ⟨i + 1, ?_, hi', by omega⟩
      rw [show k + ((1 * (i + 1) : Nat) : Int) = k + (1 * i : Nat) + 1 by omega]
      rfl
    · have : i = n := by simp only [decide_eq_false_iff_not] at h; omega
      subst this
      simp -implicitDefEqProofs (maxSteps := 1000000) only [go_sem]
end Go.X

/- C -/
namespace Go.X
set_option maxRecDepth 100000
set_option maxHeartbeats 8000000
structure Msg where
  Kind : Int
  From : Int
  To : Int
  Seq : Int
  Key : ByteArray
  Text : ByteArray
  N : Int
  Code : Int
  deriving DecidableEq
abbrev Msg.row (x : Msg) : List T := [iT x.Kind, iT x.From, iT x.To, iT x.Seq, sT x.Key, sT x.Text, iT x.N, iT x.Code]
def Msg.In (n : Nat) (x : Msg) : Prop := x.Key.size ≤ n ∧ x.Text.size ≤ n
theorem Msg.In.mono {x : Msg} {n m : Nat} (h : x.In n) (hn : n ≤ m) : x.In m := by
  simp only [Msg.In] at h ⊢
  exact ⟨Nat.le_trans h.1 hn, Nat.le_trans h.2 hn⟩
def szMsg (x : Msg) (k : Int) : Int := szAll [(fun k => k - (x.Key.size : Nat)), (fun k => k - (x.Text.size : Nat))] k
theorem szMsg_sane (x : Msg) : Sane (szMsg x) := Sane.all (.cons (Sane.sub _) (.cons (Sane.sub _) .nil))
theorem szMsg_in {x : Msg} {k : Int} {n : Nat} (hk : 0 ≤ k) (hn : k ≤ n) (h : 0 ≤ szMsg x k) : x.In n := by
  obtain ⟨⟨j0, a0, b0, c0⟩, ⟨j1, a1, b1, c1⟩, _⟩ := szAll_ex (.cons (Sane.sub _) (.cons (Sane.sub _) .nil)) hk hn h
  exact ⟨(by have q : (0 : Int) ≤ j0 - _ := c0; omega), (by have q : (0 : Int) ≤ j1 - _ := c1; omega)⟩
def mkMsg (k : Int) : Msg := ⟨k, k + 1, k + 1 + 1, k + 1 + 1 + 1, mkS (k + 1 + 1 + 1 + 1), mkS (k + 1 + 1 + 1 + 1 + 1), k + 1 + 1 + 1 + 1 + 1 + 1, k + 1 + 1 + 1 + 1 + 1 + 1 + 1⟩
def x_l_szMsg : FnX := ⟨20, [.tmp 4],
  .seq (.reg [⟨none, some 2, 2, .box (.t 0)⟩,
   ⟨none, some 4, 4, .mv (.k (.one (.pv (.int .i64 0))))⟩])
 (.seq (.reg [⟨none, some 5, 5, .mv (.t 1)⟩,
   ⟨none, some 6, 6, .faddr (.t 2) 4⟩,
   ⟨none, some 7, 7, .load none (.t 6)⟩,
   ⟨none, some 8, 8, .slen (.t 7)⟩,
   ⟨none, some 9, 9, .bin .sub (.t 5) (.t 8)⟩,
   ⟨none, some 1, 1, .mv (.t 9)⟩])
 (.seq (.seq (.reg [⟨none, some 10, 10, .mv (.t 1)⟩,
   ⟨none, some 11, 11, .bin .lss (.t 10) (.k (.one (.pv (.int .i64 0))))⟩])
 (.cond 11 (.seq (.reg [⟨none, some 4, 4, .mv (.k (.one (.pv (.int .i64 (-1)))))⟩])
 (.ret)) (.skip)))
 (.seq (.reg [⟨none, some 12, 12, .mv (.t 1)⟩,
   ⟨none, some 13, 13, .faddr (.t 2) 5⟩,
   ⟨none, some 14, 14, .load none (.t 13)⟩,
   ⟨none, some 15, 15, .slen (.t 14)⟩,
   ⟨none, some 16, 16, .bin .sub (.t 12) (.t 15)⟩,
   ⟨none, some 1, 1, .mv (.t 16)⟩])
 (.seq (.seq (.reg [⟨none, some 17, 17, .mv (.t 1)⟩,
   ⟨none, some 18, 18, .bin .lss (.t 17) (.k (.one (.pv (.int .i64 0))))⟩])
 (.cond 18 (.seq (.reg [⟨none, some 4, 4, .mv (.k (.one (.pv (.int .i64 (-1)))))⟩])
 (.ret)) (.skip)))
 (.seq (.reg [⟨none, some 19, 19, .mv (.t 1)⟩,
   ⟨none, some 4, 4, .mv (.t 19)⟩])
 (.ret))))))⟩
abbrev C_l_szMsg (Te : Nat → List AV → Res → Prop) : Prop := ∀ (x : Msg) (k : Int) (hx : x.In (2 ^ 48)) (hk : 0 ≤ k ∧ k ≤ 2 ^ 48), Te 36 [.agg x.row, .one (iT k)] ⟨[.one (iT (szMsg x k))], [x.row, [iT k]]⟩
theorem r_l_szMsg {Te : Nat → List AV → Res → Prop} : ∀ (x : Msg) (k : Int) (hx : x.In (2 ^ 48)) (hk : 0 ≤ k ∧ k ≤ 2 ^ 48), RunFn Te x_l_szMsg [.agg x.row, .one (iT k)] ⟨[.one (iT (szMsg x k))], [x.row, [iT k]]⟩ := by
  intro x k hx hk
  refine ⟨by simp -implicitDefEqProofs (maxSteps := 1000000) only [x_l_szMsg, go_sem], ?_⟩
  obtain ⟨h0, h1⟩ := hx
  simp -implicitDefEqProofs (maxSteps := 1000000) (disch := omega) only [x_l_szMsg, go_sem, IntWalk.i64_in]
  refine ⟨fun q0 => ?_, fun q0 => ?_⟩
  · simp only [decide_eq_true_eq] at q0
    simp only [szMsg, szAll, if_pos q0]
  · simp only [decide_eq_false_iff_not] at q0
    have k1 : 0 ≤ (k - (x.Key.size : Nat)) ∧ (k - (x.Key.size : Nat)) ≤ 2 ^ 48 := ⟨by omega, Int.le_trans (Sane.sub _ _ hk.1) hk.2⟩
    try simp -implicitDefEqProofs (maxSteps := 1000000) (disch := omega) only [go_sem, IntWalk.i64_in]
    refine ⟨fun q1 => ?_, fun q1 => ?_⟩
    · simp only [decide_eq_true_eq] at q1
      simp only [szMsg, szAll, if_neg q0, if_pos q1]
    · simp only [decide_eq_false_iff_not] at q1
      have k2 : 0 ≤ ((k - (x.Key.size : Nat)) - (x.Text.size : Nat)) ∧ ((k - (x.Key.size : Nat)) - (x.Text.size : Nat)) ≤ 2 ^ 48 := ⟨by omega, Int.le_trans (Sane.sub _ _ k1.1) k1.2⟩
      simp only [szMsg, szAll, if_neg q0, if_neg q1]
def x_l_toMsg_5 : XCode := .seq (.reg [⟨none, some 28, 28, .load (some 8) (.t 3)⟩,
   ⟨none, none, 100009, .store 8 (.t 2) (.t 28)⟩])
 (.ret)
def x_l_toMsg_4 : XCode := .seq (.reg [⟨none, some 22, 22, .faddr (.t 1) 6⟩,
   ⟨none, some 23, 23, .load none (.t 22)⟩,
   ⟨none, some 24, 24, .faddr (.t 3) 6⟩,
   ⟨none, none, 100007, .store 1 (.t 24) (.t 23)⟩])
 (.seq (.reg [⟨none, some 25, 25, .faddr (.t 1) 7⟩,
   ⟨none, some 26, 26, .load none (.t 25)⟩,
   ⟨none, some 27, 27, .faddr (.t 3) 7⟩,
   ⟨none, none, 100008, .store 1 (.t 27) (.t 26)⟩])
 (x_l_toMsg_5))
def x_l_toMsg_3 : XCode := .seq (.reg [⟨none, some 16, 16, .faddr (.t 1) 4⟩,
   ⟨none, some 17, 17, .load none (.t 16)⟩,
   ⟨none, some 18, 18, .faddr (.t 3) 4⟩,
   ⟨none, none, 100005, .store 1 (.t 18) (.t 17)⟩])
 (.seq (.reg [⟨none, some 19, 19, .faddr (.t 1) 5⟩,
   ⟨none, some 20, 20, .load none (.t 19)⟩,
   ⟨none, some 21, 21, .faddr (.t 3) 5⟩,
   ⟨none, none, 100006, .store 1 (.t 21) (.t 20)⟩])
 (x_l_toMsg_4))
def x_l_toMsg_2 : XCode := .seq (.reg [⟨none, some 10, 10, .faddr (.t 1) 2⟩,
   ⟨none, some 11, 11, .load none (.t 10)⟩,
   ⟨none, some 12, 12, .faddr (.t 3) 2⟩,
   ⟨none, none, 100003, .store 1 (.t 12) (.t 11)⟩])
 (.seq (.reg [⟨none, some 13, 13, .faddr (.t 1) 3⟩,
   ⟨none, some 14, 14, .load none (.t 13)⟩,
   ⟨none, some 15, 15, .faddr (.t 3) 3⟩,
   ⟨none, none, 100004, .store 1 (.t 15) (.t 14)⟩])
 (x_l_toMsg_3))
def x_l_toMsg_1 : XCode := .seq (.reg [⟨none, some 4, 4, .faddr (.t 1) 0⟩,
   ⟨none, some 5, 5, .load none (.t 4)⟩,
   ⟨none, some 6, 6, .faddr (.t 3) 0⟩,
   ⟨none, none, 100001, .store 1 (.t 6) (.t 5)⟩])
 (.seq (.reg [⟨none, some 7, 7, .faddr (.t 1) 1⟩,
   ⟨none, some 8, 8, .load none (.t 7)⟩,
   ⟨none, some 9, 9, .faddr (.t 3) 1⟩,
   ⟨none, none, 100002, .store 1 (.t 9) (.t 8)⟩])
 (x_l_toMsg_2))
def x_l_toMsg : FnX := ⟨29, [.cell 2 (some 8)],
  .seq (.reg [⟨none, some 1, 1, .box (.t 0)⟩,
   ⟨none, some 2, 2, .alloc [.pv (.int .i64 0), .pv (.int .i64 0), .pv (.int .i64 0), .pv (.int .i64 0), .pv (.string ⟨#[]⟩), .pv (.string ⟨#[]⟩), .pv (.int .i64 0), .pv (.int .i64 0)]⟩])
 (.seq (.reg [⟨none, some 3, 3, .alloc [.pv (.int .i64 0), .pv (.int .i64 0), .pv (.int .i64 0), .pv (.int .i64 0), .pv (.string ⟨#[]⟩), .pv (.string ⟨#[]⟩), .pv (.int .i64 0), .pv (.int .i64 0)]⟩])
 (x_l_toMsg_1))⟩
abbrev C_l_toMsg (Te : Nat → List AV → Res → Prop) : Prop := ∀ (x : Msg), Te 38 [.agg x.row] ⟨[.agg x.row], [x.row]⟩
theorem r_l_toMsg {Te : Nat → List AV → Res → Prop} : ∀ (x : Msg), RunFn Te x_l_toMsg [.agg x.row] ⟨[.agg x.row], [x.row]⟩ := by
  intro x
  refine ⟨by simp -implicitDefEqProofs (maxSteps := 1000000) only [x_l_toMsg, go_sem], ?_⟩
  simp -implicitDefEqProofs (maxSteps := 1000000) only [x_l_toMsg, go_sem]
  simp -implicitDefEqProofs (maxSteps := 1000000) only [x_l_toMsg_1, go_sem]
  simp -implicitDefEqProofs (maxSteps := 1000000) only [x_l_toMsg_2, go_sem]
  simp -implicitDefEqProofs (maxSteps := 1000000) only [x_l_toMsg_3, go_sem]
  simp -implicitDefEqProofs (maxSteps := 1000000) only [x_l_toMsg_4, go_sem]
  simp -implicitDefEqProofs (maxSteps := 1000000) only [x_l_toMsg_5, go_sem]
end Go.X

/- D -/
namespace Go.X
set_option maxRecDepth 100000
set_option maxHeartbeats 8000000
structure Lead where
  Phase : Int
  Acked : List Bool
  Ended : List Bool
  At : List ByteArray
  deriving DecidableEq
abbrev Lead.enc (o : Bool) (x : Lead) : List T := [iT x.Phase, slT o 1 bR x.Acked, slT o 1 bR x.Ended, slT o 1 sR x.At]
def Lead.In (n : Nat) (x : Lead) : Prop := x.Acked.length ≤ n ∧ x.Ended.length ≤ n ∧ (x.At.length ≤ n ∧ ∀ y ∈ x.At, y.size ≤ n)
theorem Lead.In.mono {x : Lead} {n m : Nat} (h : x.In n) (hn : n ≤ m) : x.In m := by
  simp only [Lead.In] at h ⊢
  exact ⟨Nat.le_trans h.1 hn, Nat.le_trans h.2.1 hn, ⟨Nat.le_trans h.2.2.1 hn, fun y hy => Nat.le_trans (h.2.2.2 y hy) hn⟩⟩
def szLead (x : Lead) (k : Int) : Int := szAll [(fun k => left (k - (x.Acked.length : Nat))), (fun k => left (k - (x.Ended.length : Nat))), (szSl szStr x.At)] k
theorem szLead_sane (x : Lead) : Sane (szLead x) := Sane.all (.cons (Sane.left _) (.cons (Sane.left _) (.cons (Sane.sl szStr_sane _) .nil)))
theorem szLead_in {x : Lead} {k : Int} {n : Nat} (hk : 0 ≤ k) (hn : k ≤ n) (h : 0 ≤ szLead x k) : x.In n := by
  obtain ⟨⟨j0, a0, b0, c0⟩, ⟨j1, a1, b1, c1⟩, ⟨j2, a2, b2, c2⟩, _⟩ := szAll_ex (.cons (Sane.left _) (.cons (Sane.left _) (.cons (Sane.sl szStr_sane _) .nil))) hk hn h
  exact ⟨(by have := left_in c0; omega), (by have := left_in c1; omega), (szSl_in szStr_sane (fun a j h0 hn h => by have := left_in h; omega) a2 b2 c2)⟩
def Lead.Len (x : Lead) : Prop := x.Acked.length ≤ 2 ^ 31 ∧ x.Ended.length ≤ 2 ^ 31 ∧ x.At.length ≤ 2 ^ 31
theorem Lead.In.len {x : Lead} {n : Nat} (h : x.In n) (hn : n ≤ 2 ^ 31) : x.Len := by
  obtain ⟨h0, h1, h2⟩ := h
  exact ⟨Nat.le_trans h0 hn, Nat.le_trans h1 hn, Nat.le_trans h2.1 hn⟩
def Lead.mark (x : Lead) (k : Int) : Lead := ⟨x.Phase, marks 1 mkB x.Acked.length (k), marks 1 mkB x.Ended.length (k + (1 * x.Acked.length : Nat)), marks 1 mkS x.At.length (k + (1 * x.Acked.length : Nat) + (1 * x.Ended.length : Nat))⟩
def Lead.far (x : Lead) (k : Int) : Int := k + (1 * x.Acked.length : Nat) + (1 * x.Ended.length : Nat) + (1 * x.At.length : Nat)
theorem Lead.mark_Acked (x : Lead) (k : Int) : (x.mark k).Acked.length = x.Acked.length := by simp [Lead.mark, marks_length]
theorem Lead.take_Acked {β : Type} (f : Bool → β) (x : Lead) (k : Int) : ((x.mark k).Acked.map f).take x.Acked.length = (x.mark k).Acked.map f := by rw [← x.mark_Acked k, take_map]
theorem Lead.mark_Ended (x : Lead) (k : Int) : (x.mark k).Ended.length = x.Ended.length := by simp [Lead.mark, marks_length]
theorem Lead.take_Ended {β : Type} (f : Bool → β) (x : Lead) (k : Int) : ((x.mark k).Ended.map f).take x.Ended.length = (x.mark k).Ended.map f := by rw [← x.mark_Ended k, take_map]
theorem Lead.mark_At (x : Lead) (k : Int) : (x.mark k).At.length = x.At.length := by simp [Lead.mark, marks_length]
theorem Lead.take_At {β : Type} (f : ByteArray → β) (x : Lead) (k : Int) : ((x.mark k).At.map f).take x.At.length = (x.mark k).At.map f := by rw [← x.mark_At k, take_map]
def x_l_szLead : FnX := ⟨24, [.tmp 4],
  .seq (.reg [⟨none, some 2, 2, .box (.t 0)⟩,
   ⟨none, some 4, 4, .mv (.k (.one (.pv (.int .i64 0))))⟩])
 (.seq (.reg [⟨none, some 5, 5, .faddr (.t 2) 1⟩,
   ⟨none, some 6, 6, .load none (.t 5)⟩,
   ⟨none, some 7, 7, .mv (.t 1)⟩,
   ⟨none, some 8, 8, .call 54 [0, 0] [(.t 6), (.t 7)]⟩,
   ⟨none, some 1, 1, .mv (.t 8)⟩])
 (.seq (.seq (.reg [⟨none, some 9, 9, .mv (.t 1)⟩,
   ⟨none, some 10, 10, .bin .lss (.t 9) (.k (.one (.pv (.int .i64 0))))⟩])
 (.cond 10 (.seq (.reg [⟨none, some 4, 4, .mv (.k (.one (.pv (.int .i64 (-1)))))⟩])
 (.ret)) (.skip)))
 (.seq (.reg [⟨none, some 11, 11, .faddr (.t 2) 2⟩,
   ⟨none, some 12, 12, .load none (.t 11)⟩,
   ⟨none, some 13, 13, .mv (.t 1)⟩,
   ⟨none, some 14, 14, .call 54 [0, 0] [(.t 12), (.t 13)]⟩,
   ⟨none, some 1, 1, .mv (.t 14)⟩])
 (.seq (.seq (.reg [⟨none, some 15, 15, .mv (.t 1)⟩,
   ⟨none, some 16, 16, .bin .lss (.t 15) (.k (.one (.pv (.int .i64 0))))⟩])
 (.cond 16 (.seq (.reg [⟨none, some 4, 4, .mv (.k (.one (.pv (.int .i64 (-1)))))⟩])
 (.ret)) (.skip)))
 (.seq (.reg [⟨none, some 17, 17, .faddr (.t 2) 3⟩,
   ⟨none, some 18, 18, .load none (.t 17)⟩,
   ⟨none, some 19, 19, .mv (.t 1)⟩,
   ⟨none, some 20, 20, .call 55 [0, 0] [(.t 18), (.t 19)]⟩,
   ⟨none, some 1, 1, .mv (.t 20)⟩])
 (.seq (.seq (.reg [⟨none, some 21, 21, .mv (.t 1)⟩,
   ⟨none, some 22, 22, .bin .lss (.t 21) (.k (.one (.pv (.int .i64 0))))⟩])
 (.cond 22 (.seq (.reg [⟨none, some 4, 4, .mv (.k (.one (.pv (.int .i64 (-1)))))⟩])
 (.ret)) (.skip)))
 (.seq (.reg [⟨none, some 23, 23, .mv (.t 1)⟩,
   ⟨none, some 4, 4, .mv (.t 23)⟩])
 (.ret))))))))⟩
abbrev C_l_szLead (Te : Nat → List AV → Res → Prop) : Prop := ∀ (x : Lead) (k : Int) (hx : x.In (2 ^ 48)) (hk : 0 ≤ k ∧ k ≤ 2 ^ 48), Te 25 [.agg (x.enc false), .one (iT k)] ⟨[.one (iT (szLead x k))], [(x.enc false), [iT k]]⟩
theorem r_l_szLead {Te : Nat → List AV → Res → Prop} (c_l_szBoolS : C_l_szBoolS Te) (c_l_szStringS : C_l_szStringS Te) : ∀ (x : Lead) (k : Int) (hx : x.In (2 ^ 48)) (hk : 0 ≤ k ∧ k ≤ 2 ^ 48), RunFn Te x_l_szLead [.agg (x.enc false), .one (iT k)] ⟨[.one (iT (szLead x k))], [(x.enc false), [iT k]]⟩ := by
  intro x k hx hk
  refine ⟨by simp -implicitDefEqProofs (maxSteps := 1000000) only [x_l_szLead, go_sem], ?_⟩
  obtain ⟨h0, h1, h2⟩ := hx
  simp -implicitDefEqProofs (maxSteps := 1000000) (disch := omega) only [x_l_szLead, go_sem, IntWalk.i64_in]
  refine .of (c_l_szBoolS _ _ h0 hk) ?_
  simp -implicitDefEqProofs (maxSteps := 1000000) (disch := omega) only [go_sem, IntWalk.i64_in]
  refine ⟨fun q0 => ?_, fun q0 => ?_⟩
  · simp only [decide_eq_true_eq] at q0
    simp only [szLead, szAll, if_pos q0]
  · simp only [decide_eq_false_iff_not] at q0
    have k1 : 0 ≤ (left (k - (x.Acked.length : Nat))) ∧ (left (k - (x.Acked.length : Nat))) ≤ 2 ^ 48 := ⟨by omega, Int.le_trans (Sane.left _ _ hk.1) hk.2⟩
    refine .of (c_l_szBoolS _ _ h1 k1) ?_
    simp -implicitDefEqProofs (maxSteps := 1000000) (disch := omega) only [go_sem, IntWalk.i64_in]
    refine ⟨fun q1 => ?_, fun q1 => ?_⟩
    · simp only [decide_eq_true_eq] at q1
      simp only [szLead, szAll, if_neg q0, if_pos q1]
    · simp only [decide_eq_false_iff_not] at q1
      have k2 : 0 ≤ (left ((left (k - (x.Acked.length : Nat))) - (x.Ended.length : Nat))) ∧ (left ((left (k - (x.Acked.length : Nat))) - (x.Ended.length : Nat))) ≤ 2 ^ 48 := ⟨by omega, Int.le_trans (Sane.left _ _ k1.1) k1.2⟩
      refine .of (c_l_szStringS _ _ k2 h2.1 h2.2) ?_
      simp -implicitDefEqProofs (maxSteps := 1000000) (disch := omega) only [go_sem, IntWalk.i64_in]
      refine ⟨fun q2 => ?_, fun q2 => ?_⟩
      · simp only [decide_eq_true_eq] at q2
        simp only [szLead, szAll, if_neg q0, if_neg q1, if_pos q2]
      · simp only [decide_eq_false_iff_not] at q2
        have k3 : 0 ≤ (szSl szStr x.At (left ((left (k - (x.Acked.length : Nat))) - (x.Ended.length : Nat)))) ∧ (szSl szStr x.At (left ((left (k - (x.Acked.length : Nat))) - (x.Ended.length : Nat)))) ≤ 2 ^ 48 := ⟨by omega, Int.le_trans ((Sane.sl szStr_sane _) _ k2.1) k2.2⟩
        simp only [szLead, szAll, if_neg q0, if_neg q1, if_neg q2]
def x_l_toLead : FnX := ⟨20, [.cell 2 (some 4)],
  .seq (.reg [⟨none, some 1, 1, .box (.t 0)⟩,
   ⟨none, some 2, 2, .alloc [.pv (.int .i64 0), .nils 1, .nils 1, .nils 1]⟩])
 (.seq (.reg [⟨none, some 3, 3, .alloc [.pv (.int .i64 0), .nils 1, .nils 1, .nils 1]⟩])
 (.seq (.reg [⟨none, some 4, 4, .faddr (.t 1) 0⟩,
   ⟨none, some 5, 5, .load none (.t 4)⟩,
   ⟨none, some 6, 6, .faddr (.t 3) 0⟩,
   ⟨none, none, 100001, .store 1 (.t 6) (.t 5)⟩])
 (.seq (.reg [⟨none, some 7, 7, .faddr (.t 1) 1⟩,
   ⟨none, some 8, 8, .load none (.t 7)⟩,
   ⟨none, some 9, 9, .call 56 [0] [(.t 8)]⟩,
   ⟨none, some 10, 10, .faddr (.t 3) 1⟩,
   ⟨none, none, 100002, .store 1 (.t 10) (.t 9)⟩])
 (.seq (.reg [⟨none, some 11, 11, .faddr (.t 1) 2⟩,
   ⟨none, some 12, 12, .load none (.t 11)⟩,
   ⟨none, some 13, 13, .call 56 [0] [(.t 12)]⟩,
   ⟨none, some 14, 14, .faddr (.t 3) 2⟩,
   ⟨none, none, 100003, .store 1 (.t 14) (.t 13)⟩])
 (.seq (.reg [⟨none, some 15, 15, .faddr (.t 1) 3⟩,
   ⟨none, some 16, 16, .load none (.t 15)⟩,
   ⟨none, some 17, 17, .call 57 [0] [(.t 16)]⟩,
   ⟨none, some 18, 18, .faddr (.t 3) 3⟩,
   ⟨none, none, 100004, .store 1 (.t 18) (.t 17)⟩])
 (.seq (.reg [⟨none, some 19, 19, .load (some 4) (.t 3)⟩,
   ⟨none, none, 100005, .store 4 (.t 2) (.t 19)⟩])
 (.ret)))))))⟩
abbrev C_l_toLead (Te : Nat → List AV → Res → Prop) : Prop := ∀ (x : Lead) (hx : x.Len), Te 27 [.agg (x.enc false)] ⟨[.agg (x.enc true)], [(x.enc false)]⟩
theorem r_l_toLead {Te : Nat → List AV → Res → Prop} (c_l_toBoolS : C_l_toBoolS Te) (c_l_toStringS : C_l_toStringS Te) : ∀ (x : Lead) (hx : x.Len), RunFn Te x_l_toLead [.agg (x.enc false)] ⟨[.agg (x.enc true)], [(x.enc false)]⟩ := by
  intro x hx
  refine ⟨by simp -implicitDefEqProofs (maxSteps := 1000000) only [x_l_toLead, go_sem], ?_⟩
  obtain ⟨h0, h1, h2⟩ := hx
  simp -implicitDefEqProofs (maxSteps := 1000000) only [x_l_toLead, go_sem]
  refine .of (c_l_toBoolS _ h0) ?_
  simp -implicitDefEqProofs (maxSteps := 1000000) only [go_sem]
  refine .of (c_l_toBoolS _ h1) ?_
  simp -implicitDefEqProofs (maxSteps := 1000000) only [go_sem]
  refine .of (c_l_toStringS _ h2) ?_
  simp -implicitDefEqProofs (maxSteps := 1000000) only [go_sem]
def x_l_eqLead : FnX := ⟨28, [.tmp 4],
  .seq (.reg [⟨none, some 2, 2, .box (.t 0)⟩,
   ⟨none, some 3, 3, .box (.t 1)⟩,
   ⟨none, some 4, 4, .mv (.k (.one (.pv (.bool false))))⟩])
 (.seq (.seq (.reg [⟨none, some 5, 5, .faddr (.t 2) 0⟩,
   ⟨none, some 6, 6, .load none (.t 5)⟩,
   ⟨none, some 7, 7, .faddr (.t 3) 0⟩,
   ⟨none, some 8, 8, .load none (.t 7)⟩,
   ⟨none, some 9, 9, .bin .neq (.t 6) (.t 8)⟩])
 (.cond 9 (.seq (.reg [⟨none, some 4, 4, .mv (.k (.one (.pv (.bool false))))⟩])
 (.ret)) (.skip)))
 (.seq (.seq (.reg [⟨none, some 10, 10, .faddr (.t 2) 1⟩,
   ⟨none, some 11, 11, .load none (.t 10)⟩,
   ⟨none, some 12, 12, .faddr (.t 3) 1⟩,
   ⟨none, some 13, 13, .load none (.t 12)⟩,
   ⟨none, some 14, 14, .call 41 [0, 0] [(.t 11), (.t 13)]⟩,
   ⟨none, some 15, 15, .not (.t 14)⟩])
 (.cond 15 (.seq (.reg [⟨none, some 4, 4, .mv (.k (.one (.pv (.bool false))))⟩])
 (.ret)) (.skip)))
 (.seq (.seq (.reg [⟨none, some 16, 16, .faddr (.t 2) 2⟩,
   ⟨none, some 17, 17, .load none (.t 16)⟩,
   ⟨none, some 18, 18, .faddr (.t 3) 2⟩,
   ⟨none, some 19, 19, .load none (.t 18)⟩,
   ⟨none, some 20, 20, .call 41 [0, 0] [(.t 17), (.t 19)]⟩,
   ⟨none, some 21, 21, .not (.t 20)⟩])
 (.cond 21 (.seq (.reg [⟨none, some 4, 4, .mv (.k (.one (.pv (.bool false))))⟩])
 (.ret)) (.skip)))
 (.seq (.seq (.reg [⟨none, some 22, 22, .faddr (.t 2) 3⟩,
   ⟨none, some 23, 23, .load none (.t 22)⟩,
   ⟨none, some 24, 24, .faddr (.t 3) 3⟩,
   ⟨none, some 25, 25, .load none (.t 24)⟩,
   ⟨none, some 26, 26, .call 42 [0, 0] [(.t 23), (.t 25)]⟩,
   ⟨none, some 27, 27, .not (.t 26)⟩])
 (.cond 27 (.seq (.reg [⟨none, some 4, 4, .mv (.k (.one (.pv (.bool false))))⟩])
 (.ret)) (.skip)))
 (.seq (.reg [⟨none, some 4, 4, .mv (.k (.one (.pv (.bool true))))⟩])
 (.ret))))))⟩
abbrev C_l_eqLead (Te : Nat → List AV → Res → Prop) : Prop := ∀ (x y : Lead) (hx : x.Len), Te 12 [.agg (x.enc false), .agg (y.enc false)] ⟨[.one (bT (decide (x = y)))], [(x.enc false), (y.enc false)]⟩
theorem r_l_eqLead {Te : Nat → List AV → Res → Prop} (c_l_eqBoolS : C_l_eqBoolS Te) (c_l_eqStringS : C_l_eqStringS Te) : ∀ (x y : Lead) (hx : x.Len), RunFn Te x_l_eqLead [.agg (x.enc false), .agg (y.enc false)] ⟨[.one (bT (decide (x = y)))], [(x.enc false), (y.enc false)]⟩ := by
  intro x y hx
  refine ⟨by simp -implicitDefEqProofs (maxSteps := 1000000) only [x_l_eqLead, go_sem], ?_⟩
  obtain ⟨h0, h1, h2⟩ := hx
  have key : (x = y) ↔ x.Phase = y.Phase ∧ x.Acked = y.Acked ∧ x.Ended = y.Ended ∧ x.At = y.At := by cases x; cases y; simp
  simp only [key]
  clear key
  simp -implicitDefEqProofs (maxSteps := 1000000) only [x_l_eqLead, go_sem]
  refine ⟨fun q => ?_, fun q => ?_⟩
  · have n0 : ¬ (x.Phase = y.Phase) := by simpa using q
    simp only [n0, false_and, and_false, true_and, decide_false]
  have e0 : x.Phase = y.Phase := by simpa using q
  clear q
  refine .of (c_l_eqBoolS _ _ h0) ?_
  simp -implicitDefEqProofs (maxSteps := 1000000) only [go_sem]
  refine ⟨fun q => ?_, fun q => ?_⟩
  · have n1 : ¬ (x.Acked = y.Acked) := by simpa using q
    simp only [e0, n1, false_and, and_false, true_and, decide_false]
  have e1 : x.Acked = y.Acked := by simpa using q
  clear q
  refine .of (c_l_eqBoolS _ _ h1) ?_
  simp -implicitDefEqProofs (maxSteps := 1000000) only [go_sem]
  refine ⟨fun q => ?_, fun q => ?_⟩
  · have n2 : ¬ (x.Ended = y.Ended) := by simpa using q
    simp only [e0, e1, n2, false_and, and_false, true_and, decide_false]
  have e2 : x.Ended = y.Ended := by simpa using q
  clear q
  refine .of (c_l_eqStringS _ _ h2) ?_
  simp -implicitDefEqProofs (maxSteps := 1000000) only [go_sem]
  refine ⟨fun q => ?_, fun q => ?_⟩
  · have n3 : ¬ (x.At = y.At) := by simpa using q
    simp only [e0, e1, e2, n3, false_and, and_false, true_and, decide_false]
  have e3 : x.At = y.At := by simpa using q
  clear q
  simp only [e0, e1, e2, e3, true_and, and_true, decide_true]
def x_l_markLead : FnX := ⟨18, [.tmp 4],
  .seq (.reg [⟨none, some 2, 2, .box (.t 0)⟩,
   ⟨none, some 4, 4, .mv (.k (.one (.pv (.int .i64 0))))⟩])
 (.seq (.reg [⟨none, some 5, 5, .faddr (.t 2) 1⟩,
   ⟨none, some 6, 6, .load none (.t 5)⟩,
   ⟨none, some 7, 7, .mv (.t 1)⟩,
   ⟨none, some 8, 8, .io 43 (.t 6) [(.t 7)]⟩,
   ⟨none, some 1, 1, .mv (.t 8)⟩])
 (.seq (.reg [⟨none, some 9, 9, .faddr (.t 2) 2⟩,
   ⟨none, some 10, 10, .load none (.t 9)⟩,
   ⟨none, some 11, 11, .mv (.t 1)⟩,
   ⟨none, some 12, 12, .io 43 (.t 10) [(.t 11)]⟩,
   ⟨none, some 1, 1, .mv (.t 12)⟩])
 (.seq (.reg [⟨none, some 13, 13, .faddr (.t 2) 3⟩,
   ⟨none, some 14, 14, .load none (.t 13)⟩,
   ⟨none, some 15, 15, .mv (.t 1)⟩,
   ⟨none, some 16, 16, .io 44 (.t 14) [(.t 15)]⟩,
   ⟨none, some 1, 1, .mv (.t 16)⟩])
 (.seq (.reg [⟨none, some 17, 17, .mv (.t 1)⟩,
   ⟨none, some 4, 4, .mv (.t 17)⟩])
 (.ret)))))⟩
abbrev C_l_markLead (Te : Nat → List AV → Res → Prop) : Prop := ∀ (x : Lead) (k : Int) (hx : x.Len) (hk : 0 ≤ k ∧ k ≤ 2 ^ 40), Te 13 [.agg (x.enc true), .one (iT k)] ⟨[.one (iT (x.far k))], [(x.mark k).enc true, [iT k]]⟩
theorem r_l_markLead {Te : Nat → List AV → Res → Prop} (c_l_markBoolS : C_l_markBoolS Te) (c_l_markStringS : C_l_markStringS Te) : ∀ (x : Lead) (k : Int) (hx : x.Len) (hk : 0 ≤ k ∧ k ≤ 2 ^ 40), RunFn Te x_l_markLead [.agg (x.enc true), .one (iT k)] ⟨[.one (iT (x.far k))], [(x.mark k).enc true, [iT k]]⟩ := by
  intro x k hx hk
  refine ⟨by simp -implicitDefEqProofs (maxSteps := 1000000) only [x_l_markLead, go_sem], ?_⟩
  obtain ⟨h0, h1, h2⟩ := hx
  simp -implicitDefEqProofs (maxSteps := 1000000) only [x_l_markLead, go_sem]
  refine .of (c_l_markBoolS _ _ h0 (by omega)) ?_
  simp -implicitDefEqProofs (maxSteps := 1000000) only [go_sem]
  refine .of (c_l_markBoolS _ _ h1 (by omega)) ?_
  simp -implicitDefEqProofs (maxSteps := 1000000) only [go_sem]
  refine .of (c_l_markStringS _ _ h2 (by omega)) ?_
  simp -implicitDefEqProofs (maxSteps := 1000000) only [go_sem]
  rfl
def x_l_heldLead : FnX := ⟨24, [.tmp 4],
  .seq (.reg [⟨none, some 2, 2, .box (.t 0)⟩,
   ⟨none, some 4, 4, .mv (.k (.one (.pv (.int .i64 0))))⟩])
 (.seq (.reg [⟨none, some 5, 5, .faddr (.t 2) 1⟩,
   ⟨none, some 6, 6, .load none (.t 5)⟩,
   ⟨none, some 7, 7, .mv (.t 1)⟩,
   ⟨none, some 8, 8, .call 45 [0, 0] [(.t 6), (.t 7)]⟩,
   ⟨none, some 1, 1, .mv (.t 8)⟩])
 (.seq (.seq (.reg [⟨none, some 9, 9, .mv (.t 1)⟩,
   ⟨none, some 10, 10, .bin .lss (.t 9) (.k (.one (.pv (.int .i64 0))))⟩])
 (.cond 10 (.seq (.reg [⟨none, some 4, 4, .mv (.k (.one (.pv (.int .i64 (-1)))))⟩])
 (.ret)) (.skip)))
 (.seq (.reg [⟨none, some 11, 11, .faddr (.t 2) 2⟩,
   ⟨none, some 12, 12, .load none (.t 11)⟩,
   ⟨none, some 13, 13, .mv (.t 1)⟩,
   ⟨none, some 14, 14, .call 45 [0, 0] [(.t 12), (.t 13)]⟩,
   ⟨none, some 1, 1, .mv (.t 14)⟩])
 (.seq (.seq (.reg [⟨none, some 15, 15, .mv (.t 1)⟩,
   ⟨none, some 16, 16, .bin .lss (.t 15) (.k (.one (.pv (.int .i64 0))))⟩])
 (.cond 16 (.seq (.reg [⟨none, some 4, 4, .mv (.k (.one (.pv (.int .i64 (-1)))))⟩])
 (.ret)) (.skip)))
 (.seq (.reg [⟨none, some 17, 17, .faddr (.t 2) 3⟩,
   ⟨none, some 18, 18, .load none (.t 17)⟩,
   ⟨none, some 19, 19, .mv (.t 1)⟩,
   ⟨none, some 20, 20, .call 46 [0, 0] [(.t 18), (.t 19)]⟩,
   ⟨none, some 1, 1, .mv (.t 20)⟩])
 (.seq (.seq (.reg [⟨none, some 21, 21, .mv (.t 1)⟩,
   ⟨none, some 22, 22, .bin .lss (.t 21) (.k (.one (.pv (.int .i64 0))))⟩])
 (.cond 22 (.seq (.reg [⟨none, some 4, 4, .mv (.k (.one (.pv (.int .i64 (-1)))))⟩])
 (.ret)) (.skip)))
 (.seq (.reg [⟨none, some 23, 23, .mv (.t 1)⟩,
   ⟨none, some 4, 4, .mv (.t 23)⟩])
 (.ret))))))))⟩
abbrev C_l_heldLead (Te : Nat → List AV → Res → Prop) : Prop := ∀ (x : Lead) (k : Int) (hx : x.Len) (hk : 0 ≤ k ∧ k ≤ 2 ^ 40), Te 14 [.agg ((x.mark k).enc false), .one (iT k)] ⟨[.one (iT (x.far k))], [(x.mark k).enc false, [iT k]]⟩
theorem r_l_heldLead {Te : Nat → List AV → Res → Prop} (c_l_heldBoolS : C_l_heldBoolS Te) (c_l_heldStringS : C_l_heldStringS Te) : ∀ (x : Lead) (k : Int) (hx : x.Len) (hk : 0 ≤ k ∧ k ≤ 2 ^ 40), RunFn Te x_l_heldLead [.agg ((x.mark k).enc false), .one (iT k)] ⟨[.one (iT (x.far k))], [(x.mark k).enc false, [iT k]]⟩ := by
  intro x k hx hk
  refine ⟨by simp -implicitDefEqProofs (maxSteps := 1000000) only [x_l_heldLead, go_sem], ?_⟩
  obtain ⟨h0, h1, h2⟩ := hx
  simp -implicitDefEqProofs (maxSteps := 1000000) only [x_l_heldLead, go_sem]
  refine .of (c_l_heldBoolS _ _ h0 (by omega)) ?_
  simp -implicitDefEqProofs (maxSteps := 1000000) only [go_sem]
  refine ⟨fun q => by simp only [decide_eq_true_eq] at q; omega, fun _ => ?_⟩
  refine .of (c_l_heldBoolS _ _ h1 (by omega)) ?_
  simp -implicitDefEqProofs (maxSteps := 1000000) only [go_sem]
  refine ⟨fun q => by simp only [decide_eq_true_eq] at q; omega, fun _ => ?_⟩
  refine .of (c_l_heldStringS _ _ h2 (by omega)) ?_
  simp -implicitDefEqProofs (maxSteps := 1000000) only [go_sem]
  refine ⟨fun q => by simp only [decide_eq_true_eq] at q; omega, fun _ => ?_⟩
  rfl
end Go.X

/- F -/
namespace Go.X
set_option maxRecDepth 100000
set_option maxHeartbeats 8000000
/-- n lies between. -/
def win (n a b : Int) : Bool := decide (n ≥ a) && decide (n ≤ b)
def x_i_within : FnX := ⟨15, [.tmp 6],
  .seq (.reg [⟨none, some 6, 6, .mv (.k (.one (.pv (.bool false))))⟩])
 (.seq (.reg [⟨none, some 7, 7, .mv (.t 0)⟩,
   ⟨none, some 8, 8, .mv (.t 1)⟩,
   ⟨none, some 9, 9, .bin .geq (.t 7) (.t 8)⟩,
   ⟨none, some 10, 10, .mv (.t 9)⟩,
   ⟨(some (10, true)), some 11, 11, .mv (.t 0)⟩,
   ⟨(some (10, true)), some 12, 12, .mv (.t 2)⟩,
   ⟨(some (10, true)), some 13, 13, .bin .leq (.t 11) (.t 12)⟩,
   ⟨none, some 14, 14, .pick (.t 10) (.t 13) (.k (.one (.pv (.bool false))))⟩,
   ⟨none, some 6, 6, .mv (.t 14)⟩])
 (.ret))⟩
abbrev C_i_within (Te : Nat → List AV → Res → Prop) : Prop := ∀ (n a b : Int), Te 52 [.one (iT n), .one (iT a), .one (iT b)] ⟨[.one (bT (win n a b))], [[iT n], [iT a], [iT b]]⟩
theorem r_i_within {Te : Nat → List AV → Res → Prop} : ∀ (n a b : Int), RunFn Te x_i_within [.one (iT n), .one (iT a), .one (iT b)] ⟨[.one (bT (win n a b))], [[iT n], [iT a], [iT b]]⟩ := by
  intro n a b
  refine ⟨by simp -implicitDefEqProofs (maxSteps := 1000000) only [x_i_within, go_sem], ?_⟩
  simp -implicitDefEqProofs (maxSteps := 1000000) only [x_i_within, go_sem]
  refine bif_cases (fun h => ?_) (fun h => ?_) <;> simp -implicitDefEqProofs (maxSteps := 1000000) only [h, go_sem, win]
def x_s_l1In : FnX := ⟨15, [.tmp 6],
  .seq (.reg [⟨none, some 6, 6, .mv (.k (.one (.pv (.bool false))))⟩])
 (.seq (.reg [⟨none, some 7, 7, .mv (.t 0)⟩,
   ⟨none, some 8, 8, .mv (.t 1)⟩,
   ⟨none, some 9, 9, .bin .geq (.t 7) (.t 8)⟩,
   ⟨none, some 10, 10, .mv (.t 9)⟩,
   ⟨(some (10, true)), some 11, 11, .mv (.t 0)⟩,
   ⟨(some (10, true)), some 12, 12, .mv (.t 2)⟩,
   ⟨(some (10, true)), some 13, 13, .bin .leq (.t 11) (.t 12)⟩,
   ⟨none, some 14, 14, .pick (.t 10) (.t 13) (.k (.one (.pv (.bool false))))⟩,
   ⟨none, some 6, 6, .mv (.t 14)⟩])
 (.ret))⟩
abbrev C_s_l1In (Te : Nat → List AV → Res → Prop) : Prop := ∀ (n a b : Int), Te 59 [.one (iT n), .one (iT a), .one (iT b)] ⟨[.one (bT (win n a b))], [[iT n], [iT a], [iT b]]⟩
theorem r_s_l1In {Te : Nat → List AV → Res → Prop} : ∀ (n a b : Int), RunFn Te x_s_l1In [.one (iT n), .one (iT a), .one (iT b)] ⟨[.one (bT (win n a b))], [[iT n], [iT a], [iT b]]⟩ := by
  intro n a b
  refine ⟨by simp -implicitDefEqProofs (maxSteps := 1000000) only [x_s_l1In, go_sem], ?_⟩
  simp -implicitDefEqProofs (maxSteps := 1000000) only [x_s_l1In, go_sem]
  refine bif_cases (fun h => ?_) (fun h => ?_) <;> simp -implicitDefEqProofs (maxSteps := 1000000) only [h, go_sem, win]
def x_i_isWord : FnX := ⟨5, [.tmp 2],
  .seq (.reg [⟨none, some 2, 2, .mv (.k (.one (.pv (.bool false))))⟩])
 (.seq (.reg [⟨none, some 3, 3, .mv (.t 0)⟩,
   ⟨none, some 4, 4, .call 52 [0, 0, 0] [(.t 3), (.k (.one (.pv (.int .i64 0)))), (.k (.one (.pv (.int .i64 65535))))]⟩,
   ⟨none, some 2, 2, .mv (.t 4)⟩])
 (.ret))⟩
abbrev C_i_isWord (Te : Nat → List AV → Res → Prop) : Prop := ∀ (n : Int), Te 53 [.one (iT n)] ⟨[.one (bT (win n 0 65535))], [[iT n]]⟩
theorem r_i_isWord {Te : Nat → List AV → Res → Prop} (c_i_within : C_i_within Te) : ∀ (n : Int), RunFn Te x_i_isWord [.one (iT n)] ⟨[.one (bT (win n 0 65535))], [[iT n]]⟩ := by
  intro n
  refine ⟨by simp -implicitDefEqProofs (maxSteps := 1000000) only [x_i_isWord, go_sem], ?_⟩
  simp -implicitDefEqProofs (maxSteps := 1000000) only [x_i_isWord, go_sem]
  refine .of (c_i_within _ _ _) ?_
  simp -implicitDefEqProofs (maxSteps := 1000000) only [go_sem]
def x_s_l1Word : FnX := ⟨5, [.tmp 2],
  .seq (.reg [⟨none, some 2, 2, .mv (.k (.one (.pv (.bool false))))⟩])
 (.seq (.reg [⟨none, some 3, 3, .mv (.t 0)⟩,
   ⟨none, some 4, 4, .call 59 [0, 0, 0] [(.t 3), (.k (.one (.pv (.int .i64 0)))), (.k (.one (.pv (.int .i64 65535))))]⟩,
   ⟨none, some 2, 2, .mv (.t 4)⟩])
 (.ret))⟩
abbrev C_s_l1Word (Te : Nat → List AV → Res → Prop) : Prop := ∀ (n : Int), Te 69 [.one (iT n)] ⟨[.one (bT (win n 0 65535))], [[iT n]]⟩
theorem r_s_l1Word {Te : Nat → List AV → Res → Prop} (c_s_l1In : C_s_l1In Te) : ∀ (n : Int), RunFn Te x_s_l1Word [.one (iT n)] ⟨[.one (bT (win n 0 65535))], [[iT n]]⟩ := by
  intro n
  refine ⟨by simp -implicitDefEqProofs (maxSteps := 1000000) only [x_s_l1Word, go_sem], ?_⟩
  simp -implicitDefEqProofs (maxSteps := 1000000) only [x_s_l1Word, go_sem]
  refine .of (c_s_l1In _ _ _) ?_
  simp -implicitDefEqProofs (maxSteps := 1000000) only [go_sem]
def Msg.ok (m : Msg) : Bool := win m.Kind 1 9 && win m.From 0 4 && win m.To 0 4 && (m.From != m.To) && win m.Seq 0 65535 && decide ((m.Key.size : Int) ≤ 60) && decide ((m.Text.size : Int) ≤ 60) && win m.N 0 255 && win m.Code 0 6
def x_i_MsgOk : FnX := ⟨50, [.tmp 2],
  .seq (.reg [⟨none, some 1, 1, .box (.t 0)⟩,
   ⟨none, some 2, 2, .mv (.k (.one (.pv (.bool false))))⟩])
 (.seq (.reg [⟨none, some 3, 3, .faddr (.t 1) 0⟩,
   ⟨none, some 4, 4, .load none (.t 3)⟩,
   ⟨none, some 5, 5, .call 52 [0, 0, 0] [(.t 4), (.k (.one (.pv (.int .i64 1)))), (.k (.one (.pv (.int .i64 9))))]⟩,
   ⟨none, some 6, 6, .mv (.t 5)⟩,
   ⟨(some (6, true)), some 7, 7, .faddr (.t 1) 1⟩,
   ⟨(some (6, true)), some 8, 8, .load none (.t 7)⟩,
   ⟨(some (6, true)), some 9, 9, .call 52 [0, 0, 0] [(.t 8), (.k (.one (.pv (.int .i64 0)))), (.k (.one (.pv (.int .i64 4))))]⟩,
   ⟨none, some 10, 10, .pick (.t 6) (.t 9) (.k (.one (.pv (.bool false))))⟩,
   ⟨none, some 11, 11, .mv (.t 10)⟩,
   ⟨(some (11, true)), some 12, 12, .faddr (.t 1) 2⟩,
   ⟨(some (11, true)), some 13, 13, .load none (.t 12)⟩,
   ⟨(some (11, true)), some 14, 14, .call 52 [0, 0, 0] [(.t 13), (.k (.one (.pv (.int .i64 0)))), (.k (.one (.pv (.int .i64 4))))]⟩,
   ⟨none, some 15, 15, .pick (.t 11) (.t 14) (.k (.one (.pv (.bool false))))⟩,
   ⟨none, some 16, 16, .mv (.t 15)⟩,
   ⟨(some (16, true)), some 17, 17, .faddr (.t 1) 1⟩,
   ⟨(some (16, true)), some 18, 18, .load none (.t 17)⟩,
   ⟨(some (16, true)), some 19, 19, .faddr (.t 1) 2⟩,
   ⟨(some (16, true)), some 20, 20, .load none (.t 19)⟩,
   ⟨(some (16, true)), some 21, 21, .bin .neq (.t 18) (.t 20)⟩,
   ⟨none, some 22, 22, .pick (.t 16) (.t 21) (.k (.one (.pv (.bool false))))⟩,
   ⟨none, some 23, 23, .mv (.t 22)⟩,
   ⟨(some (23, true)), some 24, 24, .faddr (.t 1) 3⟩,
   ⟨(some (23, true)), some 25, 25, .load none (.t 24)⟩,
   ⟨(some (23, true)), some 26, 26, .call 53 [0] [(.t 25)]⟩,
   ⟨none, some 27, 27, .pick (.t 23) (.t 26) (.k (.one (.pv (.bool false))))⟩,
   ⟨none, some 28, 28, .mv (.t 27)⟩,
   ⟨(some (28, true)), some 29, 29, .faddr (.t 1) 4⟩,
   ⟨(some (28, true)), some 30, 30, .load none (.t 29)⟩,
   ⟨(some (28, true)), some 31, 31, .slen (.t 30)⟩,
   ⟨(some (28, true)), some 32, 32, .bin .leq (.t 31) (.k (.one (.pv (.int .i64 60))))⟩,
   ⟨none, some 33, 33, .pick (.t 28) (.t 32) (.k (.one (.pv (.bool false))))⟩,
   ⟨none, some 34, 34, .mv (.t 33)⟩,
   ⟨(some (34, true)), some 35, 35, .faddr (.t 1) 5⟩,
   ⟨(some (34, true)), some 36, 36, .load none (.t 35)⟩,
   ⟨(some (34, true)), some 37, 37, .slen (.t 36)⟩,
   ⟨(some (34, true)), some 38, 38, .bin .leq (.t 37) (.k (.one (.pv (.int .i64 60))))⟩,
   ⟨none, some 39, 39, .pick (.t 34) (.t 38) (.k (.one (.pv (.bool false))))⟩,
   ⟨none, some 40, 40, .mv (.t 39)⟩,
   ⟨(some (40, true)), some 41, 41, .faddr (.t 1) 6⟩,
   ⟨(some (40, true)), some 42, 42, .load none (.t 41)⟩,
   ⟨(some (40, true)), some 43, 43, .call 52 [0, 0, 0] [(.t 42), (.k (.one (.pv (.int .i64 0)))), (.k (.one (.pv (.int .i64 255))))]⟩,
   ⟨none, some 44, 44, .pick (.t 40) (.t 43) (.k (.one (.pv (.bool false))))⟩,
   ⟨none, some 45, 45, .mv (.t 44)⟩,
   ⟨(some (45, true)), some 46, 46, .faddr (.t 1) 7⟩,
   ⟨(some (45, true)), some 47, 47, .load none (.t 46)⟩,
   ⟨(some (45, true)), some 48, 48, .call 52 [0, 0, 0] [(.t 47), (.k (.one (.pv (.int .i64 0)))), (.k (.one (.pv (.int .i64 6))))]⟩,
   ⟨none, some 49, 49, .pick (.t 45) (.t 48) (.k (.one (.pv (.bool false))))⟩,
   ⟨none, some 2, 2, .mv (.t 49)⟩])
 (.ret))⟩
abbrev C_i_MsgOk (Te : Nat → List AV → Res → Prop) : Prop := ∀ (m : Msg), Te 23 [.agg m.row] ⟨[.one (bT m.ok)], [m.row]⟩
theorem r_i_MsgOk {Te : Nat → List AV → Res → Prop} (c_i_within : C_i_within Te) (c_i_isWord : C_i_isWord Te) : ∀ (m : Msg), RunFn Te x_i_MsgOk [.agg m.row] ⟨[.one (bT m.ok)], [m.row]⟩ := by
  intro m
  refine ⟨by simp -implicitDefEqProofs (maxSteps := 1000000) only [x_i_MsgOk, go_sem], ?_⟩
  simp -implicitDefEqProofs (maxSteps := 1000000) only [x_i_MsgOk, go_sem, Msg.ok]
  refine .of (c_i_within _ _ _) ?_
  simp -implicitDefEqProofs (maxSteps := 1000000) only [go_sem]
  refine bif_cases (fun h1 => ?_) (fun h1 => ?_) <;> simp -implicitDefEqProofs (maxSteps := 1000000) only [h1, go_sem]
  refine .of (c_i_within _ _ _) ?_
  simp -implicitDefEqProofs (maxSteps := 1000000) only [go_sem]
  refine bif_cases (fun h2 => ?_) (fun h2 => ?_) <;> simp -implicitDefEqProofs (maxSteps := 1000000) only [h2, go_sem]
  refine .of (c_i_within _ _ _) ?_
  simp -implicitDefEqProofs (maxSteps := 1000000) only [go_sem]
  refine bif_cases (fun h3 => ?_) (fun h3 => ?_) <;> simp -implicitDefEqProofs (maxSteps := 1000000) only [h3, go_sem]
  refine bif_cases (fun h4 => ?_) (fun h4 => ?_) <;> simp -implicitDefEqProofs (maxSteps := 1000000) only [h4, go_sem]
  refine .of (c_i_isWord _) ?_
  simp -implicitDefEqProofs (maxSteps := 1000000) only [go_sem]
  refine bif_cases (fun h5 => ?_) (fun h5 => ?_) <;> simp -implicitDefEqProofs (maxSteps := 1000000) only [h5, go_sem]
  refine bif_cases (fun h6 => ?_) (fun h6 => ?_) <;> simp -implicitDefEqProofs (maxSteps := 1000000) only [h6, go_sem]
  refine bif_cases (fun h7 => ?_) (fun h7 => ?_) <;> simp -implicitDefEqProofs (maxSteps := 1000000) only [h7, go_sem]
  refine .of (c_i_within _ _ _) ?_
  simp -implicitDefEqProofs (maxSteps := 1000000) only [go_sem]
  refine bif_cases (fun h8 => ?_) (fun h8 => ?_) <;> simp -implicitDefEqProofs (maxSteps := 1000000) only [h8, go_sem]
  refine .of (c_i_within _ _ _) ?_
  simp -implicitDefEqProofs (maxSteps := 1000000) only [go_sem]
def x_s_MsgOk : FnX := ⟨50, [.tmp 2],
  .seq (.reg [⟨none, some 1, 1, .box (.t 0)⟩,
   ⟨none, some 2, 2, .mv (.k (.one (.pv (.bool false))))⟩])
 (.seq (.reg [⟨none, some 3, 3, .faddr (.t 1) 0⟩,
   ⟨none, some 4, 4, .load none (.t 3)⟩,
   ⟨none, some 5, 5, .call 59 [0, 0, 0] [(.t 4), (.k (.one (.pv (.int .i64 1)))), (.k (.one (.pv (.int .i64 9))))]⟩,
   ⟨none, some 6, 6, .mv (.t 5)⟩,
   ⟨(some (6, true)), some 7, 7, .faddr (.t 1) 1⟩,
   ⟨(some (6, true)), some 8, 8, .load none (.t 7)⟩,
   ⟨(some (6, true)), some 9, 9, .call 59 [0, 0, 0] [(.t 8), (.k (.one (.pv (.int .i64 0)))), (.k (.one (.pv (.int .i64 4))))]⟩,
   ⟨none, some 10, 10, .pick (.t 6) (.t 9) (.k (.one (.pv (.bool false))))⟩,
   ⟨none, some 11, 11, .mv (.t 10)⟩,
   ⟨(some (11, true)), some 12, 12, .faddr (.t 1) 2⟩,
   ⟨(some (11, true)), some 13, 13, .load none (.t 12)⟩,
   ⟨(some (11, true)), some 14, 14, .call 59 [0, 0, 0] [(.t 13), (.k (.one (.pv (.int .i64 0)))), (.k (.one (.pv (.int .i64 4))))]⟩,
   ⟨none, some 15, 15, .pick (.t 11) (.t 14) (.k (.one (.pv (.bool false))))⟩,
   ⟨none, some 16, 16, .mv (.t 15)⟩,
   ⟨(some (16, true)), some 17, 17, .faddr (.t 1) 1⟩,
   ⟨(some (16, true)), some 18, 18, .load none (.t 17)⟩,
   ⟨(some (16, true)), some 19, 19, .faddr (.t 1) 2⟩,
   ⟨(some (16, true)), some 20, 20, .load none (.t 19)⟩,
   ⟨(some (16, true)), some 21, 21, .bin .neq (.t 18) (.t 20)⟩,
   ⟨none, some 22, 22, .pick (.t 16) (.t 21) (.k (.one (.pv (.bool false))))⟩,
   ⟨none, some 23, 23, .mv (.t 22)⟩,
   ⟨(some (23, true)), some 24, 24, .faddr (.t 1) 3⟩,
   ⟨(some (23, true)), some 25, 25, .load none (.t 24)⟩,
   ⟨(some (23, true)), some 26, 26, .call 69 [0] [(.t 25)]⟩,
   ⟨none, some 27, 27, .pick (.t 23) (.t 26) (.k (.one (.pv (.bool false))))⟩,
   ⟨none, some 28, 28, .mv (.t 27)⟩,
   ⟨(some (28, true)), some 29, 29, .faddr (.t 1) 4⟩,
   ⟨(some (28, true)), some 30, 30, .load none (.t 29)⟩,
   ⟨(some (28, true)), some 31, 31, .slen (.t 30)⟩,
   ⟨(some (28, true)), some 32, 32, .bin .leq (.t 31) (.k (.one (.pv (.int .i64 60))))⟩,
   ⟨none, some 33, 33, .pick (.t 28) (.t 32) (.k (.one (.pv (.bool false))))⟩,
   ⟨none, some 34, 34, .mv (.t 33)⟩,
   ⟨(some (34, true)), some 35, 35, .faddr (.t 1) 5⟩,
   ⟨(some (34, true)), some 36, 36, .load none (.t 35)⟩,
   ⟨(some (34, true)), some 37, 37, .slen (.t 36)⟩,
   ⟨(some (34, true)), some 38, 38, .bin .leq (.t 37) (.k (.one (.pv (.int .i64 60))))⟩,
   ⟨none, some 39, 39, .pick (.t 34) (.t 38) (.k (.one (.pv (.bool false))))⟩,
   ⟨none, some 40, 40, .mv (.t 39)⟩,
   ⟨(some (40, true)), some 41, 41, .faddr (.t 1) 6⟩,
   ⟨(some (40, true)), some 42, 42, .load none (.t 41)⟩,
   ⟨(some (40, true)), some 43, 43, .call 59 [0, 0, 0] [(.t 42), (.k (.one (.pv (.int .i64 0)))), (.k (.one (.pv (.int .i64 255))))]⟩,
   ⟨none, some 44, 44, .pick (.t 40) (.t 43) (.k (.one (.pv (.bool false))))⟩,
   ⟨none, some 45, 45, .mv (.t 44)⟩,
   ⟨(some (45, true)), some 46, 46, .faddr (.t 1) 7⟩,
   ⟨(some (45, true)), some 47, 47, .load none (.t 46)⟩,
   ⟨(some (45, true)), some 48, 48, .call 59 [0, 0, 0] [(.t 47), (.k (.one (.pv (.int .i64 0)))), (.k (.one (.pv (.int .i64 6))))]⟩,
   ⟨none, some 49, 49, .pick (.t 45) (.t 48) (.k (.one (.pv (.bool false))))⟩,
   ⟨none, some 2, 2, .mv (.t 49)⟩])
 (.ret))⟩
abbrev C_s_MsgOk (Te : Nat → List AV → Res → Prop) : Prop := ∀ (m : Msg), Te 64 [.agg m.row] ⟨[.one (bT m.ok)], [m.row]⟩
theorem r_s_MsgOk {Te : Nat → List AV → Res → Prop} (c_s_l1In : C_s_l1In Te) (c_s_l1Word : C_s_l1Word Te) : ∀ (m : Msg), RunFn Te x_s_MsgOk [.agg m.row] ⟨[.one (bT m.ok)], [m.row]⟩ := by
  intro m
  refine ⟨by simp -implicitDefEqProofs (maxSteps := 1000000) only [x_s_MsgOk, go_sem], ?_⟩
  simp -implicitDefEqProofs (maxSteps := 1000000) only [x_s_MsgOk, go_sem, Msg.ok]
  refine .of (c_s_l1In _ _ _) ?_
  simp -implicitDefEqProofs (maxSteps := 1000000) only [go_sem]
  refine bif_cases (fun h1 => ?_) (fun h1 => ?_) <;> simp -implicitDefEqProofs (maxSteps := 1000000) only [h1, go_sem]
  refine .of (c_s_l1In _ _ _) ?_
  simp -implicitDefEqProofs (maxSteps := 1000000) only [go_sem]
  refine bif_cases (fun h2 => ?_) (fun h2 => ?_) <;> simp -implicitDefEqProofs (maxSteps := 1000000) only [h2, go_sem]
  refine .of (c_s_l1In _ _ _) ?_
  simp -implicitDefEqProofs (maxSteps := 1000000) only [go_sem]
  refine bif_cases (fun h3 => ?_) (fun h3 => ?_) <;> simp -implicitDefEqProofs (maxSteps := 1000000) only [h3, go_sem]
  refine bif_cases (fun h4 => ?_) (fun h4 => ?_) <;> simp -implicitDefEqProofs (maxSteps := 1000000) only [h4, go_sem]
  refine .of (c_s_l1Word _) ?_
  simp -implicitDefEqProofs (maxSteps := 1000000) only [go_sem]
  refine bif_cases (fun h5 => ?_) (fun h5 => ?_) <;> simp -implicitDefEqProofs (maxSteps := 1000000) only [h5, go_sem]
  refine bif_cases (fun h6 => ?_) (fun h6 => ?_) <;> simp -implicitDefEqProofs (maxSteps := 1000000) only [h6, go_sem]
  refine bif_cases (fun h7 => ?_) (fun h7 => ?_) <;> simp -implicitDefEqProofs (maxSteps := 1000000) only [h7, go_sem]
  refine .of (c_s_l1In _ _ _) ?_
  simp -implicitDefEqProofs (maxSteps := 1000000) only [go_sem]
  refine bif_cases (fun h8 => ?_) (fun h8 => ?_) <;> simp -implicitDefEqProofs (maxSteps := 1000000) only [h8, go_sem]
  refine .of (c_s_l1In _ _ _) ?_
  simp -implicitDefEqProofs (maxSteps := 1000000) only [go_sem]
end Go.X

/- G -/
namespace Go.X
set_option maxRecDepth 100000
set_option maxHeartbeats 8000000
def Lead.ok (l : Lead) : Bool := win l.Phase 0 7 && ((l.Acked.length : Int) == 2) && ((l.Ended.length : Int) == 2) && ((l.At.length : Int) == 2) && l.At.all (fun s => decide ((s.size : Int) ≤ 60))
def leadIn (p : Int) : Lead := ⟨p, [false, false], [false, false], [⟨#[]⟩, ⟨#[]⟩]⟩
theorem leadIn_In (p : Int) : (leadIn p).In 2 := by
  refine ⟨Nat.le_refl _, Nat.le_refl _, Nat.le_refl _, fun y hy => ?_⟩
  simp only [leadIn, List.mem_cons, List.not_mem_nil, or_false, or_self] at hy
  subst hy
  decide
def x_i_leadIn : FnX := ⟨8, [.cell 2 (some 4)],
  .seq (.reg [⟨none, some 2, 2, .alloc [.pv (.int .i64 0), .nils 1, .nils 1, .nils 1]⟩])
 (.seq (.draw [⟨none, some 3, 3, .mv (.t 0)⟩,
   ⟨none, some 4, 4, .mks 1 1 [.pv (.bool false)] (.k (.one (.pv (.int .i64 2))))⟩,
   ⟨none, some 5, 5, .mks 1 1 [.pv (.bool false)] (.k (.one (.pv (.int .i64 2))))⟩,
   ⟨none, some 6, 6, .mks 1 16 [.pv (.string ⟨#[]⟩)] (.k (.one (.pv (.int .i64 2))))⟩,
   ⟨none, some 7, 7, .build [.pv (.int .i64 0), .nils 1, .nils 1, .nils 1] [(0, 1, (.t 3)), (1, 1, (.t 4)), (2, 1, (.t 5)), (3, 1, (.t 6))]⟩,
   ⟨none, none, 100001, .store 4 (.t 2) (.t 7)⟩] [[], [], [], [], [0, 1, 2, 3], [4, 0, 1, 2, 3, 4]])
 (.ret))⟩
abbrev C_i_leadIn (Te : Nat → List AV → Res → Prop) : Prop := ∀ (p : Int), Te 40 [.one (iT p)] ⟨[.agg ((leadIn p).enc true)], [[iT p]]⟩
theorem r_i_leadIn {Te : Nat → List AV → Res → Prop} : ∀ (p : Int), RunFn Te x_i_leadIn [.one (iT p)] ⟨[.agg ((leadIn p).enc true)], [[iT p]]⟩ := by
  intro p
  refine ⟨by simp -implicitDefEqProofs (maxSteps := 1000000) only [x_i_leadIn, go_sem], ?_⟩
  simp -implicitDefEqProofs (maxSteps := 1000000) only [x_i_leadIn, go_sem]
  exact ⟨rfl, rfl⟩
def x_s_l19At : FnX := ⟨8, [.cell 2 (some 4)],
  .seq (.reg [⟨none, some 2, 2, .alloc [.pv (.int .i64 0), .nils 1, .nils 1, .nils 1]⟩])
 (.seq (.draw [⟨none, some 3, 3, .mv (.t 0)⟩,
   ⟨none, some 4, 4, .mks 1 1 [.pv (.bool false)] (.k (.one (.pv (.int .i64 2))))⟩,
   ⟨none, some 5, 5, .mks 1 1 [.pv (.bool false)] (.k (.one (.pv (.int .i64 2))))⟩,
   ⟨none, some 6, 6, .mks 1 16 [.pv (.string ⟨#[]⟩)] (.k (.one (.pv (.int .i64 2))))⟩,
   ⟨none, some 7, 7, .build [.pv (.int .i64 0), .nils 1, .nils 1, .nils 1] [(0, 1, (.t 3)), (1, 1, (.t 4)), (2, 1, (.t 5)), (3, 1, (.t 6))]⟩,
   ⟨none, none, 100001, .store 4 (.t 2) (.t 7)⟩] [[], [], [], [], [0, 1, 2, 3], [4, 0, 1, 2, 3, 4]])
 (.ret))⟩
abbrev C_s_l19At (Te : Nat → List AV → Res → Prop) : Prop := ∀ (p : Int), Te 39 [.one (iT p)] ⟨[.agg ((leadIn p).enc true)], [[iT p]]⟩
theorem r_s_l19At {Te : Nat → List AV → Res → Prop} : ∀ (p : Int), RunFn Te x_s_l19At [.one (iT p)] ⟨[.agg ((leadIn p).enc true)], [[iT p]]⟩ := by
  intro p
  refine ⟨by simp -implicitDefEqProofs (maxSteps := 1000000) only [x_s_l19At, go_sem], ?_⟩
  simp -implicitDefEqProofs (maxSteps := 1000000) only [x_s_l19At, go_sem]
  exact ⟨rfl, rfl⟩
def x_i_copyLead : FnX := ⟨18, [.cell 2 (some 4)],
  .seq (.reg [⟨none, some 1, 1, .box (.t 0)⟩,
   ⟨none, some 2, 2, .alloc [.pv (.int .i64 0), .nils 1, .nils 1, .nils 1]⟩])
 (.seq (.draw [⟨none, some 3, 3, .faddr (.t 1) 0⟩,
   ⟨none, some 4, 4, .load none (.t 3)⟩,
   ⟨none, some 5, 5, .bslice 1 []⟩,
   ⟨none, some 6, 6, .faddr (.t 1) 1⟩,
   ⟨none, some 7, 7, .load none (.t 6)⟩,
   ⟨none, some 8, 8, .app 1 1 (.t 5) (.t 7)⟩,
   ⟨none, some 9, 9, .bslice 1 []⟩,
   ⟨none, some 10, 10, .faddr (.t 1) 2⟩,
   ⟨none, some 11, 11, .load none (.t 10)⟩,
   ⟨none, some 12, 12, .app 1 1 (.t 9) (.t 11)⟩,
   ⟨none, some 13, 13, .bslice 1 []⟩,
   ⟨none, some 14, 14, .faddr (.t 1) 3⟩,
   ⟨none, some 15, 15, .load none (.t 14)⟩,
   ⟨none, some 16, 16, .app 1 16 (.t 13) (.t 15)⟩,
   ⟨none, some 17, 17, .build [.pv (.int .i64 0), .nils 1, .nils 1, .nils 1] [(0, 1, (.t 4)), (1, 1, (.t 8)), (2, 1, (.t 12)), (3, 1, (.t 16))]⟩,
   ⟨none, none, 100001, .store 4 (.t 2) (.t 17)⟩] [[], [0], [], [], [3], [2, 4], [], [], [7], [6, 8, 5], [], [], [11], [10, 12, 9], [1, 5, 9, 13], [14, 13, 0, 1, 2, 3, 4, 5, 6, 7, 8, 9, 10, 11, 12, 13, 14]])
 (.ret))⟩
abbrev C_i_copyLead (Te : Nat → List AV → Res → Prop) : Prop := ∀ (l : Lead) (h : l.In (2 ^ 31)), Te 49 [.agg (l.enc false)] ⟨[.agg (l.enc true)], [l.enc false]⟩
theorem r_i_copyLead {Te : Nat → List AV → Res → Prop} : ∀ (l : Lead) (h : l.In (2 ^ 31)), RunFn Te x_i_copyLead [.agg (l.enc false)] ⟨[.agg (l.enc true)], [l.enc false]⟩ := by
  intro l h
  refine ⟨by simp -implicitDefEqProofs (maxSteps := 1000000) only [x_i_copyLead, go_sem], ?_⟩
  obtain ⟨h0, h1, h2, _⟩ := h
  simp -implicitDefEqProofs (maxSteps := 1000000) only [x_i_copyLead, go_sem]
  have e : ∀ n : Nat, n ≤ 2 ^ 31 → decide (n * 1 ≤ 140737488355328) = true ∧ decide (n ≤ 4294967296) = true := fun n hn => ⟨decide_eq_true (by omega), decide_eq_true (by omega)⟩
  exact ⟨e _ h0, e _ h1, ⟨decide_eq_true (by omega), decide_eq_true (by omega)⟩, by decide⟩
def x_s_l19Copy : FnX := ⟨18, [.cell 2 (some 4)],
  .seq (.reg [⟨none, some 1, 1, .box (.t 0)⟩,
   ⟨none, some 2, 2, .alloc [.pv (.int .i64 0), .nils 1, .nils 1, .nils 1]⟩])
 (.seq (.draw [⟨none, some 3, 3, .faddr (.t 1) 0⟩,
   ⟨none, some 4, 4, .load none (.t 3)⟩,
   ⟨none, some 5, 5, .bslice 1 []⟩,
   ⟨none, some 6, 6, .faddr (.t 1) 1⟩,
   ⟨none, some 7, 7, .load none (.t 6)⟩,
   ⟨none, some 8, 8, .app 1 1 (.t 5) (.t 7)⟩,
   ⟨none, some 9, 9, .bslice 1 []⟩,
   ⟨none, some 10, 10, .faddr (.t 1) 2⟩,
   ⟨none, some 11, 11, .load none (.t 10)⟩,
   ⟨none, some 12, 12, .app 1 1 (.t 9) (.t 11)⟩,
   ⟨none, some 13, 13, .bslice 1 []⟩,
   ⟨none, some 14, 14, .faddr (.t 1) 3⟩,
   ⟨none, some 15, 15, .load none (.t 14)⟩,
   ⟨none, some 16, 16, .app 1 16 (.t 13) (.t 15)⟩,
   ⟨none, some 17, 17, .build [.pv (.int .i64 0), .nils 1, .nils 1, .nils 1] [(0, 1, (.t 4)), (1, 1, (.t 8)), (2, 1, (.t 12)), (3, 1, (.t 16))]⟩,
   ⟨none, none, 100001, .store 4 (.t 2) (.t 17)⟩] [[], [0], [], [], [3], [2, 4], [], [], [7], [6, 8, 5], [], [], [11], [10, 12, 9], [1, 5, 9, 13], [14, 13, 0, 1, 2, 3, 4, 5, 6, 7, 8, 9, 10, 11, 12, 13, 14]])
 (.ret))⟩
abbrev C_s_l19Copy (Te : Nat → List AV → Res → Prop) : Prop := ∀ (l : Lead) (h : l.In (2 ^ 31)), Te 60 [.agg (l.enc false)] ⟨[.agg (l.enc true)], [l.enc false]⟩
theorem r_s_l19Copy {Te : Nat → List AV → Res → Prop} : ∀ (l : Lead) (h : l.In (2 ^ 31)), RunFn Te x_s_l19Copy [.agg (l.enc false)] ⟨[.agg (l.enc true)], [l.enc false]⟩ := by
  intro l h
  refine ⟨by simp -implicitDefEqProofs (maxSteps := 1000000) only [x_s_l19Copy, go_sem], ?_⟩
  obtain ⟨h0, h1, h2, _⟩ := h
  simp -implicitDefEqProofs (maxSteps := 1000000) only [x_s_l19Copy, go_sem]
  have e : ∀ n : Nat, n ≤ 2 ^ 31 → decide (n * 1 ≤ 140737488355328) = true ∧ decide (n ≤ 4294967296) = true := fun n hn => ⟨decide_eq_true (by omega), decide_eq_true (by omega)⟩
  exact ⟨e _ h0, e _ h1, ⟨decide_eq_true (by omega), decide_eq_true (by omega)⟩, by decide⟩
def x_i_LeadOk : FnX := ⟨37, [.tmp 2],
  .seq (.reg [⟨none, some 1, 1, .box (.t 0)⟩,
   ⟨none, some 2, 2, .mv (.k (.one (.pv (.bool false))))⟩])
 (.seq (.seq (.reg [⟨none, some 5, 5, .faddr (.t 1) 3⟩,
   ⟨none, some 6, 6, .load none (.t 5)⟩,
   ⟨none, some 7, 7, .len (.t 6)⟩,
   ⟨none, some 8, 8, .mv (.k (.one (.pv (.int .i64 0))))⟩])
 (.block 0 (.loop [1, 6, 7, 8] (.seq (.reg [⟨none, some 9, 9, .bin .lss (.t 8) (.t 7)⟩])
 (.seq (.cond 9 (.skip) (.exit 0))
 (.seq (.block 1 (.seq (.reg [⟨none, some 10, 10, .iaddr 1 (.t 6) (.t 8)⟩,
   ⟨none, some 11, 11, .load none (.t 10)⟩,
   ⟨none, some 4, 4, .mv (.t 11)⟩])
 (.seq (.reg [⟨none, some 12, 12, .mv (.t 4)⟩,
   ⟨none, some 13, 13, .slen (.t 12)⟩,
   ⟨none, some 14, 14, .bin .gtr (.t 13) (.k (.one (.pv (.int .i64 60))))⟩])
 (.cond 14 (.seq (.reg [⟨none, some 2, 2, .mv (.k (.one (.pv (.bool false))))⟩])
 (.ret)) (.skip)))))
 (.reg [⟨none, some 15, 15, .bin .add (.t 8) (.k (.one (.pv (.int .i64 1))))⟩,
   ⟨none, some 8, 8, .mv (.t 15)⟩])))))))
 (.norm [1] (.seq (.reg [⟨none, some 16, 16, .faddr (.t 1) 0⟩,
   ⟨none, some 17, 17, .load none (.t 16)⟩,
   ⟨none, some 18, 18, .call 52 [0, 0, 0] [(.t 17), (.k (.one (.pv (.int .i64 0)))), (.k (.one (.pv (.int .i64 7))))]⟩,
   ⟨none, some 19, 19, .mv (.t 18)⟩,
   ⟨(some (19, true)), some 20, 20, .faddr (.t 1) 1⟩,
   ⟨(some (19, true)), some 21, 21, .load none (.t 20)⟩,
   ⟨(some (19, true)), some 22, 22, .len (.t 21)⟩,
   ⟨(some (19, true)), some 23, 23, .bin .eql (.t 22) (.k (.one (.pv (.int .i64 2))))⟩,
   ⟨none, some 24, 24, .pick (.t 19) (.t 23) (.k (.one (.pv (.bool false))))⟩,
   ⟨none, some 25, 25, .mv (.t 24)⟩,
   ⟨(some (25, true)), some 26, 26, .faddr (.t 1) 2⟩,
   ⟨(some (25, true)), some 27, 27, .load none (.t 26)⟩,
   ⟨(some (25, true)), some 28, 28, .len (.t 27)⟩,
   ⟨(some (25, true)), some 29, 29, .bin .eql (.t 28) (.k (.one (.pv (.int .i64 2))))⟩,
   ⟨none, some 30, 30, .pick (.t 25) (.t 29) (.k (.one (.pv (.bool false))))⟩,
   ⟨none, some 31, 31, .mv (.t 30)⟩,
   ⟨(some (31, true)), some 32, 32, .faddr (.t 1) 3⟩,
   ⟨(some (31, true)), some 33, 33, .load none (.t 32)⟩,
   ⟨(some (31, true)), some 34, 34, .len (.t 33)⟩,
   ⟨(some (31, true)), some 35, 35, .bin .eql (.t 34) (.k (.one (.pv (.int .i64 2))))⟩,
   ⟨none, some 36, 36, .pick (.t 31) (.t 35) (.k (.one (.pv (.bool false))))⟩,
   ⟨none, some 2, 2, .mv (.t 36)⟩])
 (.ret))))⟩
abbrev C_i_LeadOk (Te : Nat → List AV → Res → Prop) : Prop := ∀ (l : Lead) (h : l.In (2 ^ 48)), Te 19 [.agg (l.enc false)] ⟨[.one (bT l.ok)], [l.enc false]⟩
theorem r_i_LeadOk {Te : Nat → List AV → Res → Prop} (c_i_within : C_i_within Te) : ∀ (l : Lead) (h : l.In (2 ^ 48)), RunFn Te x_i_LeadOk [.agg (l.enc false)] ⟨[.one (bT l.ok)], [l.enc false]⟩ := by
  intro l h
  refine ⟨by simp -implicitDefEqProofs (maxSteps := 1000000) only [x_i_LeadOk, go_sem], ?_⟩
  obtain ⟨h0, h1, h2, h3⟩ := h
  simp -implicitDefEqProofs (maxSteps := 1000000) only [x_i_LeadOk, go_sem, Lead.ok]
  refine loop_of (σ := Nat) (fun i => ⟨[(1, .bp 1 0), (6, .one (.ro 1 (l.At.map sR))), (7, .one (.pv (.int .i64 l.At.length))), (8, .one (.pv (.int .i64 i)))], [(1, [.pv (.int .i64 l.Phase), .ro 1 (l.Acked.map bR), .ro 1 (l.Ended.map bR), .ro 1 (l.At.map sR)])], [(0, l.enc false)]⟩) (fun i => i ≤ l.At.length ∧ (l.At.take i).all (fun s => decide ((s.size : Int) ≤ 60)) = true) (fun i => l.At.length - i) 0 ?_ ⟨Nat.zero_le _, rfl⟩ ?_
  · simp -implicitDefEqProofs (maxSteps := 1000000) only [go_sem]; rfl
  · rintro i ⟨hi, hp⟩
    simp -implicitDefEqProofs (maxSteps := 1000000) only [go_sem]
    refine ⟨fun h => ?_, fun h => ?_⟩
    · have hi' : i < l.At.length := by simp only [decide_eq_true_eq] at h; omega
      simp -implicitDefEqProofs (maxSteps := 1000000) only [go_sem, List.getElem?_eq_getElem hi']
      refine ⟨fun q => ?_, fun q => ?_⟩
      · have e := all_not (p := fun s => decide ((s.size : Int) ≤ 60)) hi' (decide_eq_false (by simp only [decide_eq_true_eq] at q; omega))
        simp only [e, Bool.and_false]
      · refine ⟨i + 1, by rw [IntWalk.i64_in _ (by omega)]; rfl, ⟨hi', all_step hi' hp (decide_eq_true (by simp only [decide_eq_false_iff_not] at q; omega))⟩, by omega⟩
    · have e := all_end (show l.At.length ≤ i by simp only [decide_eq_false_iff_not] at h; omega) hp
      simp -implicitDefEqProofs (maxSteps := 1000000) only [go_sem, e]
      refine .of (c_i_within _ _ _) ?_
      simp -implicitDefEqProofs (maxSteps := 1000000) only [go_sem]
      refine bif_cases (fun g1 => ?_) (fun g1 => ?_) <;> simp -implicitDefEqProofs (maxSteps := 1000000) only [g1, go_sem]
      refine bif_cases (fun g2 => ?_) (fun g2 => ?_) <;> simp -implicitDefEqProofs (maxSteps := 1000000) only [g2, go_sem]
      refine bif_cases (fun g3 => ?_) (fun g3 => ?_) <;> simp -implicitDefEqProofs (maxSteps := 1000000) only [g3, go_sem]
def x_s_LeadOk : FnX := ⟨40, [.tmp 2],
  .seq (.reg [⟨none, some 1, 1, .box (.t 0)⟩,
   ⟨none, some 2, 2, .mv (.k (.one (.pv (.bool false))))⟩])
 (.seq (.reg [⟨none, some 3, 3, .faddr (.t 1) 0⟩,
   ⟨none, some 4, 4, .load none (.t 3)⟩,
   ⟨none, some 5, 5, .call 59 [0, 0, 0] [(.t 4), (.k (.one (.pv (.int .i64 0)))), (.k (.one (.pv (.int .i64 7))))]⟩,
   ⟨none, some 6, 6, .mv (.t 5)⟩,
   ⟨(some (6, true)), some 7, 7, .faddr (.t 1) 1⟩,
   ⟨(some (6, true)), some 8, 8, .load none (.t 7)⟩,
   ⟨(some (6, true)), some 9, 9, .len (.t 8)⟩,
   ⟨(some (6, true)), some 10, 10, .bin .eql (.t 9) (.k (.one (.pv (.int .i64 2))))⟩,
   ⟨none, some 11, 11, .pick (.t 6) (.t 10) (.k (.one (.pv (.bool false))))⟩,
   ⟨none, some 12, 12, .mv (.t 11)⟩,
   ⟨(some (12, true)), some 13, 13, .faddr (.t 1) 2⟩,
   ⟨(some (12, true)), some 14, 14, .load none (.t 13)⟩,
   ⟨(some (12, true)), some 15, 15, .len (.t 14)⟩,
   ⟨(some (12, true)), some 16, 16, .bin .eql (.t 15) (.k (.one (.pv (.int .i64 2))))⟩,
   ⟨none, some 17, 17, .pick (.t 12) (.t 16) (.k (.one (.pv (.bool false))))⟩,
   ⟨none, some 18, 18, .mv (.t 17)⟩,
   ⟨(some (18, true)), some 19, 19, .faddr (.t 1) 3⟩,
   ⟨(some (18, true)), some 20, 20, .load none (.t 19)⟩,
   ⟨(some (18, true)), some 21, 21, .len (.t 20)⟩,
   ⟨(some (18, true)), some 22, 22, .bin .eql (.t 21) (.k (.one (.pv (.int .i64 2))))⟩,
   ⟨none, some 23, 23, .pick (.t 18) (.t 22) (.k (.one (.pv (.bool false))))⟩,
   ⟨none, some 24, 24, .mv (.t 23)⟩,
   ⟨(some (24, true)), some 25, 25, .faddr (.t 1) 3⟩,
   ⟨(some (24, true)), some 26, 26, .load none (.t 25)⟩,
   ⟨(some (24, true)), some 27, 27, .iaddr 1 (.t 26) (.k (.one (.pv (.int .i64 0))))⟩,
   ⟨(some (24, true)), some 28, 28, .load none (.t 27)⟩,
   ⟨(some (24, true)), some 29, 29, .slen (.t 28)⟩,
   ⟨(some (24, true)), some 30, 30, .bin .leq (.t 29) (.k (.one (.pv (.int .i64 60))))⟩,
   ⟨none, some 31, 31, .pick (.t 24) (.t 30) (.k (.one (.pv (.bool false))))⟩,
   ⟨none, some 32, 32, .mv (.t 31)⟩,
   ⟨(some (32, true)), some 33, 33, .faddr (.t 1) 3⟩,
   ⟨(some (32, true)), some 34, 34, .load none (.t 33)⟩,
   ⟨(some (32, true)), some 35, 35, .iaddr 1 (.t 34) (.k (.one (.pv (.int .i64 1))))⟩,
   ⟨(some (32, true)), some 36, 36, .load none (.t 35)⟩,
   ⟨(some (32, true)), some 37, 37, .slen (.t 36)⟩,
   ⟨(some (32, true)), some 38, 38, .bin .leq (.t 37) (.k (.one (.pv (.int .i64 60))))⟩,
   ⟨none, some 39, 39, .pick (.t 32) (.t 38) (.k (.one (.pv (.bool false))))⟩,
   ⟨none, some 2, 2, .mv (.t 39)⟩])
 (.ret))⟩
abbrev C_s_LeadOk (Te : Nat → List AV → Res → Prop) : Prop := ∀ (l : Lead) (h : l.In (2 ^ 48)), Te 58 [.agg (l.enc false)] ⟨[.one (bT l.ok)], [l.enc false]⟩
theorem r_s_LeadOk {Te : Nat → List AV → Res → Prop} (c_s_l1In : C_s_l1In Te) : ∀ (l : Lead) (h : l.In (2 ^ 48)), RunFn Te x_s_LeadOk [.agg (l.enc false)] ⟨[.one (bT l.ok)], [l.enc false]⟩ := by
  intro l h
  refine ⟨by simp -implicitDefEqProofs (maxSteps := 1000000) only [x_s_LeadOk, go_sem], ?_⟩
  obtain ⟨p, a, e, t⟩ := l
  simp -implicitDefEqProofs (maxSteps := 1000000) only [x_s_LeadOk, go_sem, Lead.ok]
  refine .of (c_s_l1In _ _ _) ?_
  simp -implicitDefEqProofs (maxSteps := 1000000) only [go_sem]
  refine bif_cases (fun g1 => ?_) (fun g1 => ?_) <;> simp -implicitDefEqProofs (maxSteps := 1000000) only [g1, go_sem]
  refine bif_cases (fun g2 => ?_) (fun g2 => ?_) <;> simp -implicitDefEqProofs (maxSteps := 1000000) only [g2, go_sem]
  refine bif_cases (fun g3 => ?_) (fun g3 => ?_) <;> simp -implicitDefEqProofs (maxSteps := 1000000) only [g3, go_sem]
  refine bif_cases (fun g4 => ?_) (fun g4 => ?_) <;> simp -implicitDefEqProofs (maxSteps := 1000000) only [g4, go_sem]
  match t, g4 with
  | [t0, t1], _ =>
    simp -implicitDefEqProofs (maxSteps := 1000000) only [go_sem]
    refine bif_cases (fun g5 => ?_) (fun g5 => ?_) <;> simp -implicitDefEqProofs (maxSteps := 1000000) only [g5, go_sem]
  | [], g4 => simp at g4
  | [_], g4 => simp at g4
  | _ :: _ :: _ :: _, g4 => simp at g4; omega
theorem if_false_iff {α : Type} {x y : α} : (if false = true then x else y) = y := if_neg (by decide)
def walks (p : Int) : Bool := (p == 2) || (p == 3) || (p == 4) || (p == 6)
def final (p : Int) : Bool := (p == 5) || (p == 7)
def Lead.begin (l : Lead) : Lead × Bool := if (l.ok && (l.Phase == 0)) = true then (leadIn 1, true) else (l, false)
def Lead.abort (l : Lead) : Lead × Bool := if (l.ok && win l.Phase 1 3) = true then (leadIn 6, true) else (l, false)
def x_i_Walks : FnX := ⟨17, [.tmp 2],
  .seq (.reg [⟨none, some 2, 2, .mv (.k (.one (.pv (.bool false))))⟩])
 (.seq (.reg [⟨none, some 3, 3, .mv (.t 0)⟩,
   ⟨none, some 4, 4, .bin .eql (.t 3) (.k (.one (.pv (.int .i64 2))))⟩,
   ⟨none, some 5, 5, .mv (.t 4)⟩,
   ⟨(some (5, false)), some 6, 6, .mv (.t 0)⟩,
   ⟨(some (5, false)), some 7, 7, .bin .eql (.t 6) (.k (.one (.pv (.int .i64 3))))⟩,
   ⟨none, some 8, 8, .pick (.t 5) (.k (.one (.pv (.bool true)))) (.t 7)⟩,
   ⟨none, some 9, 9, .mv (.t 8)⟩,
   ⟨(some (9, false)), some 10, 10, .mv (.t 0)⟩,
   ⟨(some (9, false)), some 11, 11, .bin .eql (.t 10) (.k (.one (.pv (.int .i64 4))))⟩,
   ⟨none, some 12, 12, .pick (.t 9) (.k (.one (.pv (.bool true)))) (.t 11)⟩,
   ⟨none, some 13, 13, .mv (.t 12)⟩,
   ⟨(some (13, false)), some 14, 14, .mv (.t 0)⟩,
   ⟨(some (13, false)), some 15, 15, .bin .eql (.t 14) (.k (.one (.pv (.int .i64 6))))⟩,
   ⟨none, some 16, 16, .pick (.t 13) (.k (.one (.pv (.bool true)))) (.t 15)⟩,
   ⟨none, some 2, 2, .mv (.t 16)⟩])
 (.ret))⟩
abbrev C_i_Walks (Te : Nat → List AV → Res → Prop) : Prop := ∀ (p : Int), Te 50 [.one (iT p)] ⟨[.one (bT (walks p))], [[iT p]]⟩
theorem r_i_Walks {Te : Nat → List AV → Res → Prop} : ∀ (p : Int), RunFn Te x_i_Walks [.one (iT p)] ⟨[.one (bT (walks p))], [[iT p]]⟩ := by
  intro p
  refine ⟨by simp -implicitDefEqProofs (maxSteps := 1000000) only [x_i_Walks, go_sem], ?_⟩
  cases g1 : (p == 2)
  · cases g2 : (p == 3)
    · cases g3 : (p == 4) <;> simp -implicitDefEqProofs (maxSteps := 1000000) only [x_i_Walks, go_sem, g1, g2, g3, walks]
    · simp -implicitDefEqProofs (maxSteps := 1000000) only [x_i_Walks, go_sem, g1, g2, walks]
  · simp -implicitDefEqProofs (maxSteps := 1000000) only [x_i_Walks, go_sem, g1, walks]
def x_s_Walks : FnX := ⟨9, [.tmp 2],
  .seq (.reg [⟨none, some 2, 2, .mv (.k (.one (.pv (.bool false))))⟩])
 (.seq (.reg [⟨none, some 3, 3, .mv (.t 0)⟩,
   ⟨none, some 4, 4, .call 59 [0, 0, 0] [(.t 3), (.k (.one (.pv (.int .i64 2)))), (.k (.one (.pv (.int .i64 4))))]⟩,
   ⟨none, some 5, 5, .mv (.t 4)⟩,
   ⟨(some (5, false)), some 6, 6, .mv (.t 0)⟩,
   ⟨(some (5, false)), some 7, 7, .bin .eql (.t 6) (.k (.one (.pv (.int .i64 6))))⟩,
   ⟨none, some 8, 8, .pick (.t 5) (.k (.one (.pv (.bool true)))) (.t 7)⟩,
   ⟨none, some 2, 2, .mv (.t 8)⟩])
 (.ret))⟩
abbrev C_s_Walks (Te : Nat → List AV → Res → Prop) : Prop := ∀ (p : Int), Te 61 [.one (iT p)] ⟨[.one (bT (walks p))], [[iT p]]⟩
theorem r_s_Walks {Te : Nat → List AV → Res → Prop} (c_s_l1In : C_s_l1In Te) : ∀ (p : Int), RunFn Te x_s_Walks [.one (iT p)] ⟨[.one (bT (walks p))], [[iT p]]⟩ := by
  intro p
  refine ⟨by simp -implicitDefEqProofs (maxSteps := 1000000) only [x_s_Walks, go_sem], ?_⟩
  have key : walks p = (win p 2 4 || (p == 6)) := by
    simp only [walks, win]
    by_cases h2 : p = 2
    · subst h2; rfl
    by_cases h3 : p = 3
    · subst h3; rfl
    by_cases h4 : p = 4
    · subst h4; rfl
    have : (decide (p ≥ 2) && decide (p ≤ 4)) = false := by simp; omega
    simp [h2, h3, h4, this]
  simp -implicitDefEqProofs (maxSteps := 1000000) only [x_s_Walks, go_sem, key]
  refine .of (c_s_l1In _ _ _) ?_
  cases g1 : win p 2 4 <;> simp -implicitDefEqProofs (maxSteps := 1000000) only [go_sem]
def x_i_Final : FnX := ⟨9, [.tmp 2],
  .seq (.reg [⟨none, some 2, 2, .mv (.k (.one (.pv (.bool false))))⟩])
 (.seq (.reg [⟨none, some 3, 3, .mv (.t 0)⟩,
   ⟨none, some 4, 4, .bin .eql (.t 3) (.k (.one (.pv (.int .i64 5))))⟩,
   ⟨none, some 5, 5, .mv (.t 4)⟩,
   ⟨(some (5, false)), some 6, 6, .mv (.t 0)⟩,
   ⟨(some (5, false)), some 7, 7, .bin .eql (.t 6) (.k (.one (.pv (.int .i64 7))))⟩,
   ⟨none, some 8, 8, .pick (.t 5) (.k (.one (.pv (.bool true)))) (.t 7)⟩,
   ⟨none, some 2, 2, .mv (.t 8)⟩])
 (.ret))⟩
abbrev C_i_Final (Te : Nat → List AV → Res → Prop) : Prop := ∀ (p : Int), Te 51 [.one (iT p)] ⟨[.one (bT (final p))], [[iT p]]⟩
theorem r_i_Final {Te : Nat → List AV → Res → Prop} : ∀ (p : Int), RunFn Te x_i_Final [.one (iT p)] ⟨[.one (bT (final p))], [[iT p]]⟩ := by
  intro p
  refine ⟨by simp -implicitDefEqProofs (maxSteps := 1000000) only [x_i_Final, go_sem], ?_⟩
  cases g1 : (p == 5) <;> simp -implicitDefEqProofs (maxSteps := 1000000) only [x_i_Final, go_sem, g1, final]
def x_s_Final : FnX := ⟨9, [.tmp 2],
  .seq (.reg [⟨none, some 2, 2, .mv (.k (.one (.pv (.bool false))))⟩])
 (.seq (.reg [⟨none, some 3, 3, .mv (.t 0)⟩,
   ⟨none, some 4, 4, .bin .eql (.t 3) (.k (.one (.pv (.int .i64 5))))⟩,
   ⟨none, some 5, 5, .mv (.t 4)⟩,
   ⟨(some (5, false)), some 6, 6, .mv (.t 0)⟩,
   ⟨(some (5, false)), some 7, 7, .bin .eql (.t 6) (.k (.one (.pv (.int .i64 7))))⟩,
   ⟨none, some 8, 8, .pick (.t 5) (.k (.one (.pv (.bool true)))) (.t 7)⟩,
   ⟨none, some 2, 2, .mv (.t 8)⟩])
 (.ret))⟩
abbrev C_s_Final (Te : Nat → List AV → Res → Prop) : Prop := ∀ (p : Int), Te 65 [.one (iT p)] ⟨[.one (bT (final p))], [[iT p]]⟩
theorem r_s_Final {Te : Nat → List AV → Res → Prop} : ∀ (p : Int), RunFn Te x_s_Final [.one (iT p)] ⟨[.one (bT (final p))], [[iT p]]⟩ := by
  intro p
  refine ⟨by simp -implicitDefEqProofs (maxSteps := 1000000) only [x_s_Final, go_sem], ?_⟩
  cases g1 : (p == 5) <;> simp -implicitDefEqProofs (maxSteps := 1000000) only [x_s_Final, go_sem, g1, final]
end Go.X

/- H -/
namespace Go.X
set_option maxRecDepth 100000
set_option maxHeartbeats 8000000
def tickOne (p i : Int) (a e : Bool) (t : ByteArray) : List Msg :=
  if a = false then [⟨6, 0, 3 + i, 0, ⟨#[]⟩, ⟨#[]⟩, p, 0⟩] else if walks p = true ∧ e = false then [⟨8, 0, 3 + i, 0, t, ⟨#[]⟩, p, 0⟩] else []
def Lead.tick (l : Lead) : List Msg := if l.ok = false ∨ l.Phase = 0 then [] else
  tickOne l.Phase 0 (l.Acked.getD 0 false) (l.Ended.getD 0 false) (l.At.getD 0 ⟨#[]⟩) ++ tickOne l.Phase 1 (l.Acked.getD 1 false) (l.Ended.getD 1 false) (l.At.getD 1 ⟨#[]⟩)
theorem tickOne_len (p i : Int) (a e : Bool) (t : ByteArray) : (tickOne p i a e t).length ≤ 1 := by
  unfold tickOne
  split
  · exact Nat.le_refl _
  · split <;> simp
theorem tick_len (l : Lead) : l.tick.length ≤ 2 := by
  unfold Lead.tick
  split
  · simp
  · rw [List.length_append]
    exact Nat.add_le_add (tickOne_len ..) (tickOne_len ..)
theorem Lead.ok_two {l : Lead} (h : l.ok = true) : ∃ p a0 a1 e0 e1 t0 t1, l = ⟨p, [a0, a1], [e0, e1], [t0, t1]⟩ := by
  obtain ⟨p, a, e, t⟩ := l
  simp only [Lead.ok, Bool.and_eq_true, beq_iff_eq] at h
  obtain ⟨⟨⟨⟨_, h1⟩, h2⟩, h3⟩, _⟩ := h
  have two : ∀ {α : Type} (l : List α), (l.length : Int) = 2 → ∃ x y, l = [x, y] := fun l hl => by
    match l, hl with
    | [x, y], _ => exact ⟨x, y, rfl⟩
    | [], h => simp at h
    | [_], h => simp at h
    | _ :: _ :: _ :: _, h => simp at h; omega
  obtain ⟨a0, a1, rfl⟩ := two a h1
  obtain ⟨e0, e1, rfl⟩ := two e h2
  obtain ⟨t0, t1, rfl⟩ := two t h3
  exact ⟨p, a0, a1, e0, e1, t0, t1, rfl⟩
end Go.X

/- I -/
namespace Go.X
set_option maxRecDepth 100000
set_option maxHeartbeats 8000000
theorem bytes_tri : ∀ x y : List UInt8, (!(Op.bytesLess y x || y == x)) = Op.bytesLess x y
  | [], [] => rfl
  | [], _ :: _ => rfl
  | _ :: _, [] => rfl
  | a :: x, b :: y => by
    have ih := bytes_tri x y
    simp only [Op.bytesLess, List.cons_beq_cons]
    rcases (show a < b ∨ a = b ∨ b < a by rcases Nat.lt_trichotomy a.toNat b.toNat with h | h | h; exact .inl (UInt8.lt_iff_toNat_lt.2 h); exact .inr (.inl (UInt8.toNat_inj.1 h)); exact .inr (.inr (UInt8.lt_iff_toNat_lt.2 h))) with h | h | h
    · have h1 : ¬ b < a := UInt8.lt_asymm h
      have h2 : (b == a) = false := by simpa using (fun e : b = a => UInt8.ne_of_lt h e.symm)
      simp [h, h1, h2]
    · subst h
      have h1 : ¬ a < a := UInt8.lt_irrefl a
      simp only [h1, decide_false, beq_self_eq_true, Bool.false_or, Bool.true_and]
      exact ih
    · have h1 : ¬ a < b := UInt8.lt_asymm h
      have h2 : (a == b) = false := by simpa using (fun e : a = b => UInt8.ne_of_lt h e.symm)
      simp [h, h1, h2]
def maxS (a b : ByteArray) : ByteArray := bif !(Op.bytesLess a.toList b.toList) then a else b
def hearGo (p : Int) (a0 a1 e0 e1 : Bool) (t0 t1 : ByteArray) : Lead := if ((a0 && a1) && ((e0 && e1) || !walks p) && !final p) = true then leadIn (p + 1) else ⟨p, [a0, a1], [e0, e1], [t0, t1]⟩
def Lead.hearIn (l : Lead) (m : Msg) : Lead :=
  match l with
  | ⟨p, [a0, a1], [e0, e1], [t0, t1]⟩ =>
    if m.Kind = 7 then (if m.From = 3 then hearGo p true a1 e0 e1 t0 t1 else hearGo p a0 true e0 e1 t0 t1)
    else if m.Kind = 9 ∧ (if m.From = 3 then a0 else a1) = true then
      if m.Code = 1 then (if m.From = 3 then hearGo p a0 a1 true e1 t0 t1 else hearGo p a0 a1 e0 true t0 t1)
      else (if m.From = 3 then hearGo p a0 a1 e0 e1 (maxS t0 m.Key) t1 else hearGo p a0 a1 e0 e1 t0 (maxS t1 m.Key))
    else l
  | _ => l
def Lead.hear (l : Lead) (m : Msg) : Lead := if (l.ok && m.ok && decide (m.From ≥ 3) && (m.To == 0) && (m.N == l.Phase) && !(l.Phase == 0)) = true then l.hearIn m else l
theorem hearGo_len (p : Int) (a0 a1 e0 e1 : Bool) (t0 t1 : ByteArray) : (hearGo p a0 a1 e0 e1 t0 t1).Len := by
  unfold hearGo
  split
  · exact (leadIn_In _).len (by decide)
  · exact ⟨(by show 2 ≤ 2 ^ 31; decide), (by show 2 ≤ 2 ^ 31; decide), (by show 2 ≤ 2 ^ 31; decide)⟩
theorem hear_len {l : Lead} (m : Msg) (h : l.Len) : (l.hear m).Len := by
  unfold Lead.hear
  split
  · unfold Lead.hearIn
    split
    · repeat' split
      all_goals first | exact hearGo_len .. | exact h
    · exact h
  · exact h
def x_i_Hear_1 : XCode := .seq (.reg [⟨none, some 84, 84, .faddr (.t 5) 1⟩,
   ⟨none, some 85, 85, .load none (.t 84)⟩,
   ⟨none, some 86, 86, .iaddr 1 (.t 85) (.k (.one (.pv (.int .i64 0))))⟩,
   ⟨none, some 87, 87, .load none (.t 86)⟩,
   ⟨none, some 88, 88, .mv (.t 87)⟩,
   ⟨(some (88, true)), some 89, 89, .faddr (.t 5) 1⟩,
   ⟨(some (88, true)), some 90, 90, .load none (.t 89)⟩,
   ⟨(some (88, true)), some 91, 91, .iaddr 1 (.t 90) (.k (.one (.pv (.int .i64 1))))⟩,
   ⟨(some (88, true)), some 92, 92, .load none (.t 91)⟩,
   ⟨none, some 93, 93, .pick (.t 88) (.t 92) (.k (.one (.pv (.bool false))))⟩,
   ⟨none, some 7, 7, .mv (.t 93)⟩])
 (.seq (.reg [⟨none, some 94, 94, .faddr (.t 5) 2⟩,
   ⟨none, some 95, 95, .load none (.t 94)⟩,
   ⟨none, some 96, 96, .iaddr 1 (.t 95) (.k (.one (.pv (.int .i64 0))))⟩,
   ⟨none, some 97, 97, .load none (.t 96)⟩,
   ⟨none, some 98, 98, .mv (.t 97)⟩,
   ⟨(some (98, true)), some 99, 99, .faddr (.t 5) 2⟩,
   ⟨(some (98, true)), some 100, 100, .load none (.t 99)⟩,
   ⟨(some (98, true)), some 101, 101, .iaddr 1 (.t 100) (.k (.one (.pv (.int .i64 1))))⟩,
   ⟨(some (98, true)), some 102, 102, .load none (.t 101)⟩,
   ⟨none, some 103, 103, .pick (.t 98) (.t 102) (.k (.one (.pv (.bool false))))⟩,
   ⟨none, some 8, 8, .mv (.t 103)⟩])
 (.seq (.seq (.reg [⟨none, some 104, 104, .mv (.t 7)⟩,
   ⟨none, some 105, 105, .mv (.t 104)⟩,
   ⟨(some (105, true)), some 106, 106, .mv (.t 8)⟩,
   ⟨(some (105, true)), some 107, 107, .mv (.t 106)⟩,
   ⟨(some (107, false)), some 108, 108, .faddr (.t 2) 0⟩,
   ⟨(some (107, false)), some 109, 109, .load none (.t 108)⟩,
   ⟨(some (107, false)), some 110, 110, .call 50 [0] [(.t 109)]⟩,
   ⟨(some (107, false)), some 111, 111, .not (.t 110)⟩,
   ⟨(some (105, true)), some 112, 112, .pick (.t 107) (.k (.one (.pv (.bool true)))) (.t 111)⟩,
   ⟨none, some 113, 113, .pick (.t 105) (.t 112) (.k (.one (.pv (.bool false))))⟩,
   ⟨none, some 114, 114, .mv (.t 113)⟩,
   ⟨(some (114, true)), some 115, 115, .faddr (.t 2) 0⟩,
   ⟨(some (114, true)), some 116, 116, .load none (.t 115)⟩,
   ⟨(some (114, true)), some 117, 117, .call 51 [0] [(.t 116)]⟩,
   ⟨(some (114, true)), some 118, 118, .not (.t 117)⟩,
   ⟨none, some 119, 119, .pick (.t 114) (.t 118) (.k (.one (.pv (.bool false))))⟩])
 (.cond 119 (.seq (.reg [⟨none, some 120, 120, .faddr (.t 2) 0⟩,
   ⟨none, some 121, 121, .load none (.t 120)⟩,
   ⟨none, some 122, 122, .bin .add (.t 121) (.k (.one (.pv (.int .i64 1))))⟩,
   ⟨none, some 123, 123, .call 40 [0] [(.t 122)]⟩,
   ⟨none, none, 100007, .store 4 (.t 4) (.t 123)⟩])
 (.ret)) (.skip)))
 (.seq (.reg [⟨none, some 124, 124, .load (some 4) (.t 5)⟩,
   ⟨none, none, 100008, .store 4 (.t 4) (.t 124)⟩])
 (.ret))))
def x_i_Hear : FnX := ⟨125, [.cell 4 (some 4)],
  .seq (.reg [⟨none, some 2, 2, .box (.t 0)⟩,
   ⟨none, some 3, 3, .box (.t 1)⟩,
   ⟨none, some 4, 4, .alloc [.pv (.int .i64 0), .nils 1, .nils 1, .nils 1]⟩])
 (.seq (.reg [⟨none, some 9, 9, .load (some 4) (.t 2)⟩,
   ⟨none, some 10, 10, .call 49 [0] [(.t 9)]⟩,
   ⟨none, some 5, 5, .alloc [.pv (.int .i64 0), .nils 1, .nils 1, .nils 1]⟩,
   ⟨none, none, 100001, .store 4 (.t 5) (.t 10)⟩])
 (.seq (.seq (.reg [⟨none, some 11, 11, .load (some 4) (.t 2)⟩,
   ⟨none, some 12, 12, .call 19 [0] [(.t 11)]⟩,
   ⟨none, some 13, 13, .not (.t 12)⟩,
   ⟨none, some 14, 14, .mv (.t 13)⟩,
   ⟨(some (14, false)), some 15, 15, .load (some 8) (.t 3)⟩,
   ⟨(some (14, false)), some 16, 16, .call 23 [0] [(.t 15)]⟩,
   ⟨(some (14, false)), some 17, 17, .not (.t 16)⟩,
   ⟨none, some 18, 18, .pick (.t 14) (.k (.one (.pv (.bool true)))) (.t 17)⟩,
   ⟨none, some 19, 19, .mv (.t 18)⟩,
   ⟨(some (19, false)), some 20, 20, .faddr (.t 3) 1⟩,
   ⟨(some (19, false)), some 21, 21, .load none (.t 20)⟩,
   ⟨(some (19, false)), some 22, 22, .bin .lss (.t 21) (.k (.one (.pv (.int .i64 3))))⟩,
   ⟨none, some 23, 23, .pick (.t 19) (.k (.one (.pv (.bool true)))) (.t 22)⟩,
   ⟨none, some 24, 24, .mv (.t 23)⟩,
   ⟨(some (24, false)), some 25, 25, .faddr (.t 3) 2⟩,
   ⟨(some (24, false)), some 26, 26, .load none (.t 25)⟩,
   ⟨(some (24, false)), some 27, 27, .bin .neq (.t 26) (.k (.one (.pv (.int .i64 0))))⟩,
   ⟨none, some 28, 28, .pick (.t 24) (.k (.one (.pv (.bool true)))) (.t 27)⟩,
   ⟨none, some 29, 29, .mv (.t 28)⟩,
   ⟨(some (29, false)), some 30, 30, .faddr (.t 3) 6⟩,
   ⟨(some (29, false)), some 31, 31, .load none (.t 30)⟩,
   ⟨(some (29, false)), some 32, 32, .faddr (.t 2) 0⟩,
   ⟨(some (29, false)), some 33, 33, .load none (.t 32)⟩,
   ⟨(some (29, false)), some 34, 34, .bin .neq (.t 31) (.t 33)⟩,
   ⟨none, some 35, 35, .pick (.t 29) (.k (.one (.pv (.bool true)))) (.t 34)⟩,
   ⟨none, some 36, 36, .mv (.t 35)⟩,
   ⟨(some (36, false)), some 37, 37, .faddr (.t 2) 0⟩,
   ⟨(some (36, false)), some 38, 38, .load none (.t 37)⟩,
   ⟨(some (36, false)), some 39, 39, .bin .eql (.t 38) (.k (.one (.pv (.int .i64 0))))⟩,
   ⟨none, some 40, 40, .pick (.t 36) (.k (.one (.pv (.bool true)))) (.t 39)⟩])
 (.cond 40 (.seq (.reg [⟨none, some 41, 41, .load (some 4) (.t 5)⟩,
   ⟨none, none, 100002, .store 4 (.t 4) (.t 41)⟩])
 (.ret)) (.skip)))
 (.seq (.reg [⟨none, some 42, 42, .faddr (.t 3) 1⟩,
   ⟨none, some 43, 43, .load none (.t 42)⟩,
   ⟨none, some 44, 44, .bin .sub (.t 43) (.k (.one (.pv (.int .i64 3))))⟩,
   ⟨none, some 6, 6, .mv (.t 44)⟩])
 (.seq (.block 0 (.seq (.reg [⟨none, some 47, 47, .faddr (.t 3) 0⟩,
   ⟨none, some 48, 48, .load none (.t 47)⟩,
   ⟨none, some 49, 49, .bin .eql (.t 48) (.k (.one (.pv (.int .i64 7))))⟩,
   ⟨none, some 46, 46, .mv (.t 49)⟩])
 (.cond 46 (.reg [⟨none, some 50, 50, .faddr (.t 5) 1⟩,
   ⟨none, some 51, 51, .load none (.t 50)⟩,
   ⟨none, some 52, 52, .mv (.t 6)⟩,
   ⟨none, some 53, 53, .iaddr 1 (.t 51) (.t 52)⟩,
   ⟨none, none, 100003, .store 1 (.t 53) (.k (.one (.pv (.bool true))))⟩]) (.seq (.reg [⟨none, some 55, 55, .faddr (.t 3) 0⟩,
   ⟨none, some 56, 56, .load none (.t 55)⟩,
   ⟨none, some 57, 57, .bin .eql (.t 56) (.k (.one (.pv (.int .i64 9))))⟩,
   ⟨none, some 58, 58, .mv (.t 57)⟩,
   ⟨(some (58, true)), some 59, 59, .faddr (.t 2) 1⟩,
   ⟨(some (58, true)), some 60, 60, .load none (.t 59)⟩,
   ⟨(some (58, true)), some 61, 61, .mv (.t 6)⟩,
   ⟨(some (58, true)), some 62, 62, .iaddr 1 (.t 60) (.t 61)⟩,
   ⟨(some (58, true)), some 63, 63, .load none (.t 62)⟩,
   ⟨none, some 64, 64, .pick (.t 58) (.t 63) (.k (.one (.pv (.bool false))))⟩,
   ⟨none, some 54, 54, .mv (.t 64)⟩])
 (.cond 54 (.seq (.reg [⟨none, some 65, 65, .faddr (.t 3) 7⟩,
   ⟨none, some 66, 66, .load none (.t 65)⟩,
   ⟨none, some 67, 67, .bin .eql (.t 66) (.k (.one (.pv (.int .i64 1))))⟩])
 (.cond 67 (.reg [⟨none, some 68, 68, .faddr (.t 5) 2⟩,
   ⟨none, some 69, 69, .load none (.t 68)⟩,
   ⟨none, some 70, 70, .mv (.t 6)⟩,
   ⟨none, some 71, 71, .iaddr 1 (.t 69) (.t 70)⟩,
   ⟨none, none, 100004, .store 1 (.t 71) (.k (.one (.pv (.bool true))))⟩]) (.draw [⟨none, some 72, 72, .faddr (.t 5) 3⟩,
   ⟨none, some 73, 73, .load none (.t 72)⟩,
   ⟨none, some 74, 74, .mv (.t 6)⟩,
   ⟨none, some 75, 75, .faddr (.t 2) 3⟩,
   ⟨none, some 76, 76, .load none (.t 75)⟩,
   ⟨none, some 77, 77, .mv (.t 6)⟩,
   ⟨none, some 78, 78, .iaddr 1 (.t 76) (.t 77)⟩,
   ⟨none, some 79, 79, .load none (.t 78)⟩,
   ⟨none, some 80, 80, .faddr (.t 3) 4⟩,
   ⟨none, some 81, 81, .load none (.t 80)⟩,
   ⟨none, some 82, 82, .max (.t 79) (.t 81)⟩,
   ⟨none, some 83, 83, .iaddr 1 (.t 73) (.t 74)⟩,
   ⟨none, none, 100005, .store 1 (.t 83) (.t 82)⟩] [[], [0], [], [], [3], [], [4, 5], [6], [], [8], [7, 9], [1, 2, 0, 1, 2, 3, 4, 5, 6, 7, 8, 9, 10], [11, 10, 0, 1, 2, 3, 4, 5, 6, 7, 8, 9, 10]]))) (.seq (.reg [⟨none, some 45, 45, .load (some 4) (.t 5)⟩,
   ⟨none, none, 100006, .store 4 (.t 4) (.t 45)⟩])
 (.ret)))))))
 (.norm [2, 4, 5] (x_i_Hear_1))))))⟩
abbrev C_i_Hear (Te : Nat → List AV → Res → Prop) : Prop := ∀ (l : Lead) (m : Msg) (h : l.In (2 ^ 31)), Te 18 [.agg (l.enc false), .agg m.row] ⟨[.agg ((l.hear m).enc true)], [l.enc false, m.row]⟩
theorem i_Hear_tail {Te : Nat → List AV → Res → Prop} (c_W : C_i_Walks Te) (c_F : C_i_Final Te) (c_L : C_i_leadIn Te) (p : Int) (a0 a1 e0 e1 : Bool) (t0 t1 : ByteArray) (x0 x1 y0 y1 : Bool) (z0 z1 : ByteArray) (m : Msg) (hp : 0 ≤ p ∧ p ≤ 7) :
    runC Te 2 127 x_i_Hear_1 ⟨[(2, .bp 2 0), (4, .bp 4 0), (5, .bp 5 0)], [(2, [.pv (.int .i64 p), .ro 1 [bR x0, bR x1], .ro 1 [bR y0, bR y1], .ro 1 [sR z0, sR z1]]), (4, [.pv (.int .i64 0), .nils 1, .nils 1, .nils 1]), (5, [.pv (.int .i64 p), .rf 127 1 [] 1 0 2, .rf 127 2 [] 1 0 2, .rf 127 3 [] 1 0 2])],
      [(0, Lead.enc false ⟨p, [x0, x1], [y0, y1], [z0, z1]⟩), (1, m.row), (127, [iT p, .sl true 1 () [bR a0, bR a1], .sl true 1 () [bR e0, bR e1], .sl true 1 () [sR t0, sR t1]])]⟩
      (EndFn Te [.agg (Lead.enc false ⟨p, [x0, x1], [y0, y1], [z0, z1]⟩), .agg m.row] [.cell 4 (some 4)] ⟨[.agg ((hearGo p a0 a1 e0 e1 t0 t1).enc true)], [Lead.enc false ⟨p, [x0, x1], [y0, y1], [z0, z1]⟩, m.row]⟩) := by
  have hw : IntKind.i64.wrap (p + 1) = p + 1 := IntWalk.i64_in _ (by omega)
  simp only [hearGo]
  cases a0
  · cases e0 <;> simp -implicitDefEqProofs (maxSteps := 1000000) only [x_i_Hear_1, go_sem, if_false] <;> rfl
  cases a1
  · cases e0 <;> simp -implicitDefEqProofs (maxSteps := 1000000) only [x_i_Hear_1, go_sem, if_false] <;> rfl
  cases e0
  · simp -implicitDefEqProofs (maxSteps := 1000000) only [x_i_Hear_1, go_sem]
    refine .of (c_W _) ?_
    cases w : walks p
    · simp -implicitDefEqProofs (maxSteps := 1000000) only [go_sem, w]
      refine .of (c_F _) ?_
      cases f : final p
      · simp -implicitDefEqProofs (maxSteps := 1000000) only [go_sem, f, hw]
        refine .of (c_L _) ?_
        simp -implicitDefEqProofs (maxSteps := 1000000) only [go_sem, if_true]
      · simp -implicitDefEqProofs (maxSteps := 1000000) only [go_sem, f, if_false]
        rfl
    · simp -implicitDefEqProofs (maxSteps := 1000000) only [go_sem, w, if_false]
      rfl
  cases e1
  · simp -implicitDefEqProofs (maxSteps := 1000000) only [x_i_Hear_1, go_sem]
    refine .of (c_W _) ?_
    cases w : walks p
    · simp -implicitDefEqProofs (maxSteps := 1000000) only [go_sem, w]
      refine .of (c_F _) ?_
      cases f : final p
      · simp -implicitDefEqProofs (maxSteps := 1000000) only [go_sem, f, hw]
        refine .of (c_L _) ?_
        simp -implicitDefEqProofs (maxSteps := 1000000) only [go_sem, if_true]
      · simp -implicitDefEqProofs (maxSteps := 1000000) only [go_sem, f, if_false]
        rfl
    · simp -implicitDefEqProofs (maxSteps := 1000000) only [go_sem, w, if_false]
      rfl
  · simp -implicitDefEqProofs (maxSteps := 1000000) only [x_i_Hear_1, go_sem]
    refine .of (c_F _) ?_
    cases f : final p
    · simp -implicitDefEqProofs (maxSteps := 1000000) only [go_sem, f, hw]
      refine .of (c_L _) ?_
      simp -implicitDefEqProofs (maxSteps := 1000000) only [go_sem, if_true]
    · simp -implicitDefEqProofs (maxSteps := 1000000) only [go_sem, f, if_false]
      rfl
theorem r_i_Hear {Te : Nat → List AV → Res → Prop} (c_i_copyLead : C_i_copyLead Te) (c_i_LeadOk : C_i_LeadOk Te) (c_i_MsgOk : C_i_MsgOk Te) (c_i_Walks : C_i_Walks Te) (c_i_Final : C_i_Final Te) (c_i_leadIn : C_i_leadIn Te) : ∀ (l : Lead) (m : Msg) (h : l.In (2 ^ 31)), RunFn Te x_i_Hear [.agg (l.enc false), .agg m.row] ⟨[.agg ((l.hear m).enc true)], [l.enc false, m.row]⟩ := by
  intro l m h
  refine ⟨by simp -implicitDefEqProofs (maxSteps := 1000000) only [x_i_Hear, go_sem], ?_⟩
  simp -implicitDefEqProofs (maxSteps := 1000000) only [x_i_Hear, go_sem]
  refine .of (c_i_copyLead _ h) ?_
  simp -implicitDefEqProofs (maxSteps := 1000000) only [go_sem]
  refine .of (c_i_LeadOk _ (h.mono (by decide))) ?_
  cases hok : l.ok
  · simp -implicitDefEqProofs (maxSteps := 1000000) only [go_sem, Lead.hear, hok, if_false]
  simp -implicitDefEqProofs (maxSteps := 1000000) only [go_sem]
  refine .of (c_i_MsgOk _) ?_
  cases hm : m.ok
  · simp -implicitDefEqProofs (maxSteps := 1000000) only [go_sem, Lead.hear, hok, hm, if_false]
  cases g1 : decide (m.From < 3)
  · have g1' : decide (m.From ≥ 3) = true := by simp at g1 ⊢; omega
    cases g2 : (m.To != 0)
    · have g2' : (m.To == 0) = true := by simpa using g2
      cases g3 : (m.N != l.Phase)
      · have g3' : (m.N == l.Phase) = true := by simpa using g3
        cases g4 : (l.Phase == 0)
        · obtain ⟨p, a0, a1, e0, e1, t0, t1, rfl⟩ := Lead.ok_two hok
          obtain ⟨k, f, t, sq, key, tx, n, c⟩ := m
          have hf : f = 3 ∨ f = 4 := by
            simp only [Msg.ok, win, Bool.and_eq_true, decide_eq_true_eq] at hm
            simp only [decide_eq_false_iff_not] at g1
            omega
          have hp : 0 ≤ p ∧ p ≤ 7 := by
            simp only [Lead.ok, win, Bool.and_eq_true, decide_eq_true_eq] at hok
            omega
          have hgoal : Lead.hear ⟨p, [a0, a1], [e0, e1], [t0, t1]⟩ ⟨k, f, t, sq, key, tx, n, c⟩ = Lead.hearIn ⟨p, [a0, a1], [e0, e1], [t0, t1]⟩ ⟨k, f, t, sq, key, tx, n, c⟩ := by
            simp only [Lead.hear, hok, hm, g1', g2', g3', g4, Bool.and_true, Bool.not_false, if_true]
          simp only [hgoal]
          clear hgoal
          simp only at g1 g2 g3 g4
          clear hok h
          have tail := fun a0' a1' e0' e1' t0' t1' => i_Hear_tail c_i_Walks c_i_Final c_i_leadIn p a0' a1' e0' e1' t0' t1' a0 a1 e0 e1 t0 t1 ⟨k, f, t, sq, key, tx, n, c⟩ hp
          rcases hf with rfl | rfl
          · cases g5 : (k == 7)
            · have g5' : ¬ (k = 7) := by simpa using g5
              cases g6 : (k == 9)
              · have g6' : ¬ (k = 9) := by simpa using g6
                simp only [Lead.hearIn, g5', g6', if_false, false_and]
                simp -implicitDefEqProofs (maxSteps := 1000000) only [go_sem, storeAp, setCells, Int.reduceSub, IntWalk.i64_in 0 (by decide), IntWalk.i64_in 1 (by decide), g2, g3, g4, g5, g6]
                rfl
              · have g6' : k = 9 := by simpa using g6
                subst g6'
                cases a0
                · simp only [Lead.hearIn, g5', if_false, if_true, and_false, reduceCtorEq, Int.reduceEq]
                  simp -implicitDefEqProofs (maxSteps := 1000000) only [go_sem, storeAp, setCells, Int.reduceSub, IntWalk.i64_in 0 (by decide), IntWalk.i64_in 1 (by decide), g2, g3, g4, g5, g6]
                  rfl
                · cases g7 : (c == 1)
                  · have g7' : ¬ (c = 1) := by simpa using g7
                    simp only [Lead.hearIn, g5', g7', if_false, if_true, and_true, Int.reduceEq]
                    simp -implicitDefEqProofs (maxSteps := 1000000) only [go_sem, storeAp, setCells, Int.reduceSub, IntWalk.i64_in 0 (by decide), IntWalk.i64_in 1 (by decide), g2, g3, g4, g5, g6, g7]
                    refine ⟨by decide, ?_⟩
                    have tl := tail true a1 e0 e1 (maxS t0 key) t1
                    simp only [maxS] at tl ⊢
                    simp only [slT, List.map_cons, List.map_nil]
                    with_reducible exact tl
                  · have g7' : c = 1 := by simpa using g7
                    subst g7'
                    simp only [Lead.hearIn, g5', if_false, if_true, and_true, Int.reduceEq]
                    simp -implicitDefEqProofs (maxSteps := 1000000) only [go_sem, storeAp, setCells, Int.reduceSub, IntWalk.i64_in 0 (by decide), IntWalk.i64_in 1 (by decide), g2, g3, g4, g5, g6, g7]
                    simp only [slT, List.map_cons, List.map_nil]
                    with_reducible exact tail true a1 true e1 t0 t1
            · have g5' : k = 7 := by simpa using g5
              subst g5'
              simp only [Lead.hearIn, if_true, if_false, Int.reduceEq]
              simp -implicitDefEqProofs (maxSteps := 1000000) only [go_sem, storeAp, setCells, Int.reduceSub, IntWalk.i64_in 0 (by decide), IntWalk.i64_in 1 (by decide), g2, g3, g4, g5]
              simp only [slT, List.map_cons, List.map_nil]
              with_reducible exact tail true a1 e0 e1 t0 t1
          · cases g5 : (k == 7)
            · have g5' : ¬ (k = 7) := by simpa using g5
              cases g6 : (k == 9)
              · have g6' : ¬ (k = 9) := by simpa using g6
                simp only [Lead.hearIn, g5', g6', if_false, false_and]
                simp -implicitDefEqProofs (maxSteps := 1000000) only [go_sem, storeAp, setCells, Int.reduceSub, IntWalk.i64_in 0 (by decide), IntWalk.i64_in 1 (by decide), g2, g3, g4, g5, g6]
                rfl
              · have g6' : k = 9 := by simpa using g6
                subst g6'
                cases a1
                · simp only [Lead.hearIn, g5', if_false, if_true, and_false, reduceCtorEq, Int.reduceEq]
                  simp -implicitDefEqProofs (maxSteps := 1000000) only [go_sem, storeAp, setCells, Int.reduceSub, IntWalk.i64_in 0 (by decide), IntWalk.i64_in 1 (by decide), g2, g3, g4, g5, g6]
                  rfl
                · cases g7 : (c == 1)
                  · have g7' : ¬ (c = 1) := by simpa using g7
                    simp only [Lead.hearIn, g5', g7', if_false, if_true, and_true, Int.reduceEq]
                    simp -implicitDefEqProofs (maxSteps := 1000000) only [go_sem, storeAp, setCells, Int.reduceSub, IntWalk.i64_in 0 (by decide), IntWalk.i64_in 1 (by decide), g2, g3, g4, g5, g6, g7]
                    refine ⟨by decide, ?_⟩
                    have tl := tail a0 true e0 e1 t0 (maxS t1 key)
                    simp only [maxS] at tl ⊢
                    simp only [slT, List.map_cons, List.map_nil]
                    with_reducible exact tl
                  · have g7' : c = 1 := by simpa using g7
                    subst g7'
                    simp only [Lead.hearIn, g5', if_false, if_true, and_true, Int.reduceEq]
                    simp -implicitDefEqProofs (maxSteps := 1000000) only [go_sem, storeAp, setCells, Int.reduceSub, IntWalk.i64_in 0 (by decide), IntWalk.i64_in 1 (by decide), g2, g3, g4, g5, g6, g7]
                    simp only [slT, List.map_cons, List.map_nil]
                    with_reducible exact tail a0 true e0 true t0 t1
            · have g5' : k = 7 := by simpa using g5
              subst g5'
              simp only [Lead.hearIn, if_true, if_false, Int.reduceEq]
              simp -implicitDefEqProofs (maxSteps := 1000000) only [go_sem, storeAp, setCells, Int.reduceSub, IntWalk.i64_in 0 (by decide), IntWalk.i64_in 1 (by decide), g2, g3, g4, g5]
              simp only [slT, List.map_cons, List.map_nil]
              with_reducible exact tail a0 true e0 e1 t0 t1
        · simp -implicitDefEqProofs (maxSteps := 1000000) only [go_sem, g1, g2, g3, g4, Lead.hear, hok, hm, if_false]
      · have g3' : (m.N == l.Phase) = false := by simpa using g3
        simp -implicitDefEqProofs (maxSteps := 1000000) only [go_sem, g1, g2, g3, Lead.hear, hok, hm, g3', if_false]
    · have g2' : (m.To == 0) = false := by simpa using g2
      simp -implicitDefEqProofs (maxSteps := 1000000) only [go_sem, g1, g2, Lead.hear, hok, hm, g2', if_false]
  · have g1' : decide (m.From ≥ 3) = false := by simp at g1 ⊢; omega
    simp -implicitDefEqProofs (maxSteps := 1000000) only [go_sem, g1, Lead.hear, hok, hm, g1', if_false]
def x_s_Hear_1 : XCode := .seq (.reg [⟨none, some 98, 98, .faddr (.t 5) 1⟩,
   ⟨none, some 99, 99, .load none (.t 98)⟩,
   ⟨none, some 100, 100, .iaddr 1 (.t 99) (.k (.one (.pv (.int .i64 0))))⟩,
   ⟨none, some 101, 101, .load none (.t 100)⟩,
   ⟨none, some 102, 102, .mv (.t 101)⟩,
   ⟨(some (102, true)), some 103, 103, .faddr (.t 5) 1⟩,
   ⟨(some (102, true)), some 104, 104, .load none (.t 103)⟩,
   ⟨(some (102, true)), some 105, 105, .iaddr 1 (.t 104) (.k (.one (.pv (.int .i64 1))))⟩,
   ⟨(some (102, true)), some 106, 106, .load none (.t 105)⟩,
   ⟨none, some 107, 107, .pick (.t 102) (.t 106) (.k (.one (.pv (.bool false))))⟩,
   ⟨none, some 108, 108, .mv (.t 107)⟩,
   ⟨(some (108, true)), some 109, 109, .faddr (.t 2) 0⟩,
   ⟨(some (108, true)), some 110, 110, .load none (.t 109)⟩,
   ⟨(some (108, true)), some 111, 111, .call 61 [0] [(.t 110)]⟩,
   ⟨(some (108, true)), some 112, 112, .not (.t 111)⟩,
   ⟨(some (108, true)), some 113, 113, .mv (.t 112)⟩,
   ⟨(some (113, false)), some 114, 114, .faddr (.t 5) 2⟩,
   ⟨(some (113, false)), some 115, 115, .load none (.t 114)⟩,
   ⟨(some (113, false)), some 116, 116, .iaddr 1 (.t 115) (.k (.one (.pv (.int .i64 0))))⟩,
   ⟨(some (113, false)), some 117, 117, .load none (.t 116)⟩,
   ⟨(some (113, false)), some 118, 118, .mv (.t 117)⟩,
   ⟨(some (118, true)), some 119, 119, .faddr (.t 5) 2⟩,
   ⟨(some (118, true)), some 120, 120, .load none (.t 119)⟩,
   ⟨(some (118, true)), some 121, 121, .iaddr 1 (.t 120) (.k (.one (.pv (.int .i64 1))))⟩,
   ⟨(some (118, true)), some 122, 122, .load none (.t 121)⟩,
   ⟨(some (113, false)), some 123, 123, .pick (.t 118) (.t 122) (.k (.one (.pv (.bool false))))⟩,
   ⟨(some (108, true)), some 124, 124, .pick (.t 113) (.k (.one (.pv (.bool true)))) (.t 123)⟩,
   ⟨none, some 125, 125, .pick (.t 108) (.t 124) (.k (.one (.pv (.bool false))))⟩,
   ⟨none, some 7, 7, .mv (.t 125)⟩])
 (.seq (.seq (.reg [⟨none, some 126, 126, .mv (.t 7)⟩,
   ⟨none, some 127, 127, .mv (.t 126)⟩,
   ⟨(some (127, true)), some 128, 128, .faddr (.t 2) 0⟩,
   ⟨(some (127, true)), some 129, 129, .load none (.t 128)⟩,
   ⟨(some (127, true)), some 130, 130, .call 65 [0] [(.t 129)]⟩,
   ⟨(some (127, true)), some 131, 131, .not (.t 130)⟩,
   ⟨none, some 132, 132, .pick (.t 127) (.t 131) (.k (.one (.pv (.bool false))))⟩])
 (.cond 132 (.seq (.reg [⟨none, some 133, 133, .faddr (.t 2) 0⟩,
   ⟨none, some 134, 134, .load none (.t 133)⟩,
   ⟨none, some 135, 135, .bin .add (.t 134) (.k (.one (.pv (.int .i64 1))))⟩,
   ⟨none, some 136, 136, .call 39 [0] [(.t 135)]⟩,
   ⟨none, none, 100007, .store 4 (.t 4) (.t 136)⟩])
 (.ret)) (.skip)))
 (.seq (.reg [⟨none, some 137, 137, .load (some 4) (.t 5)⟩,
   ⟨none, none, 100008, .store 4 (.t 4) (.t 137)⟩])
 (.ret)))
def x_s_Hear : FnX := ⟨138, [.cell 4 (some 4)],
  .seq (.reg [⟨none, some 2, 2, .box (.t 0)⟩,
   ⟨none, some 3, 3, .box (.t 1)⟩,
   ⟨none, some 4, 4, .alloc [.pv (.int .i64 0), .nils 1, .nils 1, .nils 1]⟩])
 (.seq (.reg [⟨none, some 8, 8, .load (some 4) (.t 2)⟩,
   ⟨none, some 9, 9, .call 60 [0] [(.t 8)]⟩,
   ⟨none, some 5, 5, .alloc [.pv (.int .i64 0), .nils 1, .nils 1, .nils 1]⟩,
   ⟨none, none, 100001, .store 4 (.t 5) (.t 9)⟩])
 (.seq (.seq (.reg [⟨none, some 10, 10, .load (some 4) (.t 2)⟩,
   ⟨none, some 11, 11, .call 58 [0] [(.t 10)]⟩,
   ⟨none, some 12, 12, .not (.t 11)⟩,
   ⟨none, some 13, 13, .mv (.t 12)⟩,
   ⟨(some (13, false)), some 14, 14, .load (some 8) (.t 3)⟩,
   ⟨(some (13, false)), some 15, 15, .call 64 [0] [(.t 14)]⟩,
   ⟨(some (13, false)), some 16, 16, .not (.t 15)⟩,
   ⟨none, some 17, 17, .pick (.t 13) (.k (.one (.pv (.bool true)))) (.t 16)⟩,
   ⟨none, some 18, 18, .mv (.t 17)⟩,
   ⟨(some (18, false)), some 19, 19, .faddr (.t 3) 2⟩,
   ⟨(some (18, false)), some 20, 20, .load none (.t 19)⟩,
   ⟨(some (18, false)), some 21, 21, .bin .neq (.t 20) (.k (.one (.pv (.int .i64 0))))⟩,
   ⟨none, some 22, 22, .pick (.t 18) (.k (.one (.pv (.bool true)))) (.t 21)⟩,
   ⟨none, some 23, 23, .mv (.t 22)⟩,
   ⟨(some (23, false)), some 24, 24, .faddr (.t 3) 1⟩,
   ⟨(some (23, false)), some 25, 25, .load none (.t 24)⟩,
   ⟨(some (23, false)), some 26, 26, .bin .lss (.t 25) (.k (.one (.pv (.int .i64 3))))⟩,
   ⟨none, some 27, 27, .pick (.t 23) (.k (.one (.pv (.bool true)))) (.t 26)⟩,
   ⟨none, some 28, 28, .mv (.t 27)⟩,
   ⟨(some (28, false)), some 29, 29, .faddr (.t 3) 6⟩,
   ⟨(some (28, false)), some 30, 30, .load none (.t 29)⟩,
   ⟨(some (28, false)), some 31, 31, .faddr (.t 2) 0⟩,
   ⟨(some (28, false)), some 32, 32, .load none (.t 31)⟩,
   ⟨(some (28, false)), some 33, 33, .bin .neq (.t 30) (.t 32)⟩,
   ⟨none, some 34, 34, .pick (.t 28) (.k (.one (.pv (.bool true)))) (.t 33)⟩,
   ⟨none, some 35, 35, .mv (.t 34)⟩,
   ⟨(some (35, false)), some 36, 36, .faddr (.t 2) 0⟩,
   ⟨(some (35, false)), some 37, 37, .load none (.t 36)⟩,
   ⟨(some (35, false)), some 38, 38, .bin .eql (.t 37) (.k (.one (.pv (.int .i64 0))))⟩,
   ⟨none, some 39, 39, .pick (.t 35) (.k (.one (.pv (.bool true)))) (.t 38)⟩])
 (.cond 39 (.seq (.reg [⟨none, some 40, 40, .load (some 4) (.t 5)⟩,
   ⟨none, none, 100002, .store 4 (.t 4) (.t 40)⟩])
 (.ret)) (.skip)))
 (.seq (.reg [⟨none, some 41, 41, .faddr (.t 3) 1⟩,
   ⟨none, some 42, 42, .load none (.t 41)⟩,
   ⟨none, some 43, 43, .bin .sub (.t 42) (.k (.one (.pv (.int .i64 3))))⟩,
   ⟨none, some 6, 6, .mv (.t 43)⟩])
 (.seq (.block 0 (.seq (.reg [⟨none, some 46, 46, .faddr (.t 3) 0⟩,
   ⟨none, some 47, 47, .load none (.t 46)⟩,
   ⟨none, some 48, 48, .bin .eql (.t 47) (.k (.one (.pv (.int .i64 7))))⟩,
   ⟨none, some 45, 45, .mv (.t 48)⟩])
 (.cond 45 (.reg [⟨none, some 49, 49, .faddr (.t 5) 1⟩,
   ⟨none, some 50, 50, .load none (.t 49)⟩,
   ⟨none, some 51, 51, .mv (.t 6)⟩,
   ⟨none, some 52, 52, .iaddr 1 (.t 50) (.t 51)⟩,
   ⟨none, none, 100003, .store 1 (.t 52) (.k (.one (.pv (.bool true))))⟩]) (.seq (.reg [⟨none, some 54, 54, .faddr (.t 3) 0⟩,
   ⟨none, some 55, 55, .load none (.t 54)⟩,
   ⟨none, some 56, 56, .bin .eql (.t 55) (.k (.one (.pv (.int .i64 9))))⟩,
   ⟨none, some 57, 57, .mv (.t 56)⟩,
   ⟨(some (57, true)), some 58, 58, .faddr (.t 2) 1⟩,
   ⟨(some (57, true)), some 59, 59, .load none (.t 58)⟩,
   ⟨(some (57, true)), some 60, 60, .mv (.t 6)⟩,
   ⟨(some (57, true)), some 61, 61, .iaddr 1 (.t 59) (.t 60)⟩,
   ⟨(some (57, true)), some 62, 62, .load none (.t 61)⟩,
   ⟨none, some 63, 63, .pick (.t 57) (.t 62) (.k (.one (.pv (.bool false))))⟩,
   ⟨none, some 64, 64, .mv (.t 63)⟩,
   ⟨(some (64, true)), some 65, 65, .faddr (.t 3) 7⟩,
   ⟨(some (64, true)), some 66, 66, .load none (.t 65)⟩,
   ⟨(some (64, true)), some 67, 67, .bin .eql (.t 66) (.k (.one (.pv (.int .i64 1))))⟩,
   ⟨none, some 68, 68, .pick (.t 64) (.t 67) (.k (.one (.pv (.bool false))))⟩,
   ⟨none, some 53, 53, .mv (.t 68)⟩])
 (.cond 53 (.reg [⟨none, some 69, 69, .faddr (.t 5) 2⟩,
   ⟨none, some 70, 70, .load none (.t 69)⟩,
   ⟨none, some 71, 71, .mv (.t 6)⟩,
   ⟨none, some 72, 72, .iaddr 1 (.t 70) (.t 71)⟩,
   ⟨none, none, 100004, .store 1 (.t 72) (.k (.one (.pv (.bool true))))⟩]) (.seq (.reg [⟨none, some 74, 74, .faddr (.t 3) 0⟩,
   ⟨none, some 75, 75, .load none (.t 74)⟩,
   ⟨none, some 76, 76, .bin .eql (.t 75) (.k (.one (.pv (.int .i64 9))))⟩,
   ⟨none, some 77, 77, .mv (.t 76)⟩,
   ⟨(some (77, true)), some 78, 78, .faddr (.t 2) 1⟩,
   ⟨(some (77, true)), some 79, 79, .load none (.t 78)⟩,
   ⟨(some (77, true)), some 80, 80, .mv (.t 6)⟩,
   ⟨(some (77, true)), some 81, 81, .iaddr 1 (.t 79) (.t 80)⟩,
   ⟨(some (77, true)), some 82, 82, .load none (.t 81)⟩,
   ⟨none, some 83, 83, .pick (.t 77) (.t 82) (.k (.one (.pv (.bool false))))⟩,
   ⟨none, some 73, 73, .mv (.t 83)⟩])
 (.cond 73 (.seq (.draw [⟨none, some 84, 84, .faddr (.t 3) 4⟩,
   ⟨none, some 85, 85, .load none (.t 84)⟩,
   ⟨none, some 86, 86, .faddr (.t 5) 3⟩,
   ⟨none, some 87, 87, .load none (.t 86)⟩,
   ⟨none, some 88, 88, .mv (.t 6)⟩,
   ⟨none, some 89, 89, .iaddr 1 (.t 87) (.t 88)⟩,
   ⟨none, some 90, 90, .load none (.t 89)⟩,
   ⟨none, some 91, 91, .bin .gtr (.t 85) (.t 90)⟩] [[], [0], [], [2], [], [3, 4], [5], [1, 6]])
 (.cond 91 (.reg [⟨none, some 92, 92, .faddr (.t 5) 3⟩,
   ⟨none, some 93, 93, .load none (.t 92)⟩,
   ⟨none, some 94, 94, .mv (.t 6)⟩,
   ⟨none, some 95, 95, .faddr (.t 3) 4⟩,
   ⟨none, some 96, 96, .load none (.t 95)⟩,
   ⟨none, some 97, 97, .iaddr 1 (.t 93) (.t 94)⟩,
   ⟨none, none, 100005, .store 1 (.t 97) (.t 96)⟩]) (.skip))) (.seq (.reg [⟨none, some 44, 44, .load (some 4) (.t 5)⟩,
   ⟨none, none, 100006, .store 4 (.t 4) (.t 44)⟩])
 (.ret)))))))))
 (.norm [2, 4, 5] (x_s_Hear_1))))))⟩
abbrev C_s_Hear (Te : Nat → List AV → Res → Prop) : Prop := ∀ (l : Lead) (m : Msg) (h : l.In (2 ^ 31)), Te 37 [.agg (l.enc false), .agg m.row] ⟨[.agg ((l.hear m).enc true)], [l.enc false, m.row]⟩
theorem s_Hear_tail {Te : Nat → List AV → Res → Prop} (c_W : C_s_Walks Te) (c_F : C_s_Final Te) (c_L : C_s_l19At Te) (p : Int) (a0 a1 e0 e1 : Bool) (t0 t1 : ByteArray) (x0 x1 y0 y1 : Bool) (z0 z1 : ByteArray) (m : Msg) (hp : 0 ≤ p ∧ p ≤ 7) :
    runC Te 2 140 x_s_Hear_1 ⟨[(2, .bp 2 0), (4, .bp 4 0), (5, .bp 5 0)], [(2, [.pv (.int .i64 p), .ro 1 [bR x0, bR x1], .ro 1 [bR y0, bR y1], .ro 1 [sR z0, sR z1]]), (4, [.pv (.int .i64 0), .nils 1, .nils 1, .nils 1]), (5, [.pv (.int .i64 p), .rf 140 1 [] 1 0 2, .rf 140 2 [] 1 0 2, .rf 140 3 [] 1 0 2])],
      [(0, Lead.enc false ⟨p, [x0, x1], [y0, y1], [z0, z1]⟩), (1, m.row), (140, [iT p, .sl true 1 () [bR a0, bR a1], .sl true 1 () [bR e0, bR e1], .sl true 1 () [sR t0, sR t1]])]⟩
      (EndFn Te [.agg (Lead.enc false ⟨p, [x0, x1], [y0, y1], [z0, z1]⟩), .agg m.row] [.cell 4 (some 4)] ⟨[.agg ((hearGo p a0 a1 e0 e1 t0 t1).enc true)], [Lead.enc false ⟨p, [x0, x1], [y0, y1], [z0, z1]⟩, m.row]⟩) := by
  have hw : IntKind.i64.wrap (p + 1) = p + 1 := IntWalk.i64_in _ (by omega)
  simp only [hearGo]
  cases a0
  · cases e0 <;> simp -implicitDefEqProofs (maxSteps := 1000000) only [x_s_Hear_1, go_sem, if_false] <;> rfl
  cases a1
  · cases e0 <;> simp -implicitDefEqProofs (maxSteps := 1000000) only [x_s_Hear_1, go_sem, if_false] <;> rfl
  cases e0
  · simp -implicitDefEqProofs (maxSteps := 1000000) only [x_s_Hear_1, go_sem]
    refine .of (c_W _) ?_
    cases w : walks p
    · simp -implicitDefEqProofs (maxSteps := 1000000) only [go_sem, w]
      refine .of (c_F _) ?_
      cases f : final p
      · simp -implicitDefEqProofs (maxSteps := 1000000) only [go_sem, f, hw]
        refine .of (c_L _) ?_
        simp -implicitDefEqProofs (maxSteps := 1000000) only [go_sem, if_true]
      · simp -implicitDefEqProofs (maxSteps := 1000000) only [go_sem, f, if_false]
        rfl
    · simp -implicitDefEqProofs (maxSteps := 1000000) only [go_sem, w, if_false]
      rfl
  cases e1
  · simp -implicitDefEqProofs (maxSteps := 1000000) only [x_s_Hear_1, go_sem]
    refine .of (c_W _) ?_
    cases w : walks p
    · simp -implicitDefEqProofs (maxSteps := 1000000) only [go_sem, w]
      refine .of (c_F _) ?_
      cases f : final p
      · simp -implicitDefEqProofs (maxSteps := 1000000) only [go_sem, f, hw]
        refine .of (c_L _) ?_
        simp -implicitDefEqProofs (maxSteps := 1000000) only [go_sem, if_true]
      · simp -implicitDefEqProofs (maxSteps := 1000000) only [go_sem, f, if_false]
        rfl
    · simp -implicitDefEqProofs (maxSteps := 1000000) only [go_sem, w, if_false]
      rfl
  · simp -implicitDefEqProofs (maxSteps := 1000000) only [x_s_Hear_1, go_sem]
    refine .of (c_W _) ?_
    cases w : walks p <;> simp -implicitDefEqProofs (maxSteps := 1000000) only [go_sem, w]
    all_goals
      refine .of (c_F _) ?_
      cases f : final p
      · simp -implicitDefEqProofs (maxSteps := 1000000) only [go_sem, f, hw]
        refine .of (c_L _) ?_
        simp -implicitDefEqProofs (maxSteps := 1000000) only [go_sem, if_true]
      · simp -implicitDefEqProofs (maxSteps := 1000000) only [go_sem, f, if_false]
        rfl
theorem r_s_Hear {Te : Nat → List AV → Res → Prop} (c_s_l19Copy : C_s_l19Copy Te) (c_s_LeadOk : C_s_LeadOk Te) (c_s_MsgOk : C_s_MsgOk Te) (c_s_Walks : C_s_Walks Te) (c_s_Final : C_s_Final Te) (c_s_l19At : C_s_l19At Te) : ∀ (l : Lead) (m : Msg) (h : l.In (2 ^ 31)), RunFn Te x_s_Hear [.agg (l.enc false), .agg m.row] ⟨[.agg ((l.hear m).enc true)], [l.enc false, m.row]⟩ := by
  intro l m h
  refine ⟨by simp -implicitDefEqProofs (maxSteps := 1000000) only [x_s_Hear, go_sem], ?_⟩
  simp -implicitDefEqProofs (maxSteps := 1000000) only [x_s_Hear, go_sem]
  refine .of (c_s_l19Copy _ h) ?_
  simp -implicitDefEqProofs (maxSteps := 1000000) only [go_sem]
  refine .of (c_s_LeadOk _ (h.mono (by decide))) ?_
  cases hok : l.ok
  · simp -implicitDefEqProofs (maxSteps := 1000000) only [go_sem, Lead.hear, hok, if_false]
  simp -implicitDefEqProofs (maxSteps := 1000000) only [go_sem]
  refine .of (c_s_MsgOk _) ?_
  cases hm : m.ok
  · simp -implicitDefEqProofs (maxSteps := 1000000) only [go_sem, Lead.hear, hok, hm, if_false]
  cases g1 : decide (m.From < 3)
  · have g1' : decide (m.From ≥ 3) = true := by simp at g1 ⊢; omega
    cases g2 : (m.To != 0)
    · have g2' : (m.To == 0) = true := by simpa using g2
      cases g3 : (m.N != l.Phase)
      · have g3' : (m.N == l.Phase) = true := by simpa using g3
        cases g4 : (l.Phase == 0)
        · obtain ⟨p, a0, a1, e0, e1, t0, t1, rfl⟩ := Lead.ok_two hok
          obtain ⟨k, f, t, sq, key, tx, n, c⟩ := m
          have hf : f = 3 ∨ f = 4 := by
            simp only [Msg.ok, win, Bool.and_eq_true, decide_eq_true_eq] at hm
            simp only [decide_eq_false_iff_not] at g1
            omega
          have hp : 0 ≤ p ∧ p ≤ 7 := by
            simp only [Lead.ok, win, Bool.and_eq_true, decide_eq_true_eq] at hok
            omega
          have hgoal : Lead.hear ⟨p, [a0, a1], [e0, e1], [t0, t1]⟩ ⟨k, f, t, sq, key, tx, n, c⟩ = Lead.hearIn ⟨p, [a0, a1], [e0, e1], [t0, t1]⟩ ⟨k, f, t, sq, key, tx, n, c⟩ := by
            simp only [Lead.hear, hok, hm, g1', g2', g3', g4, Bool.and_true, Bool.not_false, if_true]
          simp only [hgoal]
          clear hgoal
          simp only at g1 g2 g3 g4
          clear hok h
          have tail := fun a0' a1' e0' e1' t0' t1' => s_Hear_tail c_s_Walks c_s_Final c_s_l19At p a0' a1' e0' e1' t0' t1' a0 a1 e0 e1 t0 t1 ⟨k, f, t, sq, key, tx, n, c⟩ hp
          rcases hf with rfl | rfl
          · cases g5 : (k == 7)
            · have g5' : ¬ (k = 7) := by simpa using g5
              cases g6 : (k == 9)
              · have g6' : ¬ (k = 9) := by simpa using g6
                simp only [Lead.hearIn, g5', g6', if_false, false_and]
                simp -implicitDefEqProofs (maxSteps := 1000000) only [go_sem, storeAp, setCells, Int.reduceSub, IntWalk.i64_in 0 (by decide), IntWalk.i64_in 1 (by decide), g2, g3, g4, g5, g6]
                rfl
              · have g6' : k = 9 := by simpa using g6
                subst g6'
                cases a0
                · simp only [Lead.hearIn, g5', if_false, if_true, and_false, reduceCtorEq, Int.reduceEq]
                  simp -implicitDefEqProofs (maxSteps := 1000000) only [go_sem, storeAp, setCells, Int.reduceSub, IntWalk.i64_in 0 (by decide), IntWalk.i64_in 1 (by decide), g2, g3, g4, g5, g6]
                  rfl
                · cases g7 : (c == 1)
                  · have g7' : ¬ (c = 1) := by simpa using g7
                    simp only [Lead.hearIn, g5', g7', if_false, if_true, and_true, Int.reduceEq]
                    have tl := tail true a1 e0 e1 (maxS t0 key) t1
                    cases g8 : Op.bytesLess t0.toList key.toList
                    · simp -implicitDefEqProofs (maxSteps := 1000000) only [go_sem, storeAp, setCells, Int.reduceSub, IntWalk.i64_in 0 (by decide), IntWalk.i64_in 1 (by decide), g2, g3, g4, g5, g6, g7, bytes_tri, g8]
                      refine ⟨by decide, ?_⟩
                      have em : maxS t0 key = t0 := by simp only [maxS, g8, Bool.not_false, cond_true]
                      rw [em] at tl ⊢
                      simp only [Lead.enc, slT, List.map_cons, List.map_nil] at tl ⊢
                      with_reducible exact tl
                    · simp -implicitDefEqProofs (maxSteps := 1000000) only [go_sem, storeAp, setCells, Int.reduceSub, IntWalk.i64_in 0 (by decide), IntWalk.i64_in 1 (by decide), g2, g3, g4, g5, g6, g7, bytes_tri, g8]
                      refine ⟨by decide, ?_⟩
                      have em : maxS t0 key = key := by simp only [maxS, g8, Bool.not_true, cond_false]
                      rw [em] at tl ⊢
                      simp only [Lead.enc, slT, List.map_cons, List.map_nil] at tl ⊢
                      with_reducible exact tl
                  · have g7' : c = 1 := by simpa using g7
                    subst g7'
                    simp only [Lead.hearIn, g5', if_false, if_true, and_true, Int.reduceEq]
                    simp -implicitDefEqProofs (maxSteps := 1000000) only [go_sem, storeAp, setCells, Int.reduceSub, IntWalk.i64_in 0 (by decide), IntWalk.i64_in 1 (by decide), g2, g3, g4, g5, g6, g7]
                    simp only [slT, List.map_cons, List.map_nil]
                    with_reducible exact tail true a1 true e1 t0 t1
            · have g5' : k = 7 := by simpa using g5
              subst g5'
              simp only [Lead.hearIn, if_true, if_false, Int.reduceEq]
              simp -implicitDefEqProofs (maxSteps := 1000000) only [go_sem, storeAp, setCells, Int.reduceSub, IntWalk.i64_in 0 (by decide), IntWalk.i64_in 1 (by decide), g2, g3, g4, g5]
              simp only [slT, List.map_cons, List.map_nil]
              with_reducible exact tail true a1 e0 e1 t0 t1
          · cases g5 : (k == 7)
            · have g5' : ¬ (k = 7) := by simpa using g5
              cases g6 : (k == 9)
              · have g6' : ¬ (k = 9) := by simpa using g6
                simp only [Lead.hearIn, g5', g6', if_false, false_and]
                simp -implicitDefEqProofs (maxSteps := 1000000) only [go_sem, storeAp, setCells, Int.reduceSub, IntWalk.i64_in 0 (by decide), IntWalk.i64_in 1 (by decide), g2, g3, g4, g5, g6]
                rfl
              · have g6' : k = 9 := by simpa using g6
                subst g6'
                cases a1
                · simp only [Lead.hearIn, g5', if_false, if_true, and_false, reduceCtorEq, Int.reduceEq]
                  simp -implicitDefEqProofs (maxSteps := 1000000) only [go_sem, storeAp, setCells, Int.reduceSub, IntWalk.i64_in 0 (by decide), IntWalk.i64_in 1 (by decide), g2, g3, g4, g5, g6]
                  rfl
                · cases g7 : (c == 1)
                  · have g7' : ¬ (c = 1) := by simpa using g7
                    simp only [Lead.hearIn, g5', g7', if_false, if_true, and_true, Int.reduceEq]
                    have tl := tail a0 true e0 e1 t0 (maxS t1 key)
                    cases g8 : Op.bytesLess t1.toList key.toList
                    · simp -implicitDefEqProofs (maxSteps := 1000000) only [go_sem, storeAp, setCells, Int.reduceSub, IntWalk.i64_in 0 (by decide), IntWalk.i64_in 1 (by decide), g2, g3, g4, g5, g6, g7, bytes_tri, g8]
                      refine ⟨by decide, ?_⟩
                      have em : maxS t1 key = t1 := by simp only [maxS, g8, Bool.not_false, cond_true]
                      rw [em] at tl ⊢
                      simp only [Lead.enc, slT, List.map_cons, List.map_nil] at tl ⊢
                      with_reducible exact tl
                    · simp -implicitDefEqProofs (maxSteps := 1000000) only [go_sem, storeAp, setCells, Int.reduceSub, IntWalk.i64_in 0 (by decide), IntWalk.i64_in 1 (by decide), g2, g3, g4, g5, g6, g7, bytes_tri, g8]
                      refine ⟨by decide, ?_⟩
                      have em : maxS t1 key = key := by simp only [maxS, g8, Bool.not_true, cond_false]
                      rw [em] at tl ⊢
                      simp only [Lead.enc, slT, List.map_cons, List.map_nil] at tl ⊢
                      with_reducible exact tl
                  · have g7' : c = 1 := by simpa using g7
                    subst g7'
                    simp only [Lead.hearIn, g5', if_false, if_true, and_true, Int.reduceEq]
                    simp -implicitDefEqProofs (maxSteps := 1000000) only [go_sem, storeAp, setCells, Int.reduceSub, IntWalk.i64_in 0 (by decide), IntWalk.i64_in 1 (by decide), g2, g3, g4, g5, g6, g7]
                    simp only [slT, List.map_cons, List.map_nil]
                    with_reducible exact tail a0 true e0 true t0 t1
            · have g5' : k = 7 := by simpa using g5
              subst g5'
              simp only [Lead.hearIn, if_true, if_false, Int.reduceEq]
              simp -implicitDefEqProofs (maxSteps := 1000000) only [go_sem, storeAp, setCells, Int.reduceSub, IntWalk.i64_in 0 (by decide), IntWalk.i64_in 1 (by decide), g2, g3, g4, g5]
              simp only [slT, List.map_cons, List.map_nil]
              with_reducible exact tail a0 true e0 e1 t0 t1
        · simp -implicitDefEqProofs (maxSteps := 1000000) only [go_sem, g1, g2, g3, g4, Lead.hear, hok, hm, if_false]
      · have g3' : (m.N == l.Phase) = false := by simpa using g3
        simp -implicitDefEqProofs (maxSteps := 1000000) only [go_sem, g1, g2, g3, Lead.hear, hok, hm, g3', if_false]
    · have g2' : (m.To == 0) = false := by simpa using g2
      simp -implicitDefEqProofs (maxSteps := 1000000) only [go_sem, g1, g2, Lead.hear, hok, hm, g2', if_false]
  · have g1' : decide (m.From ≥ 3) = false := by simp at g1 ⊢; omega
    cases g2 : (m.To != 0) <;> simp -implicitDefEqProofs (maxSteps := 1000000) only [go_sem, g1, g2, Lead.hear, hok, hm, g1', if_false]
end Go.X

/- W_Hear -/
namespace Go.X
set_option maxRecDepth 100000
set_option maxHeartbeats 8000000
def x_l_FnExactHear : FnX := ⟨82, [.tmp 4],
  .seq (.reg [⟨none, some 2, 2, .box (.t 0)⟩,
   ⟨none, some 3, 3, .box (.t 1)⟩,
   ⟨none, some 4, 4, .mv (.k (.one (.pv (.bool false))))⟩])
 (.seq (.reg [⟨none, some 5, 5, .mv (.k (.one (.pv (.int .i64 1048576))))⟩])
 (.seq (.reg [⟨none, some 13, 13, .load (some 4) (.t 2)⟩,
   ⟨none, some 14, 14, .mv (.t 5)⟩,
   ⟨none, some 15, 15, .call 25 [0, 0] [(.t 13), (.t 14)]⟩,
   ⟨none, some 5, 5, .mv (.t 15)⟩])
 (.seq (.seq (.reg [⟨none, some 16, 16, .mv (.t 5)⟩,
   ⟨none, some 17, 17, .bin .lss (.t 16) (.k (.one (.pv (.int .i64 0))))⟩])
 (.cond 17 (.seq (.reg [⟨none, some 4, 4, .mv (.k (.one (.pv (.bool true))))⟩])
 (.ret)) (.skip)))
 (.seq (.reg [⟨none, some 18, 18, .load (some 8) (.t 3)⟩,
   ⟨none, some 19, 19, .mv (.t 5)⟩,
   ⟨none, some 20, 20, .call 36 [0, 0] [(.t 18), (.t 19)]⟩,
   ⟨none, some 5, 5, .mv (.t 20)⟩])
 (.seq (.seq (.reg [⟨none, some 21, 21, .mv (.t 5)⟩,
   ⟨none, some 22, 22, .bin .lss (.t 21) (.k (.one (.pv (.int .i64 0))))⟩])
 (.cond 22 (.seq (.reg [⟨none, some 4, 4, .mv (.k (.one (.pv (.bool true))))⟩])
 (.ret)) (.skip)))
 (.seq (.draw [⟨none, some 23, 23, .load (some 4) (.t 2)⟩,
   ⟨none, some 24, 24, .call 27 [0] [(.t 23)]⟩,
   ⟨none, some 25, 25, .load (some 8) (.t 3)⟩,
   ⟨none, some 26, 26, .call 38 [0] [(.t 25)]⟩,
   ⟨none, some 27, 27, .call 37 [0, 0] [(.t 24), (.t 26)]⟩,
   ⟨none, some 6, 6, .alloc [.pv (.int .i64 0), .nils 1, .nils 1, .nils 1]⟩,
   ⟨none, none, 100001, .store 4 (.t 6) (.t 27)⟩] [[], [0], [], [2, 1], [1, 3, 3], [], [5, 4, 4, 0, 1, 2, 3, 4, 5]])
 (.seq (.reg [⟨none, some 28, 28, .load (some 4) (.t 2)⟩,
   ⟨none, some 29, 29, .call 27 [0] [(.t 28)]⟩,
   ⟨none, some 7, 7, .alloc [.pv (.int .i64 0), .nils 1, .nils 1, .nils 1]⟩,
   ⟨none, none, 100002, .store 4 (.t 7) (.t 29)⟩])
 (.seq (.draw [⟨none, some 30, 30, .load (some 4) (.t 7)⟩,
   ⟨none, some 31, 31, .load (some 8) (.t 3)⟩,
   ⟨none, some 32, 32, .call 38 [0] [(.t 31)]⟩,
   ⟨none, some 33, 33, .call 18 [0, 0] [(.t 30), (.t 32)]⟩,
   ⟨none, some 8, 8, .alloc [.pv (.int .i64 0), .nils 1, .nils 1, .nils 1]⟩,
   ⟨none, none, 100003, .store 4 (.t 8) (.t 33)⟩] [[], [], [1], [0, 2, 2], [], [4, 3, 3, 0, 1, 2, 3, 4]])
 (.seq (.seq (.reg [⟨none, some 34, 34, .load (some 4) (.t 8)⟩,
   ⟨none, some 35, 35, .load (some 4) (.t 6)⟩,
   ⟨none, some 36, 36, .call 12 [0, 0] [(.t 34), (.t 35)]⟩,
   ⟨none, some 37, 37, .not (.t 36)⟩])
 (.cond 37 (.seq (.reg [⟨none, some 4, 4, .mv (.k (.one (.pv (.bool false))))⟩])
 (.ret)) (.skip)))
 (.seq (.seq (.draw [⟨none, some 38, 38, .load (some 4) (.t 7)⟩,
   ⟨none, some 39, 39, .load (some 4) (.t 2)⟩,
   ⟨none, some 40, 40, .call 27 [0] [(.t 39)]⟩,
   ⟨none, some 41, 41, .call 12 [0, 0] [(.t 38), (.t 40)]⟩,
   ⟨none, some 42, 42, .not (.t 41)⟩] [[], [], [1], [0, 2, 2], [3]])
 (.cond 42 (.seq (.reg [⟨none, some 4, 4, .mv (.k (.one (.pv (.bool false))))⟩])
 (.ret)) (.skip)))
 (.seq (.reg [⟨none, some 9, 9, .mv (.k (.one (.pv (.int .i64 1))))⟩])
 (.seq (.reg [⟨none, some 43, 43, .load (some 4) (.t 7)⟩,
   ⟨none, some 44, 44, .mv (.t 9)⟩,
   ⟨none, some 45, 45, .io 13 (.t 43) [(.t 44)]⟩,
   ⟨none, some 9, 9, .mv (.t 45)⟩])
 (.seq (.seq (.reg [⟨none, some 46, 46, .mv (.t 9)⟩,
   ⟨none, some 47, 47, .bin .lss (.t 46) (.k (.one (.pv (.int .i64 0))))⟩,
   ⟨none, some 48, 48, .mv (.t 47)⟩,
   ⟨(some (48, false)), some 49, 49, .load (some 4) (.t 8)⟩,
   ⟨(some (48, false)), some 50, 50, .load (some 4) (.t 6)⟩,
   ⟨(some (48, false)), some 51, 51, .call 12 [0, 0] [(.t 49), (.t 50)]⟩,
   ⟨(some (48, false)), some 52, 52, .not (.t 51)⟩,
   ⟨none, some 53, 53, .pick (.t 48) (.k (.one (.pv (.bool true)))) (.t 52)⟩])
 (.cond 53 (.seq (.reg [⟨none, some 4, 4, .mv (.k (.one (.pv (.bool false))))⟩])
 (.ret)) (.skip)))
 (.seq (.reg [⟨none, some 10, 10, .mv (.k (.one (.pv (.int .i64 1))))⟩])
 (.seq (.reg [⟨none, some 54, 54, .load (some 4) (.t 8)⟩,
   ⟨none, some 55, 55, .mv (.t 10)⟩,
   ⟨none, some 56, 56, .io 13 (.t 54) [(.t 55)]⟩,
   ⟨none, some 10, 10, .mv (.t 56)⟩])
 (.seq (.reg [⟨none, some 11, 11, .mv (.k (.one (.pv (.int .i64 1))))⟩])
 (.seq (.reg [⟨none, some 57, 57, .load (some 4) (.t 8)⟩,
   ⟨none, some 58, 58, .mv (.t 11)⟩,
   ⟨none, some 59, 59, .call 14 [0, 0] [(.t 57), (.t 58)]⟩,
   ⟨none, some 11, 11, .mv (.t 59)⟩])
 (.seq (.seq (.reg [⟨none, some 60, 60, .mv (.t 11)⟩,
   ⟨none, some 61, 61, .bin .lss (.t 60) (.k (.one (.pv (.int .i64 0))))⟩])
 (.cond 61 (.seq (.reg [⟨none, some 4, 4, .mv (.k (.one (.pv (.bool false))))⟩])
 (.ret)) (.skip)))
 (.seq (.seq (.reg [⟨none, some 62, 62, .mv (.t 11)⟩,
   ⟨none, some 63, 63, .mv (.t 10)⟩,
   ⟨none, some 64, 64, .bin .neq (.t 62) (.t 63)⟩])
 (.cond 64 (.seq (.reg [⟨none, some 4, 4, .mv (.k (.one (.pv (.bool false))))⟩])
 (.ret)) (.skip)))
 (.seq (.draw [⟨none, some 65, 65, .load (some 4) (.t 2)⟩,
   ⟨none, some 66, 66, .call 27 [0] [(.t 65)]⟩,
   ⟨none, some 67, 67, .load (some 8) (.t 3)⟩,
   ⟨none, some 68, 68, .call 38 [0] [(.t 67)]⟩,
   ⟨none, some 69, 69, .call 18 [0, 0] [(.t 66), (.t 68)]⟩,
   ⟨none, some 12, 12, .alloc [.pv (.int .i64 0), .nils 1, .nils 1, .nils 1]⟩,
   ⟨none, none, 100004, .store 4 (.t 12) (.t 69)⟩] [[], [0], [], [2, 1], [1, 3, 3], [], [5, 4, 4, 0, 1, 2, 3, 4, 5]])
 (.seq (.seq (.reg [⟨none, some 70, 70, .load (some 4) (.t 12)⟩,
   ⟨none, some 71, 71, .load (some 4) (.t 6)⟩,
   ⟨none, some 72, 72, .call 12 [0, 0] [(.t 70), (.t 71)]⟩,
   ⟨none, some 73, 73, .not (.t 72)⟩])
 (.cond 73 (.seq (.reg [⟨none, some 4, 4, .mv (.k (.one (.pv (.bool false))))⟩])
 (.ret)) (.skip)))
 (.seq (.reg [⟨none, some 11, 11, .mv (.k (.one (.pv (.int .i64 1))))⟩])
 (.seq (.reg [⟨none, some 74, 74, .load (some 4) (.t 8)⟩,
   ⟨none, some 75, 75, .mv (.t 11)⟩,
   ⟨none, some 76, 76, .call 14 [0, 0] [(.t 74), (.t 75)]⟩,
   ⟨none, some 11, 11, .mv (.t 76)⟩])
 (.seq (.seq (.reg [⟨none, some 77, 77, .mv (.t 11)⟩,
   ⟨none, some 78, 78, .bin .lss (.t 77) (.k (.one (.pv (.int .i64 0))))⟩])
 (.cond 78 (.seq (.reg [⟨none, some 4, 4, .mv (.k (.one (.pv (.bool false))))⟩])
 (.ret)) (.skip)))
 (.seq (.seq (.reg [⟨none, some 79, 79, .mv (.t 11)⟩,
   ⟨none, some 80, 80, .mv (.t 10)⟩,
   ⟨none, some 81, 81, .bin .neq (.t 79) (.t 80)⟩])
 (.cond 81 (.seq (.reg [⟨none, some 4, 4, .mv (.k (.one (.pv (.bool false))))⟩])
 (.ret)) (.skip)))
 (.seq (.reg [⟨none, some 4, 4, .mv (.k (.one (.pv (.bool true))))⟩])
 (.ret)))))))))))))))))))))))))))⟩
abbrev C_l_FnExactHear (Te : Nat → List AV → Res → Prop) : Prop := ∀ (aL : Lead) (aM : Msg) (h_aL : aL.In (2 ^ 48)) (h_aM : aM.In (2 ^ 48)), Te 9 [.agg (aL.enc false), .agg aM.row] ⟨[.one (bT true)], [(aL.enc false), aM.row]⟩
theorem r_l_FnExactHear {Te : Nat → List AV → Res → Prop} (c_l_szLead : C_l_szLead Te) (c_l_szMsg : C_l_szMsg Te) (c_l_toLead : C_l_toLead Te) (c_l_toMsg : C_l_toMsg Te) (c_s_Hear : C_s_Hear Te) (c_i_Hear : C_i_Hear Te) (c_l_eqLead : C_l_eqLead Te) (c_l_markLead : C_l_markLead Te) (c_l_heldLead : C_l_heldLead Te) : ∀ (aL : Lead) (aM : Msg) (h_aL : aL.In (2 ^ 48)) (h_aM : aM.In (2 ^ 48)), RunFn Te x_l_FnExactHear [.agg (aL.enc false), .agg aM.row] ⟨[.one (bT true)], [(aL.enc false), aM.row]⟩ := by
  intro aL aM h_aL h_aM
  refine ⟨by simp -implicitDefEqProofs (maxSteps := 1000000) only [x_l_FnExactHear, go_sem], ?_⟩
  simp -implicitDefEqProofs (maxSteps := 1000000) only [x_l_FnExactHear, go_sem]
  refine .of (c_l_szLead aL (1048576) h_aL (by omega)) ?_
  simp -implicitDefEqProofs (maxSteps := 1000000) only [go_sem]
  refine fun q0 => ?_
  replace q0 : 0 ≤ (szLead aL (1048576)) := by simpa using q0
  have cb_aL : (0 : Int) ≤ (1048576) ∧ (1048576) ≤ (1048576 : Int) := by omega
  have n_aL : aL.In (1048576) := szLead_in (n := 1048576) cb_aL.1 cb_aL.2 q0
  have b_aL : 0 ≤ (szLead aL (1048576)) ∧ (szLead aL (1048576)) ≤ 1048576 := ⟨q0, Int.le_trans (szLead_sane aL _ cb_aL.1) cb_aL.2⟩
  refine .of (c_l_szMsg aM ((szLead aL (1048576))) h_aM ⟨by omega, by omega⟩) ?_
  simp -implicitDefEqProofs (maxSteps := 1000000) only [go_sem]
  refine fun q1 => ?_
  replace q1 : 0 ≤ (szMsg aM ((szLead aL (1048576)))) := by simpa using q1
  have cb_aM : (0 : Int) ≤ ((szLead aL (1048576))) ∧ ((szLead aL (1048576))) ≤ (1048576 : Int) := b_aL
  have n_aM : aM.In (1048576) := szMsg_in (n := 1048576) cb_aM.1 cb_aM.2 q1
  have b_aM : 0 ≤ (szMsg aM ((szLead aL (1048576)))) ∧ (szMsg aM ((szLead aL (1048576)))) ≤ 1048576 := ⟨q1, Int.le_trans (szMsg_sane aM _ cb_aM.1) cb_aM.2⟩
  refine .of (c_l_toLead aL (n_aL.len (by decide))) ?_
  simp -implicitDefEqProofs (maxSteps := 1000000) only [go_sem, eq_self, bne_self_eq_false, Bool.xor_self, true_implies, false_implies, marks_length, marks_take, take_map, Lead.mark_Acked, Lead.take_Acked, Lead.mark_Ended, Lead.take_Ended, Lead.mark_At, Lead.take_At]
  repeat (first | refine ⟨rfl, ?_⟩ | refine ⟨by decide, ?_⟩ | refine ⟨⟨by decide, by decide⟩, ?_⟩)
  refine .of (c_l_toMsg aM) ?_
  simp -implicitDefEqProofs (maxSteps := 1000000) only [go_sem, eq_self, bne_self_eq_false, Bool.xor_self, true_implies, false_implies, marks_length, marks_take, take_map, Lead.mark_Acked, Lead.take_Acked, Lead.mark_Ended, Lead.take_Ended, Lead.mark_At, Lead.take_At]
  repeat (first | refine ⟨rfl, ?_⟩ | refine ⟨by decide, ?_⟩ | refine ⟨⟨by decide, by decide⟩, ?_⟩)
  have lg : (aL.hear aM).Len := hear_len aM (n_aL.len (by decide))
  refine .of (c_s_Hear _ _ (n_aL.mono (by decide))) ?_
  simp -implicitDefEqProofs (maxSteps := 1000000) only [go_sem, eq_self, bne_self_eq_false, Bool.xor_self, true_implies, false_implies, marks_length, marks_take, take_map, Lead.mark_Acked, Lead.take_Acked, Lead.mark_Ended, Lead.take_Ended, Lead.mark_At, Lead.take_At]
  repeat (first | refine ⟨rfl, ?_⟩ | refine ⟨by decide, ?_⟩ | refine ⟨⟨by decide, by decide⟩, ?_⟩)
  refine .of (c_l_toLead aL (n_aL.len (by decide))) ?_
  simp -implicitDefEqProofs (maxSteps := 1000000) only [go_sem, eq_self, bne_self_eq_false, Bool.xor_self, true_implies, false_implies, marks_length, marks_take, take_map, Lead.mark_Acked, Lead.take_Acked, Lead.mark_Ended, Lead.take_Ended, Lead.mark_At, Lead.take_At]
  repeat (first | refine ⟨rfl, ?_⟩ | refine ⟨by decide, ?_⟩ | refine ⟨⟨by decide, by decide⟩, ?_⟩)
  refine .of (c_l_toMsg aM) ?_
  simp -implicitDefEqProofs (maxSteps := 1000000) only [go_sem, eq_self, bne_self_eq_false, Bool.xor_self, true_implies, false_implies, marks_length, marks_take, take_map, Lead.mark_Acked, Lead.take_Acked, Lead.mark_Ended, Lead.take_Ended, Lead.mark_At, Lead.take_At]
  repeat (first | refine ⟨rfl, ?_⟩ | refine ⟨by decide, ?_⟩ | refine ⟨⟨by decide, by decide⟩, ?_⟩)
  refine .of (c_i_Hear _ _ (n_aL.mono (by decide))) ?_
  simp -implicitDefEqProofs (maxSteps := 1000000) only [go_sem, eq_self, bne_self_eq_false, Bool.xor_self, true_implies, false_implies, marks_length, marks_take, take_map, Lead.mark_Acked, Lead.take_Acked, Lead.mark_Ended, Lead.take_Ended, Lead.mark_At, Lead.take_At]
  repeat (first | refine ⟨rfl, ?_⟩ | refine ⟨by decide, ?_⟩ | refine ⟨⟨by decide, by decide⟩, ?_⟩)
  refine .of (c_l_eqLead (aL.hear aM) (aL.hear aM) lg) ?_
  simp -implicitDefEqProofs (maxSteps := 1000000) only [go_sem, eq_self, bne_self_eq_false, Bool.xor_self, true_implies, false_implies, marks_length, marks_take, take_map, Lead.mark_Acked, Lead.take_Acked, Lead.mark_Ended, Lead.take_Ended, Lead.mark_At, Lead.take_At]
  repeat (first | refine ⟨rfl, ?_⟩ | refine ⟨by decide, ?_⟩ | refine ⟨⟨by decide, by decide⟩, ?_⟩)
  refine .of (c_l_toLead aL (n_aL.len (by decide))) ?_
  simp -implicitDefEqProofs (maxSteps := 1000000) only [go_sem, eq_self, bne_self_eq_false, Bool.xor_self, true_implies, false_implies, marks_length, marks_take, take_map, Lead.mark_Acked, Lead.take_Acked, Lead.mark_Ended, Lead.take_Ended, Lead.mark_At, Lead.take_At]
  repeat (first | refine ⟨rfl, ?_⟩ | refine ⟨by decide, ?_⟩ | refine ⟨⟨by decide, by decide⟩, ?_⟩)
  refine .of (c_l_eqLead (aL) (aL) (n_aL.len (by decide))) ?_
  simp -implicitDefEqProofs (maxSteps := 1000000) only [go_sem, eq_self, bne_self_eq_false, Bool.xor_self, true_implies, false_implies, marks_length, marks_take, take_map, Lead.mark_Acked, Lead.take_Acked, Lead.mark_Ended, Lead.take_Ended, Lead.mark_At, Lead.take_At]
  repeat (first | refine ⟨rfl, ?_⟩ | refine ⟨by decide, ?_⟩ | refine ⟨⟨by decide, by decide⟩, ?_⟩)
  refine .of (c_l_markLead (aL) 1 (n_aL.len (by decide)) (by omega)) ?_
  simp -implicitDefEqProofs (maxSteps := 1000000) only [go_sem, eq_self, bne_self_eq_false, Bool.xor_self, true_implies, false_implies, marks_length, marks_take, take_map, Lead.mark_Acked, Lead.take_Acked, Lead.mark_Ended, Lead.take_Ended, Lead.mark_At, Lead.take_At]
  repeat (first | refine ⟨rfl, ?_⟩ | refine ⟨by decide, ?_⟩ | refine ⟨⟨by decide, by decide⟩, ?_⟩)
  have f_k : decide (((aL).far 1) < 0) = false := decide_eq_false (by simp only [Lead.far]; omega)
  simp -implicitDefEqProofs (maxSteps := 1000000) only [f_k, go_sem, true_implies, false_implies, marks_length, marks_take, take_map, Lead.mark_Acked, Lead.take_Acked, Lead.mark_Ended, Lead.take_Ended, Lead.mark_At, Lead.take_At]
  repeat (first | refine ⟨rfl, ?_⟩ | refine ⟨by decide, ?_⟩ | refine ⟨⟨by decide, by decide⟩, ?_⟩)
  refine .of (c_l_eqLead (aL.hear aM) (aL.hear aM) lg) ?_
  simp -implicitDefEqProofs (maxSteps := 1000000) only [go_sem, eq_self, bne_self_eq_false, Bool.xor_self, true_implies, false_implies, marks_length, marks_take, take_map, Lead.mark_Acked, Lead.take_Acked, Lead.mark_Ended, Lead.take_Ended, Lead.mark_At, Lead.take_At]
  repeat (first | refine ⟨rfl, ?_⟩ | refine ⟨by decide, ?_⟩ | refine ⟨⟨by decide, by decide⟩, ?_⟩)
  refine .of (c_l_markLead (aL.hear aM) 1 lg (by omega)) ?_
  simp -implicitDefEqProofs (maxSteps := 1000000) only [go_sem, eq_self, bne_self_eq_false, Bool.xor_self, true_implies, false_implies, marks_length, marks_take, take_map, Lead.mark_Acked, Lead.take_Acked, Lead.mark_Ended, Lead.take_Ended, Lead.mark_At, Lead.take_At]
  repeat (first | refine ⟨rfl, ?_⟩ | refine ⟨by decide, ?_⟩ | refine ⟨⟨by decide, by decide⟩, ?_⟩)
  refine .of (c_l_heldLead (aL.hear aM) 1 lg (by omega)) ?_
  simp -implicitDefEqProofs (maxSteps := 1000000) only [go_sem, eq_self, bne_self_eq_false, Bool.xor_self, true_implies, false_implies, marks_length, marks_take, take_map, Lead.mark_Acked, Lead.take_Acked, Lead.mark_Ended, Lead.take_Ended, Lead.mark_At, Lead.take_At]
  repeat (first | refine ⟨rfl, ?_⟩ | refine ⟨by decide, ?_⟩ | refine ⟨⟨by decide, by decide⟩, ?_⟩)
  have f_q : decide (((aL.hear aM).far 1) < 0) = false := decide_eq_false (by simp only [Lead.far]; omega)
  simp -implicitDefEqProofs (maxSteps := 1000000) only [f_q, go_sem, true_implies, false_implies, marks_length, marks_take, take_map, Lead.mark_Acked, Lead.take_Acked, Lead.mark_Ended, Lead.take_Ended, Lead.mark_At, Lead.take_At]
  repeat (first | refine ⟨rfl, ?_⟩ | refine ⟨by decide, ?_⟩ | refine ⟨⟨by decide, by decide⟩, ?_⟩)
  try (simp -implicitDefEqProofs (maxSteps := 1000000) only [bne_self_eq_false, go_sem, true_implies, false_implies, marks_length, marks_take, take_map, Lead.mark_Acked, Lead.take_Acked, Lead.mark_Ended, Lead.take_Ended, Lead.mark_At, Lead.take_At])
  refine .of (c_l_toLead aL (n_aL.len (by decide))) ?_
  simp -implicitDefEqProofs (maxSteps := 1000000) only [go_sem, eq_self, bne_self_eq_false, Bool.xor_self, true_implies, false_implies, marks_length, marks_take, take_map, Lead.mark_Acked, Lead.take_Acked, Lead.mark_Ended, Lead.take_Ended, Lead.mark_At, Lead.take_At]
  repeat (first | refine ⟨rfl, ?_⟩ | refine ⟨by decide, ?_⟩ | refine ⟨⟨by decide, by decide⟩, ?_⟩)
  refine .of (c_l_toMsg aM) ?_
  simp -implicitDefEqProofs (maxSteps := 1000000) only [go_sem, eq_self, bne_self_eq_false, Bool.xor_self, true_implies, false_implies, marks_length, marks_take, take_map, Lead.mark_Acked, Lead.take_Acked, Lead.mark_Ended, Lead.take_Ended, Lead.mark_At, Lead.take_At]
  repeat (first | refine ⟨rfl, ?_⟩ | refine ⟨by decide, ?_⟩ | refine ⟨⟨by decide, by decide⟩, ?_⟩)
  refine .of (c_i_Hear _ _ (n_aL.mono (by decide))) ?_
  simp -implicitDefEqProofs (maxSteps := 1000000) only [go_sem, eq_self, bne_self_eq_false, Bool.xor_self, true_implies, false_implies, marks_length, marks_take, take_map, Lead.mark_Acked, Lead.take_Acked, Lead.mark_Ended, Lead.take_Ended, Lead.mark_At, Lead.take_At]
  repeat (first | refine ⟨rfl, ?_⟩ | refine ⟨by decide, ?_⟩ | refine ⟨⟨by decide, by decide⟩, ?_⟩)
  refine .of (c_l_eqLead (aL.hear aM) (aL.hear aM) lg) ?_
  simp -implicitDefEqProofs (maxSteps := 1000000) only [go_sem, eq_self, bne_self_eq_false, Bool.xor_self, true_implies, false_implies, marks_length, marks_take, take_map, Lead.mark_Acked, Lead.take_Acked, Lead.mark_Ended, Lead.take_Ended, Lead.mark_At, Lead.take_At]
  repeat (first | refine ⟨rfl, ?_⟩ | refine ⟨by decide, ?_⟩ | refine ⟨⟨by decide, by decide⟩, ?_⟩)
  refine .of (c_l_heldLead (aL.hear aM) 1 lg (by omega)) ?_
  simp -implicitDefEqProofs (maxSteps := 1000000) only [go_sem, eq_self, bne_self_eq_false, Bool.xor_self, true_implies, false_implies, marks_length, marks_take, take_map, Lead.mark_Acked, Lead.take_Acked, Lead.mark_Ended, Lead.take_Ended, Lead.mark_At, Lead.take_At]
  repeat (first | refine ⟨rfl, ?_⟩ | refine ⟨by decide, ?_⟩ | refine ⟨⟨by decide, by decide⟩, ?_⟩)
  simp -implicitDefEqProofs (maxSteps := 1000000) only [f_q, go_sem, true_implies, false_implies, marks_length, marks_take, take_map, Lead.mark_Acked, Lead.take_Acked, Lead.mark_Ended, Lead.take_Ended, Lead.mark_At, Lead.take_At]
  repeat (first | refine ⟨rfl, ?_⟩ | refine ⟨by decide, ?_⟩ | refine ⟨⟨by decide, by decide⟩, ?_⟩)
  try (simp -implicitDefEqProofs (maxSteps := 1000000) only [bne_self_eq_false, go_sem, true_implies, false_implies, marks_length, marks_take, take_map, Lead.mark_Acked, Lead.take_Acked, Lead.mark_Ended, Lead.take_Ended, Lead.mark_At, Lead.take_At])
end Go.X

