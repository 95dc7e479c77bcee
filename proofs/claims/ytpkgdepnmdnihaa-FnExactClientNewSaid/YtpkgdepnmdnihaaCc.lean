/- Texts: XOpen CA CC CE CF CL CW_ClientNew. -/
import Derived.Test.YtpkgdepnmdnihaaCb
import Derived.SizedLaws
import Derived.Deep.Slices
import Derived.ChangeArms
import Derived.WideShapes
import Derived.Below
set_option linter.unusedVariables false
set_option linter.unusedSimpArgs false
/- How what comes in reads; how a law is asked. -/
namespace Go.X
open Go.WideShapes Go.RowKit
def Old (w : World) : Nat → Prop := fun b => b < w.heap.size
def RdL (S : Nat → Prop) (w : World) (ts : List T) (vs : List Value) : Prop := ts.length = vs.length ∧ ∀ (k : Nat) (t : T) (v : Value), ts[k]? = some t → vs[k]? = some v → Rd S w t v
theorem RdL.app {S : Nat → Prop} {w : World} {a b : List T} {vs us : List Value} (h : RdL S w a vs) (h' : RdL S w b us) : RdL S w (a ++ b) (vs ++ us) :=
  ⟨by simp [h.1, h'.1], fun k t v ht hv => by
    by_cases hk : k < a.length
    · rw [List.getElem?_append_left hk] at ht
      rw [List.getElem?_append_left (by have := h.1; omega)] at hv
      exact h.2 k t v ht hv
    · rw [List.getElem?_append_right (by omega)] at ht
      rw [List.getElem?_append_right (by have := h.1; omega), ← h.1] at hv
      exact h'.2 _ t v ht hv⟩
theorem RdL.one {S : Nat → Prop} {w : World} {t : T} {v : Value} (h : Rd S w t v) : RdL S w [t] [v] := ⟨rfl, fun k t' v' ht hv => by
  cases k with
  | zero => simp at ht hv; subst ht; subst hv; exact h
  | succ k => simp at ht⟩
/-- Every reading of type t is a value that is told so and meets p. -/
def OpT {α : Type} (P : Program) (t : TypeId) (e : α → List T) (p : α → Prop) : Prop :=
  ∀ (H : Type) (enc : TypeId × Value → H) (w : World) (fuel : Nat) (cs : List Value) (x : DataW H × List MemPlace), DataW.trod enc P w 0 (fun _ => true) true fuel t cs = some x →
    (∀ n ∈ x.1.weights P t, n ≤ 140737488351232) → ∃ a, p a ∧ RdL (Old w) w (e a) cs
def FT {α : Type} (P : Program) (fs : List Field) (off z : Nat) (e : α → List T) (p : α → Prop) : Prop :=
  ∀ (H : Type) (enc : TypeId × Value → H) (w : World) (n : Nat) (cs : List Value) (xs : List (DataW H × List MemPlace)),
    (∀ (i : Nat) (f : Field), fs[i]? = some f → DataW.trod enc P w 0 (fun _ => true) true n f.type ((cs.drop f.offset).take (P.cellsOf f.type)) = xs[i]?) → xs.length = fs.length →
    (∀ m ∈ DataW.weightsEach P (fs.map (·.type)) (xs.map (·.1)), m ≤ 140737488351232) → cs.length = off + z → ∃ a, p a ∧ RdL (Old w) w (e a) (cs.drop off)
def InI (k : IntKind) (a : Int) : Prop := (Lit.int k a).wf = true
section
variable {P : Program} {t : TypeId}
theorem OpT.int {k : IntKind} (ht : P.underlying t = some (.int k)) : OpT P t (fun a => [.pv (.int k a)]) (InI k) := fun H enc w fuel cs x h _ => by
  obtain ⟨n, rfl, _, hw⟩ := DataW.trod_int ht h
  exact ⟨n, hw, .one (.pv rfl)⟩
theorem OpT.bool (ht : P.underlying t = some .bool) : OpT P t (fun a => [.pv (.bool a)]) (fun _ => True) := fun H enc w fuel cs x h _ => by
  obtain ⟨n, rfl, _⟩ := DataW.trod_bool ht h
  exact ⟨n, trivial, .one (.pv rfl)⟩
theorem OpT.string (ht : P.underlying t = some .string) : OpT P t (fun a => [.pv (.string a)]) (fun a => a.size ≤ 140737488351232) := fun H enc w fuel cs x h hw => by
  obtain ⟨s, rfl, rfl, hs⟩ := DataW.trod_string ht h
  refine ⟨s, ?_, .one (.pv rfl)⟩
  have := hw s.data.toList.length (by simp [DataW.weights])
  simpa using this
theorem old_of_cell {w : World} {ad : Addr} {v : Value} (h : w.cell? ad = some v) : ad.block < w.heap.size := by
  unfold World.cell? at h
  cases hb : w.heap[ad.block]? with
  | none => simp [hb] at h
  | some _ => exact (Array.getElem?_eq_some_iff.1 hb).1
theorem mem_allW {H : Type} {e : TypeId} {d : DataW H} {n : Nat} (hn : n ∈ d.weights P e) : ∀ {l : List (DataW H)}, d ∈ l → n ∈ DataW.weightsAll P e l
  | [], h => by cases h
  | y :: l, h => by
    simp only [DataW.weightsAll, List.mem_append]
    rcases List.mem_cons.1 h with rfl | h
    · exact .inl hn
    · exact .inr (mem_allW hn h)
theorem OpT.slice {α : Type} {e : TypeId} {en : α → List T} {p : α → Prop} (z B : Nat) (ht : P.underlying t = some (.slice e)) (hc : P.cellsOf e = z) (hB : P.bytesOf e = B) (h : OpT P e en p) :
    OpT P t (fun l : List α => [.sl false z () (l.map en)]) (fun l => l.length * B ≤ 140737488351232 ∧ ∀ a ∈ l, p a) := fun H enc w fuel cs x hx hw => by
  rcases Deep.open_slice ht hx with ⟨rfl, rfl⟩ | ⟨ad, len, cap, m, n, D, Pl, rfl, _, hl, hm, hmm, rfl, hel⟩
  · refine ⟨[], ⟨by simp, fun _ h => by cases h⟩, .one ?_⟩
    exact Rd.sl (rows := []) (fun _ _ => undef) (Nat.le_refl _) (by simp [maxLen]) (fun r hr => by cases hr) (fun i r j t hr => by simp at hr) (fun i r j t hr => by simp at hr)
  · simp only [if_true] at hmm
    replace hmm := hmm.symm
    subst hmm
    have hel' : ∀ i, i < len → ∃ a, p a ∧ ∃ c : List Value, c.length = z ∧ RdL (Old w) w (en a) c ∧ ∀ j u, c[j]? = some u → w.cell? (ad.add (i * z + j)) = some u := fun i hi => by
      obtain ⟨c, h1, h2⟩ := hel i (by omega)
      have hww : ∀ k ∈ (D i).weights P e, k ≤ 140737488351232 := fun k hk => hw k (by
        simp only [DataW.weights, ht, List.mem_cons, List.mem_append]
        exact .inr (.inl (mem_allW hk (List.mem_map.2 ⟨i, by simpa using hi, rfl⟩))))
      obtain ⟨a, hpa, ha⟩ := h H enc w n c _ h2 hww
      obtain ⟨_, hlen, hcell⟩ := World.cells?_some h1
      refine ⟨a, hpa, c, hlen.trans hc, ha, fun j u hu => ?_⟩
      have hj : j < c.length := (List.getElem?_eq_some_iff.1 hu).1
      have := hcell j (by omega)
      rw [hu, Deep.add_add, hc] at this
      exact this
    have : ∃ l : List α, l.length = len ∧ ∀ i a, l[i]? = some a → p a ∧ ∃ c : List Value, c.length = z ∧ RdL (Old w) w (en a) c ∧ ∀ j u, c[j]? = some u → w.cell? (ad.add (i * z + j)) = some u := by
      clear hx hw hel hl
      induction len with
      | zero => exact ⟨[], rfl, fun i a h => by simp at h⟩
      | succ len ih =>
        obtain ⟨l, hl, hh⟩ := ih (fun i hi => hel' i (by omega))
        obtain ⟨a, ha⟩ := hel' len (by omega)
        refine ⟨l ++ [a], by simp [hl], fun i b hb => ?_⟩
        by_cases hi : i < l.length
        · exact hh i b (by rwa [List.getElem?_append_left hi] at hb)
        · have hi' : i = len := by
            have := (List.getElem?_eq_some_iff.1 hb).1
            simp at this
            omega
          subst hi'
          rw [List.getElem?_append_right (by omega), hl] at hb
          simp at hb
          subst hb
          exact ha
    obtain ⟨l, hll, hh⟩ := this
    have hsz : len * B ≤ 140737488351232 := by
      have z := hw ((((List.range len).map D).length + ((List.range (cap - len)).map fun j => D (len + j)).length) * P.bytesOf e) (by simp [DataW.weights, ht])
      rw [hB] at z
      simp only [List.length_map, List.length_range] at z
      exact Nat.le_trans (Nat.mul_le_mul_right _ (by omega)) z
    refine ⟨l, ⟨by rw [hll]; exact hsz, fun a ha => ?_⟩, .one ?_⟩
    · obtain ⟨i, hi, rfl⟩ := List.mem_iff_getElem.1 ha
      exact (hh i _ (List.getElem?_eq_getElem hi)).1
    · have key : ∀ i r j t, (l.map en)[i]? = some r → r[j]? = some t → w.cell? (ad.add (i * z + j)) = some ((w.cell? (ad.add (i * z + j))).getD undef) ∧ Rd (Old w) w t ((w.cell? (ad.add (i * z + j))).getD undef) := fun i r j t hr hj => by
        rw [List.getElem?_map] at hr
        cases hi : l[i]? with
        | none => simp [hi] at hr
        | some a =>
          simp [hi] at hr
          subst hr
          obtain ⟨_, c, h1, h2, h3⟩ := hh i a hi
          have hjl : j < c.length := by rw [← h2.1]; exact (List.getElem?_eq_some_iff.1 hj).1
          have h4 := h3 j c[j] (List.getElem?_eq_getElem hjl)
          rw [h4]
          exact ⟨rfl, h2.2 j t _ hj (List.getElem?_eq_getElem hjl)⟩
      have := Rd.sl (S := Old w) (w := w) (z := z) (cap := cap) (a := some ad) (rows := l.map en) (fun i j => (w.cell? (ad.add (i * z + j))).getD undef) (by simp; omega) hm (fun r hr => by
        obtain ⟨a, ha, rfl⟩ := List.mem_map.1 hr
        obtain ⟨i, hi, rfl⟩ := List.mem_iff_getElem.1 ha
        obtain ⟨_, c, h1, h2, h3⟩ := hh i _ (List.getElem?_eq_getElem hi)
        rw [h2.1, h1]) (fun i r j t hr hj => by
        obtain ⟨h1, h2⟩ := key i r j t hr hj
        refine ⟨ad, rfl, ?_, h1⟩
        have := old_of_cell h1
        rwa [add_block] at this) (fun i r j t hr hj => (key i r j t hr hj).2)
      rw [List.length_map, hll] at this
      exact this
theorem FT.one {α : Type} {e : α → List T} {p : α → Prop} {f : Field} {off z : Nat} (ho : f.offset = off) (hc : P.cellsOf f.type = z) (h : OpT P f.type e p) : FT P [f] off z e p := fun H enc w n cs xs hx hl hw hlen => by
  match xs, hl with
  | [x], _ =>
    have h0 := hx 0 f rfl
    rw [ho, hc, List.take_of_length_le (by rw [List.length_drop]; omega)] at h0
    exact h H enc w n _ x (by simpa using h0) (fun m hm => hw m (by simp only [List.map_cons, List.map_nil, DataW.weightsEach, List.append_nil]; exact hm))
theorem FT.cons {α β : Type} {e : α → List T} {e' : β → List T} {p : α → Prop} {p' : β → Prop} {f : Field} {fs : List Field} {off z z' : Nat} (ho : f.offset = off) (hc : P.cellsOf f.type = z) (h : OpT P f.type e p) (h' : FT P fs (off + z) z' e' p') :
    FT P (f :: fs) off (z + z') (fun a : α × β => e a.1 ++ e' a.2) (fun a => p a.1 ∧ p' a.2) := fun H enc w n cs xs hx hl hw hlen => by
  match xs, hl with
  | x :: xs, hl =>
    have h0 := hx 0 f rfl
    rw [ho, hc] at h0
    obtain ⟨a, hpa, ha⟩ := h H enc w n _ x (by simpa using h0) (fun m hm => hw m (by simp only [List.map_cons, DataW.weightsEach, List.mem_append]; exact .inl hm))
    obtain ⟨b, hpb, hb⟩ := h' H enc w n cs xs (fun i g hg => by simpa using hx (i + 1) g (by simpa using hg)) (by simpa using hl)
      (fun m hm => hw m (by simp only [List.map_cons, DataW.weightsEach, List.mem_append]; exact .inr hm)) (by omega)
    refine ⟨(a, b), ⟨hpa, hpb⟩, ?_⟩
    have := ha.app hb
    rwa [← List.drop_drop, List.take_append_drop] at this
theorem OpT.struct {α β : Type} {e : α → List T} {e' : β → List T} {p : α → Prop} {q : β → Prop} {fs : Array Field} {z : Nat} (ht : P.underlying t = some (.struct fs)) (hc : P.cellsOf t = z) (h : FT P fs.toList 0 z e p) (g : α → β) (hg : ∀ a, e' (g a) = e a) (hq : ∀ a, p a → q (g a)) :
    OpT P t e' q := fun H enc w fuel cs x hx hw => by
  obtain ⟨xs, n, _, rfl, hl, hlen, hf⟩ := DataW.trod_struct ht hx
  obtain ⟨a, hpa, ha⟩ := h H enc w n cs xs (fun i f hi => hf i f (by simpa using hi)) (by simpa using hlen) (fun m hm => hw m (by simpa only [DataW.weights, ht] using hm)) (by omega)
  exact ⟨g a, hq a hpa, by rw [hg]; simpa using ha⟩
theorem OpT.weaken {α : Type} {e : α → List T} {p q : α → Prop} (h : OpT P t e p) (hq : ∀ a, p a → q a) : OpT P t e q := fun H enc w fuel cs x hx hw => by
  obtain ⟨a, hp, ha⟩ := h H enc w fuel cs x hx hw
  exact ⟨a, hq a hp, ha⟩
/-- A parameter's value. -/
theorem OpT.param {α : Type} {e : α → List T} {p : α → Prop} (h : OpT P t e p) {H : Type} {enc : TypeId × Value → H} {W : World} {v : Value} {x : DataW H} {ps : List MemPlace} {ts : List TypeId} {ds : List (DataW H)} (hT : DataW.Trod enc P W 0 (fun _ => true) true t v x ps)
    (hsz : (DataW.weightsEach P ts ds).all (· ≤ reachBytes) = true) (j : Nat) (hj : ts[j]? = some t) (hd : ds[j]? = some x) : ∃ a, p a ∧ RdL (Old W) W (e a) v.cells.toList := by
  obtain ⟨fuel, hf⟩ := hT
  exact h H enc W fuel _ _ hf (fun n hn => by
    have := List.all_eq_true.1 hsz _ (DataW.weights_mem_each hj hd n hn)
    exact of_decide_eq_true this)
theorem lt_of_trod {H : Type} {enc : TypeId × Value → H} {W : World} {v : Value} {x : DataW H} {ps : List MemPlace} (h : DataW.Trod enc P W 0 (fun _ => true) true t v x ps) : ∀ y ∈ ps, y.block < W.heap.size := by
  obtain ⟨m, hm⟩ := h
  exact DataW.trod_lt m _ _ _ hm
/-- An argument, and how it reads. -/
def RdA (w : World) : AV → Value → Prop
  | .one t, v => Rd (Old w) w t v
  | .agg ts, v => ∃ vs : List Value, v = .agg vs.toArray ∧ RdL (Old w) w ts vs
  | .ptr _, _ => False
def RdAs (w : World) : List AV → List Value → Prop
  | [], [] => True
  | a :: as, v :: vs => RdA w a v ∧ RdAs w as vs
  | _, _ => False
theorem rdL_ghost {w : World} : ∀ {ts : List T} {vs : List Value}, RdL (Old w) w ts vs → ∃ gs : List G, gs.map er = ts ∧ gs.map hdr = vs ∧ ∀ t ∈ gs, Rp (Old w) w t ∧ ∀ b, cnt b t = 0
  | [], [], _ => ⟨[], rfl, rfl, fun t h => by cases h⟩
  | t :: ts, v :: vs, h => by
    obtain ⟨gs, e1, e2, e3⟩ := rdL_ghost (ts := ts) (vs := vs) ⟨by simpa using h.1, fun k t v ht hv => h.2 (k + 1) t v (by simpa using ht) (by simpa using hv)⟩
    obtain ⟨f1, f2, f3⟩ := gro_ok (h.2 0 t v rfl rfl)
    exact ⟨gro t v :: gs, by simp [gro_er, e1], by simp [f1, e2], fun t' ht' => by
      rcases List.mem_cons.1 ht' with rfl | ht'
      · exact ⟨f2, f3⟩
      · exact e3 t' ht'⟩
  | [], _ :: _, h => by simp [RdL] at h
  | _ :: _, [], h => by simp [RdL] at h
theorem rdAs_ghost {w : World} : ∀ {as : List AV} {vs : List Value}, RdAs w as vs → ∃ gs : List GA, gs.map GA.er = as ∧ gs.map GA.val = vs ∧ (∀ x ∈ gs, x.ok (Old w) w ∧ noPtr x) ∧ ∀ b, treeCnt b gs + ptrCnt b gs = 0
  | [], [], _ => ⟨[], rfl, rfl, fun x h => (by cases h), fun b => rfl⟩
  | a :: as, v :: vs, h => by
    obtain ⟨gs, e1, e2, e3, e4⟩ := rdAs_ghost h.2
    have h1 := h.1
    cases a with
    | one t =>
      obtain ⟨f1, f2, f3⟩ := gro_ok (show Rd (Old w) w t v from h1)
      refine ⟨.one (gro t v) :: gs, by simp [GA.er, gro_er, e1], by simp [GA.val, f1, e2], fun x hx => ?_, fun b => ?_⟩
      · rcases List.mem_cons.1 hx with rfl | hx
        · exact ⟨⟨fun t ht => by simp only [GA.ts, List.mem_singleton] at ht; subst ht; exact f2, fun A ts e => by cases e⟩, trivial⟩
        · exact e3 x hx
      · have := e4 b
        have := f3 b
        simp only [treeCnt, ptrCnt, List.flatMap_cons, cntL_append, GA.ts, GA.pb, cntL] at *
        omega
    | agg ts =>
      obtain ⟨us, rfl, hR⟩ := h1
      obtain ⟨ys, f1, f2, f3⟩ := rdL_ghost hR
      refine ⟨.agg ys :: gs, by simp [GA.er, f1, e1], by simp [GA.val, f2, e2], fun x hx => ?_, fun b => ?_⟩
      · rcases List.mem_cons.1 hx with rfl | hx
        · exact ⟨⟨fun t ht => (f3 t ht).1, fun A ts e => by cases e⟩, trivial⟩
        · exact e3 x hx
      · have h4 := e4 b
        have z : cntL b ys = 0 := by
          have : ∀ l : List G, (∀ t ∈ l, cnt b t = 0) → cntL b l = 0 := fun l => by
            induction l with
            | nil => intro _; rfl
            | cons t l ih => intro h; simp [cntL, h t (List.mem_cons_self ..), ih (fun t ht => h t (List.mem_cons_of_mem _ ht))]
          exact this _ (fun t ht => (f3 t ht).2 b)
        simp only [treeCnt, ptrCnt, List.flatMap_cons, cntL_append, GA.ts, GA.pb] at *
        omega
    | ptr => exact h1.elim
  | [], _ :: _, h => h.elim
  | _ :: _, [], h => h.elim
/-- A law is asked. -/
theorem asked {f : Nat} {as : List AV} {args : Array Value} {w : World} {u : Value} {os : List (List T)} (hT : Tells P f as ⟨[.one (.pv u)], os⟩) (ha : RdAs w as args.toList) : Calls P f args w fun e w' => e = .returned u ∧ Below w.heap.size w w' := by
  obtain ⟨gs, e1, e2, e3, e4⟩ := rdAs_ghost ha
  have := hT (Old w) gs w e1 (fun b h => h) (fun x hx => (e3 x hx).1) (fun b => by have := e4 b; omega) (fun b hb => by have := e4 b; omega)
  rw [e2] at this
  refine this.mono ?_
  rintro e w1 ⟨rs, os', rfl, er1, er2, hrs, hos, hOut, hc1, hc2, hF, _⟩
  have hrs' : rs = [.one (.pv u)] := by
    cases rs with
    | nil => simp at er1
    | cons y ys =>
      cases ys with
      | cons => simp at er1
      | nil =>
        simp at er1
        cases y with
        | one t =>
          simp only [GA.er, AV.one.injEq] at er1
          cases t <;> simp_all [er]
        | _ => simp [GA.er] at er1
  subst hrs'
  exact ⟨rfl, ⟨hF.os, hF.tape, hF.output, hF.size, fun b hb => hF.block b hb (e4 b)⟩⟩
end
end Go.X

/- A -/
namespace Go.X
set_option maxRecDepth 100000
set_option maxHeartbeats 8000000
abbrev iT (a : Int) : T := .pv (.int .i64 a)
abbrev bT (a : Bool) : T := .pv (.bool a)
abbrev sT (s : ByteArray) : T := .pv (.string s)
abbrev uT (a : UInt8) : T := .pv (.int .u8 a.toNat)
abbrev slT {α : Type} (o : Bool) (z : Nat) (f : α → List T) (l : List α) : T := .sl o z () (l.map f)
abbrev bR (a : Bool) : List T := [bT a]
abbrev sR (a : ByteArray) : List T := [sT a]
abbrev iR (a : Int) : List T := [iT a]
abbrev uR (a : UInt8) : List T := [uT a]
/-- What is left of a measure. -/
def left (a : Int) : Int := if a < 0 then -1 else a
def Sane (f : Int → Int) : Prop := ∀ k, 0 ≤ k → f k ≤ k
def SaneL (fs : List (Int → Int)) : Prop := ∀ f ∈ fs, Sane f
theorem SaneL.nil : SaneL [] := fun _ h => by cases h
theorem SaneL.cons {f : Int → Int} {fs : List (Int → Int)} (h : Sane f) (t : SaneL fs) : SaneL (f :: fs) := fun g hg => by
  rcases List.mem_cons.1 hg with rfl | hg
  · exact h
  · exact t _ hg
/-- One measure behind the other, as long as something is left. -/
def szAll : List (Int → Int) → Int → Int
  | [], k => k
  | f :: fs, k => if f k < 0 then -1 else szAll fs (f k)
def ExL (n : Int) : List (Int → Int) → Prop
  | [] => True
  | f :: fs => (∃ j, 0 ≤ j ∧ j ≤ n ∧ 0 ≤ f j) ∧ ExL n fs
theorem Sane.all {fs : List (Int → Int)} (h : SaneL fs) : Sane (szAll fs) := by
  induction fs with
  | nil => intro k hk; exact Int.le_refl _
  | cons f fs ih =>
    intro k hk
    have h1 := h f (List.mem_cons_self ..) k hk
    simp only [szAll]
    split
    · omega
    · have := ih (fun g hg => h g (List.mem_cons_of_mem _ hg)) (f k) (by omega)
      omega
theorem szAll_ex {fs : List (Int → Int)} (h : SaneL fs) {k n : Int} (hk : 0 ≤ k) (hn : k ≤ n) (h0 : 0 ≤ szAll fs k) : ExL n fs := by
  induction fs generalizing k with
  | nil => trivial
  | cons f fs ih =>
    have h1 := h f (List.mem_cons_self ..) k hk
    simp only [szAll] at h0
    split at h0
    · omega
    · exact ⟨⟨k, hk, hn, by omega⟩, ih (fun g hg => h g (List.mem_cons_of_mem _ hg)) (k := f k) (by omega) (by omega) h0⟩
theorem Sane.sub (n : Nat) : Sane (fun k => k - n) := fun k hk => by show k - (n : Int) ≤ k; omega
theorem Sane.left (n : Nat) : Sane (fun k => left (k - n)) := fun k hk => by
  show Go.X.left (k - (n : Int)) ≤ k
  unfold Go.X.left
  split <;> omega
theorem left_nn {a : Int} (h : ¬ left a < 0) : left a = a := by
  unfold left at h ⊢
  split at h
  · omega
  · rw [if_neg (by assumption)]
theorem left_in {k : Int} {n : Nat} (h : 0 ≤ left (k - n)) : (n : Int) ≤ k := by
  unfold left at h
  split at h <;> omega
/-- What is left of a measure behind a row of things. -/
def szSl {α : Type} (f : α → Int → Int) (l : List α) (k : Int) : Int := szAll ((fun k => k - l.length) :: l.map f) k
theorem Sane.sl {α : Type} {f : α → Int → Int} (hf : ∀ a, Sane (f a)) (l : List α) : Sane (szSl f l) := by
  refine Sane.all (.cons (.sub _) fun g hg => ?_)
  obtain ⟨a, _, rfl⟩ := List.mem_map.1 hg
  exact hf a
theorem ExL_map {α : Type} {f : α → Int → Int} {n : Int} : ∀ {l : List α}, ExL n (l.map f) → ∀ a ∈ l, ∃ j, 0 ≤ j ∧ j ≤ n ∧ 0 ≤ f a j
  | [], _, a, h => by cases h
  | b :: l, ⟨h1, h2⟩, a, h => by
    rcases List.mem_cons.1 h with rfl | h
    · exact h1
    · exact ExL_map h2 a h
theorem szSl_in {α : Type} {f : α → Int → Int} {P : α → Prop} {n : Nat} (hf : ∀ a, Sane (f a)) (hP : ∀ a j, 0 ≤ j → j ≤ (n : Int) → 0 ≤ f a j → P a) {l : List α} {k : Int} (hk : 0 ≤ k) (hn : k ≤ n) (h : 0 ≤ szSl f l k) : l.length ≤ n ∧ ∀ a ∈ l, P a := by
  obtain ⟨⟨j, h1, h2, h3⟩, h4⟩ := szAll_ex (.cons (.sub _) fun g hg => by obtain ⟨a, _, rfl⟩ := List.mem_map.1 hg; exact hf a) hk hn h
  refine ⟨by have h5 : (0 : Int) ≤ j - (l.length : Nat) := h3; omega, fun a ha => ?_⟩
  obtain ⟨j, q1, q2, q3⟩ := ExL_map h4 a ha
  exact hP a j q1 q2 q3
def szStr (s : ByteArray) (k : Int) : Int := left (k - s.size)
theorem szStr_sane (s : ByteArray) : Sane (szStr s) := Sane.left _
theorem fill_get {α : Type} (f : α → List T) (l : List α) (z : List T) {i : Nat} (hi : i < l.length) : ((l.take i).map f ++ List.replicate (l.length - i) z)[i]? = some z := by
  rw [List.getElem?_append_right (by simp; omega), List.getElem?_replicate, if_pos (by simp; omega)]
theorem fill_set {α : Type} (f : α → List T) (l : List α) (z : List T) {i : Nat} (hi : i < l.length) : ((l.take i).map f ++ List.replicate (l.length - i) z).set i (f l[i]) = (l.take (i + 1)).map f ++ List.replicate (l.length - (i + 1)) z := by
  rw [List.set_append_right _ _ (by simp; omega), List.take_succ_eq_append_getElem hi, List.map_append, List.append_assoc]
  congr 1
  have e : l.length - i = (l.length - (i + 1)) + 1 := by omega
  rw [e, List.replicate_succ]
  have : i - ((l.take i).map f).length = 0 := by simp; omega
  rw [this]
  rfl
theorem fill_len {α : Type} (f : α → List T) (l : List α) (z : List T) {i : Nat} (hi : i ≤ l.length) : ((l.take i).map f ++ List.replicate (l.length - i) z).length = l.length := by simp; omega
theorem fill_end {α : Type} (f : α → List T) (l : List α) (z : List T) : (l.take l.length).map f ++ List.replicate (l.length - l.length) z = l.map f := by simp
/-- As far as i they are the same. -/
theorem same_step {α : Type} {l m : List α} {i : Nat} (hl : i < l.length) (hm : i < m.length) (h : l.take i = m.take i) (he : l[i] = m[i]) : l.take (i + 1) = m.take (i + 1) := by
  rw [List.take_succ_eq_append_getElem hl, List.take_succ_eq_append_getElem hm, h, he]
theorem same_end {α : Type} {l m : List α} {i : Nat} (hl : l.length ≤ i) (hm : m.length ≤ i) (h : l.take i = m.take i) : l = m := by
  rwa [List.take_of_length_le hl, List.take_of_length_le hm] at h
theorem all_step {α : Type} {l : List α} {p : α → Bool} {i : Nat} (hi : i < l.length) (h : (l.take i).all p = true) (h2 : p l[i] = true) : (l.take (i + 1)).all p = true := by
  rw [List.take_succ_eq_append_getElem hi, List.all_append, h, List.all_cons, h2]; rfl
theorem all_not {α : Type} {l : List α} {p : α → Bool} {i : Nat} (hi : i < l.length) (h2 : p l[i] = false) : l.all p = false := by
  rw [List.all_eq_false]; exact ⟨l[i], List.getElem_mem hi, by simp [h2]⟩
theorem all_end {α : Type} {l : List α} {p : α → Bool} {i : Nat} (hi : l.length ≤ i) (h : (l.take i).all p = true) : l.all p = true := by
  rwa [List.take_of_length_le hi] at h
/-- The marks of n things from k on, w to each. -/
def marks {α : Type} (w : Nat) (mk : Int → α) (n : Nat) (k : Int) : List α := (List.range n).map fun i => mk (k + (w * i : Nat))
theorem marks_length {α : Type} (w : Nat) (mk : Int → α) (n : Nat) (k : Int) : (marks w mk n k).length = n := by simp [marks]
theorem marks_succ {α : Type} (w : Nat) (mk : Int → α) (n : Nat) (k : Int) : marks w mk (n + 1) k = marks w mk n k ++ [mk (k + (w * n : Nat))] := by simp [marks, List.range_succ]
theorem marks_get {α : Type} (w : Nat) (mk : Int → α) {n i : Nat} (k : Int) (h : i < n) : (marks w mk n k)[i]? = some (mk (k + (w * i : Nat))) := by simp [marks, h]
theorem mark_get {α : Type} (f : α → List T) (w : Nat) (mk : Int → α) (l : List α) (k : Int) {i : Nat} (hi : i < l.length) : ((marks w mk i k).map f ++ (l.drop i).map f)[i]? = some (f l[i]) := by
  rw [List.getElem?_append_right (by simp [marks_length]), List.length_map, marks_length, Nat.sub_self, List.getElem?_map, List.getElem?_drop]
  simp [hi]
theorem mark_set {α : Type} (f : α → List T) (w : Nat) (mk : Int → α) (l : List α) (k : Int) {i : Nat} (hi : i < l.length) : ((marks w mk i k).map f ++ (l.drop i).map f).set i (f (mk (k + (w * i : Nat)))) = (marks w mk (i + 1) k).map f ++ (l.drop (i + 1)).map f := by
  rw [List.set_append_right _ _ (by simp [marks_length]), List.length_map, marks_length, Nat.sub_self, List.drop_eq_getElem_cons hi, List.map_cons, List.set_cons_zero, marks_succ, List.map_append, List.append_assoc]
  rfl
theorem mark_len {α : Type} (f : α → List T) (w : Nat) (mk : Int → α) (l : List α) (k : Int) {i : Nat} (hi : i ≤ l.length) : ((marks w mk i k).map f ++ (l.drop i).map f).length = l.length := by simp [marks_length]; omega
theorem mark_reget {α : Type} (f : α → List T) (w : Nat) (mk : Int → α) (l : List α) (k : Int) {i : Nat} (hi : i < l.length) (r : List T) : (((marks w mk i k).map f ++ (l.drop i).map f).set i r)[i]? = some r := by
  rw [List.getElem?_set_self (by rw [mark_len f w mk l k (by omega)]; exact hi)]
theorem mark_end {α : Type} (f : α → List T) (w : Nat) (mk : Int → α) (l : List α) (k : Int) : (marks w mk l.length k).map f ++ (l.drop l.length).map f = (marks w mk l.length k).map f := by simp
theorem marks_take {α β : Type} (f : α → β) (w : Nat) (mk : Int → α) (n : Nat) (k : Int) : ((marks w mk n k).map f).take n = (marks w mk n k).map f := by rw [List.take_of_length_le (by simp [marks_length])]
def mkB (k : Int) : Bool := k.tmod 3 == 0
theorem byte_neq (a b : UInt8) : binV .neq (.int .u8 a.toNat) (.int .u8 b.toNat) = some (.bool (!decide (a = b))) := by
  have : ((a.toNat : Int) = b.toNat) ↔ a = b := by rw [Int.ofNat_inj]; exact UInt8.toNat_inj
  rw [bI_neq]
  by_cases h : a = b
  · subst h; simp
  · have h2 : ¬ ((a.toNat : Int) = b.toNat) := fun e => h (this.1 e)
    simp [h, bne, h2]
def digs (n : Nat) (out : ByteArray) : ByteArray := if h : n = 0 then out else digs (n / 10) (⟨#[UInt8.ofNat (48 + n % 10)]⟩ ++ out)
termination_by n
decreasing_by omega
def mkS (k : Int) : ByteArray := if k ≤ 0 then ⟨#[109, 48]⟩ else ⟨#[109]⟩ ++ digs k.toNat ⟨#[]⟩
def mkI (k : Int) : Int := k
def mkU (k : Int) : UInt8 := UInt8.ofNat (k % 256).toNat
theorem mkU_wrap (k : Int) : IntKind.u8.wrap k = ((mkU k).toNat : Int) := by
  have h1 := Int.emod_nonneg k (show (256 : Int) ≠ 0 by decide)
  have h2 := Int.emod_lt_of_pos k (show (0 : Int) < 256 by decide)
  have h3 : (mkU k).toNat = (k % 256).toNat := by
    rw [mkU, UInt8.toNat_ofNat', Nat.mod_eq_of_lt (by omega)]
  rw [h3, IntKind.wrap_u8]
  omega
def x_l_markText : FnX := ⟨20, [.tmp 2],
  .seq (.reg [⟨none, some 2, 2, .mv (.k (.one (.pv (.string ⟨#[]⟩))))⟩])
 (.seq (.seq (.reg [⟨none, some 4, 4, .mv (.t 0)⟩,
   ⟨none, some 5, 5, .bin .leq (.t 4) (.k (.one (.pv (.int .i64 0))))⟩])
 (.cond 5 (.seq (.reg [⟨none, some 2, 2, .mv (.k (.one (.pv (.string ⟨#[109, 48]⟩))))⟩])
 (.ret)) (.skip)))
 (.seq (.reg [⟨none, some 3, 3, .mv (.k (.one (.pv (.string ⟨#[]⟩))))⟩])
 (.seq (.block 0 (.loop [0, 3] (.seq (.seq (.reg [⟨none, some 6, 6, .mv (.t 0)⟩,
   ⟨none, some 7, 7, .bin .gtr (.t 6) (.k (.one (.pv (.int .i64 0))))⟩])
 (.cond 7 (.skip) (.exit 0)))
 (.block 1 (.seq (.reg [⟨none, some 8, 8, .mv (.t 0)⟩,
   ⟨none, some 9, 9, .bin .rem (.t 8) (.k (.one (.pv (.int .i64 10))))⟩,
   ⟨none, some 10, 10, .bin .add (.k (.one (.pv (.int .i64 48)))) (.t 9)⟩,
   ⟨none, some 11, 11, .conv (.int .u8) (.t 10)⟩,
   ⟨none, some 12, 12, .bslice 1 [(.t 11)]⟩,
   ⟨none, some 13, 13, .conv .b2s (.t 12)⟩,
   ⟨none, some 14, 14, .mv (.t 3)⟩,
   ⟨none, some 15, 15, .bin .add (.t 13) (.t 14)⟩,
   ⟨none, some 3, 3, .mv (.t 15)⟩])
 (.reg [⟨none, some 16, 16, .mv (.t 0)⟩,
   ⟨none, some 17, 17, .bin .quo (.t 16) (.k (.one (.pv (.int .i64 10))))⟩,
   ⟨none, some 0, 0, .mv (.t 17)⟩]))))))
 (.norm [3] (.seq (.reg [⟨none, some 18, 18, .mv (.t 3)⟩,
   ⟨none, some 19, 19, .bin .add (.k (.one (.pv (.string ⟨#[109]⟩)))) (.t 18)⟩,
   ⟨none, some 2, 2, .mv (.t 19)⟩])
 (.ret))))))⟩
abbrev C_l_markText (Te : Nat → List AV → Res → Prop) : Prop := ∀ (k : Int) (hk : 0 ≤ k ∧ k ≤ 2 ^ 48), Te 110 [.one (iT k)] ⟨[.one (sT (mkS k))], [[iT k]]⟩
theorem r_l_markText {Te : Nat → List AV → Res → Prop} : ∀ (k : Int) (hk : 0 ≤ k ∧ k ≤ 2 ^ 48), RunFn Te x_l_markText [.one (iT k)] ⟨[.one (sT (mkS k))], [[iT k]]⟩ := by
  intro k hk
  refine ⟨by simp -implicitDefEqProofs (maxSteps := 1000000) only [x_l_markText, go_sem], ?_⟩
  simp -implicitDefEqProofs (maxSteps := 1000000) only [x_l_markText, go_sem]
  refine ⟨fun h => ?_, fun h => ?_⟩
  · simp only [decide_eq_true_eq] at h
    simp only [mkS, if_pos h]
  · simp only [decide_eq_false_iff_not] at h
    refine loop_of (σ := Nat × ByteArray) (fun x => ⟨[(0, .one (.pv (.int .i64 x.1))), (3, .one (.pv (.string x.2)))], [], [(0, [iT k])]⟩) (fun x => x.2.size ≤ 15 ∧ x.1 * 10 ^ x.2.size ≤ 2 ^ 48 ∧ digs k.toNat ⟨#[]⟩ = digs x.1 x.2) (fun x => x.1) (k.toNat, ⟨#[]⟩) ?_ ?_ ?_
    · simp -implicitDefEqProofs (maxSteps := 1000000) only [go_sem]
      rw [Int.toNat_of_nonneg hk.1]
    · exact ⟨by simp [ByteArray.size], by simp [ByteArray.size]; omega, rfl⟩
    · rintro ⟨j, s⟩ ⟨h1, h2, h3⟩
      simp only at h1 h2 h3
      simp -implicitDefEqProofs (maxSteps := 1000000) only [go_sem]
      have hj : j ≤ 2 ^ 48 := Nat.le_trans (Nat.le_mul_of_pos_right j (Nat.pow_pos (by decide))) h2
      refine ⟨fun h0 => ?_, fun h0 => ?_⟩
      · have h0' : 0 < j := by simp only [decide_eq_true_eq] at h0; omega
        have hs : s.size ≤ 14 := by
          by_cases h15 : s.size ≤ 14
          · exact h15
          · have e1 := Nat.pow_le_pow_right (n := 10) (by decide) (show 15 ≤ s.size by omega)
            have e2 := Nat.le_mul_of_pos_left (10 ^ s.size) h0'
            omega
        have em : (j : Int).tmod 10 = ((j % 10 : Nat) : Int) := by rw [Int.tmod_eq_emod_of_nonneg (by omega)]; rfl
        have ed : (j : Int).tdiv 10 = ((j / 10 : Nat) : Int) := by rw [Int.tdiv_eq_ediv_of_nonneg (by omega)]; rfl
        have hlt : j % 10 < 10 := Nat.mod_lt _ (by decide)
        rw [em, ed, IntWalk.i64_in _ (by omega), IntWalk.i64_in _ (by omega), IntWalk.u8_in _ (by omega)]
        refine ⟨rfl, ?_⟩
        have e5 : bytesOf [[(Tr.pv (Value.int IntKind.u8 (48 + ((j % 10 : Nat) : Int))) : T)]] = [UInt8.ofNat (48 + j % 10)] := by
          simp only [bytesOf, List.map_cons, List.map_nil, List.headD_cons, byteOf]
          rw [show (48 + ((j % 10 : Nat) : Int)).toNat = 48 + j % 10 by omega]
        rw [e5, show decide ([UInt8.ofNat (48 + j % 10)].toArray.size + s.size ≤ 4294967296) = true by simp; omega]
        simp only [cond_true, onSome]
        have esz : ((⟨[UInt8.ofNat (48 + j % 10)].toArray⟩ : ByteArray) ++ s).size = s.size + 1 := by rw [ByteArray.size_append]; show 1 + s.size = s.size + 1; omega
        refine ⟨(j / 10, ⟨[UInt8.ofNat (48 + j % 10)].toArray⟩ ++ s), rfl, ⟨by simp only [esz]; omega, ?_, ?_⟩, Nat.div_lt_self h0' (by decide)⟩
        · simp only [esz]
          have e6 : j / 10 * 10 ^ (s.size + 1) = (j / 10 * 10) * 10 ^ s.size := by rw [Nat.pow_succ, Nat.mul_assoc, Nat.mul_comm 10]
          rw [e6]
          exact Nat.le_trans (Nat.mul_le_mul_right _ (by omega)) h2
        · rw [h3, digs, dif_neg (by omega)]
      · have h0' : j = 0 := by simp only [decide_eq_false_iff_not] at h0; omega
        subst h0'
        rw [show decide (#[(109 : UInt8)].size + s.size ≤ 4294967296) = true by simp; omega]
        simp only [cond_true, onSome]
        have e0 : digs 0 s = s := by rw [digs, dif_pos rfl]
        rw [e0] at h3
        simp only [mkS, if_neg h, h3]
end Go.X

/- C -/
namespace Go.X
set_option maxRecDepth 100000
set_option maxHeartbeats 8000000
structure Msg where
  Kind : Int
  From : Int
  To : Int
  Seq : Int
  Key : ByteArray
  Text : ByteArray
  N : Int
  Code : Int
  deriving DecidableEq
abbrev Msg.row (x : Msg) : List T := [iT x.Kind, iT x.From, iT x.To, iT x.Seq, sT x.Key, sT x.Text, iT x.N, iT x.Code]
def Msg.In (n : Nat) (x : Msg) : Prop := x.Key.size ≤ n ∧ x.Text.size ≤ n
theorem Msg.In.mono {x : Msg} {n m : Nat} (h : x.In n) (hn : n ≤ m) : x.In m := by
  simp only [Msg.In] at h ⊢
  exact ⟨Nat.le_trans h.1 hn, Nat.le_trans h.2 hn⟩
def szMsg (x : Msg) (k : Int) : Int := szAll [(fun k => k - (x.Key.size : Nat)), (fun k => k - (x.Text.size : Nat))] k
theorem szMsg_sane (x : Msg) : Sane (szMsg x) := Sane.all (.cons (Sane.sub _) (.cons (Sane.sub _) .nil))
theorem szMsg_in {x : Msg} {k : Int} {n : Nat} (hk : 0 ≤ k) (hn : k ≤ n) (h : 0 ≤ szMsg x k) : x.In n := by
  obtain ⟨⟨j0, a0, b0, c0⟩, ⟨j1, a1, b1, c1⟩, _⟩ := szAll_ex (.cons (Sane.sub _) (.cons (Sane.sub _) .nil)) hk hn h
  exact ⟨(by have q : (0 : Int) ≤ j0 - _ := c0; omega), (by have q : (0 : Int) ≤ j1 - _ := c1; omega)⟩
def mkMsg (k : Int) : Msg := ⟨k, k + 1, k + 1 + 1, k + 1 + 1 + 1, mkS (k + 1 + 1 + 1 + 1), mkS (k + 1 + 1 + 1 + 1 + 1), k + 1 + 1 + 1 + 1 + 1 + 1, k + 1 + 1 + 1 + 1 + 1 + 1 + 1⟩
def x_l_eqMsg : FnX := ⟨45, [.tmp 4],
  .seq (.reg [⟨none, some 2, 2, .box (.t 0)⟩,
   ⟨none, some 3, 3, .box (.t 1)⟩,
   ⟨none, some 4, 4, .mv (.k (.one (.pv (.bool false))))⟩])
 (.seq (.seq (.reg [⟨none, some 5, 5, .faddr (.t 2) 0⟩,
   ⟨none, some 6, 6, .load none (.t 5)⟩,
   ⟨none, some 7, 7, .faddr (.t 3) 0⟩,
   ⟨none, some 8, 8, .load none (.t 7)⟩,
   ⟨none, some 9, 9, .bin .neq (.t 6) (.t 8)⟩])
 (.cond 9 (.seq (.reg [⟨none, some 4, 4, .mv (.k (.one (.pv (.bool false))))⟩])
 (.ret)) (.skip)))
 (.seq (.seq (.reg [⟨none, some 10, 10, .faddr (.t 2) 1⟩,
   ⟨none, some 11, 11, .load none (.t 10)⟩,
   ⟨none, some 12, 12, .faddr (.t 3) 1⟩,
   ⟨none, some 13, 13, .load none (.t 12)⟩,
   ⟨none, some 14, 14, .bin .neq (.t 11) (.t 13)⟩])
 (.cond 14 (.seq (.reg [⟨none, some 4, 4, .mv (.k (.one (.pv (.bool false))))⟩])
 (.ret)) (.skip)))
 (.seq (.seq (.reg [⟨none, some 15, 15, .faddr (.t 2) 2⟩,
   ⟨none, some 16, 16, .load none (.t 15)⟩,
   ⟨none, some 17, 17, .faddr (.t 3) 2⟩,
   ⟨none, some 18, 18, .load none (.t 17)⟩,
   ⟨none, some 19, 19, .bin .neq (.t 16) (.t 18)⟩])
 (.cond 19 (.seq (.reg [⟨none, some 4, 4, .mv (.k (.one (.pv (.bool false))))⟩])
 (.ret)) (.skip)))
 (.seq (.seq (.reg [⟨none, some 20, 20, .faddr (.t 2) 3⟩,
   ⟨none, some 21, 21, .load none (.t 20)⟩,
   ⟨none, some 22, 22, .faddr (.t 3) 3⟩,
   ⟨none, some 23, 23, .load none (.t 22)⟩,
   ⟨none, some 24, 24, .bin .neq (.t 21) (.t 23)⟩])
 (.cond 24 (.seq (.reg [⟨none, some 4, 4, .mv (.k (.one (.pv (.bool false))))⟩])
 (.ret)) (.skip)))
 (.seq (.seq (.reg [⟨none, some 25, 25, .faddr (.t 2) 4⟩,
   ⟨none, some 26, 26, .load none (.t 25)⟩,
   ⟨none, some 27, 27, .faddr (.t 3) 4⟩,
   ⟨none, some 28, 28, .load none (.t 27)⟩,
   ⟨none, some 29, 29, .bin .neq (.t 26) (.t 28)⟩])
 (.cond 29 (.seq (.reg [⟨none, some 4, 4, .mv (.k (.one (.pv (.bool false))))⟩])
 (.ret)) (.skip)))
 (.seq (.seq (.reg [⟨none, some 30, 30, .faddr (.t 2) 5⟩,
   ⟨none, some 31, 31, .load none (.t 30)⟩,
   ⟨none, some 32, 32, .faddr (.t 3) 5⟩,
   ⟨none, some 33, 33, .load none (.t 32)⟩,
   ⟨none, some 34, 34, .bin .neq (.t 31) (.t 33)⟩])
 (.cond 34 (.seq (.reg [⟨none, some 4, 4, .mv (.k (.one (.pv (.bool false))))⟩])
 (.ret)) (.skip)))
 (.seq (.seq (.reg [⟨none, some 35, 35, .faddr (.t 2) 6⟩,
   ⟨none, some 36, 36, .load none (.t 35)⟩,
   ⟨none, some 37, 37, .faddr (.t 3) 6⟩,
   ⟨none, some 38, 38, .load none (.t 37)⟩,
   ⟨none, some 39, 39, .bin .neq (.t 36) (.t 38)⟩])
 (.cond 39 (.seq (.reg [⟨none, some 4, 4, .mv (.k (.one (.pv (.bool false))))⟩])
 (.ret)) (.skip)))
 (.seq (.seq (.reg [⟨none, some 40, 40, .faddr (.t 2) 7⟩,
   ⟨none, some 41, 41, .load none (.t 40)⟩,
   ⟨none, some 42, 42, .faddr (.t 3) 7⟩,
   ⟨none, some 43, 43, .load none (.t 42)⟩,
   ⟨none, some 44, 44, .bin .neq (.t 41) (.t 43)⟩])
 (.cond 44 (.seq (.reg [⟨none, some 4, 4, .mv (.k (.one (.pv (.bool false))))⟩])
 (.ret)) (.skip)))
 (.seq (.reg [⟨none, some 4, 4, .mv (.k (.one (.pv (.bool true))))⟩])
 (.ret))))))))))⟩
abbrev C_l_eqMsg (Te : Nat → List AV → Res → Prop) : Prop := ∀ (x y : Msg), Te 22 [.agg x.row, .agg y.row] ⟨[.one (bT (decide (x = y)))], [x.row, y.row]⟩
theorem r_l_eqMsg {Te : Nat → List AV → Res → Prop} : ∀ (x y : Msg), RunFn Te x_l_eqMsg [.agg x.row, .agg y.row] ⟨[.one (bT (decide (x = y)))], [x.row, y.row]⟩ := by
  intro x y
  refine ⟨by simp -implicitDefEqProofs (maxSteps := 1000000) only [x_l_eqMsg, go_sem], ?_⟩
  have key : (x = y) ↔ x.Kind = y.Kind ∧ x.From = y.From ∧ x.To = y.To ∧ x.Seq = y.Seq ∧ x.Key = y.Key ∧ x.Text = y.Text ∧ x.N = y.N ∧ x.Code = y.Code := by cases x; cases y; simp
  simp only [key]
  clear key
  simp -implicitDefEqProofs (maxSteps := 1000000) only [x_l_eqMsg, go_sem]
  refine ⟨fun q => ?_, fun q => ?_⟩
  · have n0 : ¬ (x.Kind = y.Kind) := by simpa using q
    simp only [n0, false_and, and_false, true_and, decide_false]
  have e0 : x.Kind = y.Kind := by simpa using q
  clear q
  refine ⟨fun q => ?_, fun q => ?_⟩
  · have n1 : ¬ (x.From = y.From) := by simpa using q
    simp only [e0, n1, false_and, and_false, true_and, decide_false]
  have e1 : x.From = y.From := by simpa using q
  clear q
  refine ⟨fun q => ?_, fun q => ?_⟩
  · have n2 : ¬ (x.To = y.To) := by simpa using q
    simp only [e0, e1, n2, false_and, and_false, true_and, decide_false]
  have e2 : x.To = y.To := by simpa using q
  clear q
  refine ⟨fun q => ?_, fun q => ?_⟩
  · have n3 : ¬ (x.Seq = y.Seq) := by simpa using q
    simp only [e0, e1, e2, n3, false_and, and_false, true_and, decide_false]
  have e3 : x.Seq = y.Seq := by simpa using q
  clear q
  refine ⟨fun q => ?_, fun q => ?_⟩
  · have n4 : ¬ (x.Key = y.Key) := by simpa using q
    simp only [e0, e1, e2, e3, n4, false_and, and_false, true_and, decide_false]
  have e4 : x.Key = y.Key := by simpa using q
  clear q
  refine ⟨fun q => ?_, fun q => ?_⟩
  · have n5 : ¬ (x.Text = y.Text) := by simpa using q
    simp only [e0, e1, e2, e3, e4, n5, false_and, and_false, true_and, decide_false]
  have e5 : x.Text = y.Text := by simpa using q
  clear q
  refine ⟨fun q => ?_, fun q => ?_⟩
  · have n6 : ¬ (x.N = y.N) := by simpa using q
    simp only [e0, e1, e2, e3, e4, e5, n6, false_and, and_false, true_and, decide_false]
  have e6 : x.N = y.N := by simpa using q
  clear q
  refine ⟨fun q => ?_, fun q => ?_⟩
  · have n7 : ¬ (x.Code = y.Code) := by simpa using q
    simp only [e0, e1, e2, e3, e4, e5, e6, n7, false_and, and_false, true_and, decide_false]
  have e7 : x.Code = y.Code := by simpa using q
  clear q
  simp only [e0, e1, e2, e3, e4, e5, e6, e7, true_and, and_true, decide_true]
end Go.X

/- E -/
namespace Go.X
set_option maxRecDepth 100000
set_option maxHeartbeats 8000000
structure DoneV where
  Seq : Int
  Kind : Int
  Key : ByteArray
  Text : ByteArray
  Code : Int
  deriving DecidableEq
abbrev DoneV.row (x : DoneV) : List T := [iT x.Seq, iT x.Kind, sT x.Key, sT x.Text, iT x.Code]
def DoneV.In (n : Nat) (x : DoneV) : Prop := x.Key.size ≤ n ∧ x.Text.size ≤ n
theorem DoneV.In.mono {x : DoneV} {n m : Nat} (h : x.In n) (hn : n ≤ m) : x.In m := by
  simp only [DoneV.In] at h ⊢
  exact ⟨Nat.le_trans h.1 hn, Nat.le_trans h.2 hn⟩
def szDone (x : DoneV) (k : Int) : Int := szAll [(fun k => k - (x.Key.size : Nat)), (fun k => k - (x.Text.size : Nat))] k
theorem szDone_sane (x : DoneV) : Sane (szDone x) := Sane.all (.cons (Sane.sub _) (.cons (Sane.sub _) .nil))
theorem szDone_in {x : DoneV} {k : Int} {n : Nat} (hk : 0 ≤ k) (hn : k ≤ n) (h : 0 ≤ szDone x k) : x.In n := by
  obtain ⟨⟨j0, a0, b0, c0⟩, ⟨j1, a1, b1, c1⟩, _⟩ := szAll_ex (.cons (Sane.sub _) (.cons (Sane.sub _) .nil)) hk hn h
  exact ⟨(by have q : (0 : Int) ≤ j0 - _ := c0; omega), (by have q : (0 : Int) ≤ j1 - _ := c1; omega)⟩
def mkDone (k : Int) : DoneV := ⟨k, k + 1, mkS (k + 1 + 1), mkS (k + 1 + 1 + 1), k + 1 + 1 + 1 + 1⟩
def x_l_eqDone : FnX := ⟨30, [.tmp 4],
  .seq (.reg [⟨none, some 2, 2, .box (.t 0)⟩,
   ⟨none, some 3, 3, .box (.t 1)⟩,
   ⟨none, some 4, 4, .mv (.k (.one (.pv (.bool false))))⟩])
 (.seq (.seq (.reg [⟨none, some 5, 5, .faddr (.t 2) 0⟩,
   ⟨none, some 6, 6, .load none (.t 5)⟩,
   ⟨none, some 7, 7, .faddr (.t 3) 0⟩,
   ⟨none, some 8, 8, .load none (.t 7)⟩,
   ⟨none, some 9, 9, .bin .neq (.t 6) (.t 8)⟩])
 (.cond 9 (.seq (.reg [⟨none, some 4, 4, .mv (.k (.one (.pv (.bool false))))⟩])
 (.ret)) (.skip)))
 (.seq (.seq (.reg [⟨none, some 10, 10, .faddr (.t 2) 1⟩,
   ⟨none, some 11, 11, .load none (.t 10)⟩,
   ⟨none, some 12, 12, .faddr (.t 3) 1⟩,
   ⟨none, some 13, 13, .load none (.t 12)⟩,
   ⟨none, some 14, 14, .bin .neq (.t 11) (.t 13)⟩])
 (.cond 14 (.seq (.reg [⟨none, some 4, 4, .mv (.k (.one (.pv (.bool false))))⟩])
 (.ret)) (.skip)))
 (.seq (.seq (.reg [⟨none, some 15, 15, .faddr (.t 2) 2⟩,
   ⟨none, some 16, 16, .load none (.t 15)⟩,
   ⟨none, some 17, 17, .faddr (.t 3) 2⟩,
   ⟨none, some 18, 18, .load none (.t 17)⟩,
   ⟨none, some 19, 19, .bin .neq (.t 16) (.t 18)⟩])
 (.cond 19 (.seq (.reg [⟨none, some 4, 4, .mv (.k (.one (.pv (.bool false))))⟩])
 (.ret)) (.skip)))
 (.seq (.seq (.reg [⟨none, some 20, 20, .faddr (.t 2) 3⟩,
   ⟨none, some 21, 21, .load none (.t 20)⟩,
   ⟨none, some 22, 22, .faddr (.t 3) 3⟩,
   ⟨none, some 23, 23, .load none (.t 22)⟩,
   ⟨none, some 24, 24, .bin .neq (.t 21) (.t 23)⟩])
 (.cond 24 (.seq (.reg [⟨none, some 4, 4, .mv (.k (.one (.pv (.bool false))))⟩])
 (.ret)) (.skip)))
 (.seq (.seq (.reg [⟨none, some 25, 25, .faddr (.t 2) 4⟩,
   ⟨none, some 26, 26, .load none (.t 25)⟩,
   ⟨none, some 27, 27, .faddr (.t 3) 4⟩,
   ⟨none, some 28, 28, .load none (.t 27)⟩,
   ⟨none, some 29, 29, .bin .neq (.t 26) (.t 28)⟩])
 (.cond 29 (.seq (.reg [⟨none, some 4, 4, .mv (.k (.one (.pv (.bool false))))⟩])
 (.ret)) (.skip)))
 (.seq (.reg [⟨none, some 4, 4, .mv (.k (.one (.pv (.bool true))))⟩])
 (.ret)))))))⟩
abbrev C_l_eqDone (Te : Nat → List AV → Res → Prop) : Prop := ∀ (x y : DoneV), Te 109 [.agg x.row, .agg y.row] ⟨[.one (bT (decide (x = y)))], [x.row, y.row]⟩
theorem r_l_eqDone {Te : Nat → List AV → Res → Prop} : ∀ (x y : DoneV), RunFn Te x_l_eqDone [.agg x.row, .agg y.row] ⟨[.one (bT (decide (x = y)))], [x.row, y.row]⟩ := by
  intro x y
  refine ⟨by simp -implicitDefEqProofs (maxSteps := 1000000) only [x_l_eqDone, go_sem], ?_⟩
  have key : (x = y) ↔ x.Seq = y.Seq ∧ x.Kind = y.Kind ∧ x.Key = y.Key ∧ x.Text = y.Text ∧ x.Code = y.Code := by cases x; cases y; simp
  simp only [key]
  clear key
  simp -implicitDefEqProofs (maxSteps := 1000000) only [x_l_eqDone, go_sem]
  refine ⟨fun q => ?_, fun q => ?_⟩
  · have n0 : ¬ (x.Seq = y.Seq) := by simpa using q
    simp only [n0, false_and, and_false, true_and, decide_false]
  have e0 : x.Seq = y.Seq := by simpa using q
  clear q
  refine ⟨fun q => ?_, fun q => ?_⟩
  · have n1 : ¬ (x.Kind = y.Kind) := by simpa using q
    simp only [e0, n1, false_and, and_false, true_and, decide_false]
  have e1 : x.Kind = y.Kind := by simpa using q
  clear q
  refine ⟨fun q => ?_, fun q => ?_⟩
  · have n2 : ¬ (x.Key = y.Key) := by simpa using q
    simp only [e0, e1, n2, false_and, and_false, true_and, decide_false]
  have e2 : x.Key = y.Key := by simpa using q
  clear q
  refine ⟨fun q => ?_, fun q => ?_⟩
  · have n3 : ¬ (x.Text = y.Text) := by simpa using q
    simp only [e0, e1, e2, n3, false_and, and_false, true_and, decide_false]
  have e3 : x.Text = y.Text := by simpa using q
  clear q
  refine ⟨fun q => ?_, fun q => ?_⟩
  · have n4 : ¬ (x.Code = y.Code) := by simpa using q
    simp only [e0, e1, e2, e3, n4, false_and, and_false, true_and, decide_false]
  have e4 : x.Code = y.Code := by simpa using q
  clear q
  simp only [e0, e1, e2, e3, e4, true_and, and_true, decide_true]
def x_l_eqDoneS : FnX := ⟨27, [.tmp 4],
  .seq (.reg [⟨none, some 4, 4, .mv (.k (.one (.pv (.bool false))))⟩])
 (.seq (.seq (.reg [⟨none, some 6, 6, .mv (.t 0)⟩,
   ⟨none, some 7, 7, .len (.t 6)⟩,
   ⟨none, some 8, 8, .mv (.t 1)⟩,
   ⟨none, some 9, 9, .len (.t 8)⟩,
   ⟨none, some 10, 10, .bin .neq (.t 7) (.t 9)⟩])
 (.cond 10 (.seq (.reg [⟨none, some 4, 4, .mv (.k (.one (.pv (.bool false))))⟩])
 (.ret)) (.skip)))
 (.seq (.seq (.reg [⟨none, some 5, 5, .mv (.k (.one (.pv (.int .i64 0))))⟩])
 (.block 0 (.loop [0, 1, 5] (.seq (.seq (.reg [⟨none, some 11, 11, .mv (.t 5)⟩,
   ⟨none, some 12, 12, .mv (.t 0)⟩,
   ⟨none, some 13, 13, .len (.t 12)⟩,
   ⟨none, some 14, 14, .bin .lss (.t 11) (.t 13)⟩])
 (.cond 14 (.skip) (.exit 0)))
 (.seq (.block 1 (.seq (.draw [⟨none, some 17, 17, .mv (.t 0)⟩,
   ⟨none, some 18, 18, .mv (.t 5)⟩,
   ⟨none, some 19, 19, .iaddr 5 (.t 17) (.t 18)⟩,
   ⟨none, some 20, 20, .load (some 5) (.t 19)⟩,
   ⟨none, some 21, 21, .mv (.t 1)⟩,
   ⟨none, some 22, 22, .mv (.t 5)⟩,
   ⟨none, some 23, 23, .iaddr 5 (.t 21) (.t 22)⟩,
   ⟨none, some 24, 24, .load (some 5) (.t 23)⟩,
   ⟨none, some 25, 25, .call 109 [0, 0] [(.t 20), (.t 24)]⟩,
   ⟨none, some 26, 26, .not (.t 25)⟩] [[], [], [0, 1], [2], [], [], [4, 5], [6], [3, 7], [8]])
 (.cond 26 (.seq (.reg [⟨none, some 4, 4, .mv (.k (.one (.pv (.bool false))))⟩])
 (.ret)) (.skip))))
 (.reg [⟨none, some 15, 15, .mv (.t 5)⟩,
   ⟨none, some 16, 16, .bin .add (.t 15) (.k (.one (.pv (.int .i64 1))))⟩,
   ⟨none, some 5, 5, .mv (.t 16)⟩]))))))
 (.norm [] (.seq (.reg [⟨none, some 4, 4, .mv (.k (.one (.pv (.bool true))))⟩])
 (.ret)))))⟩
abbrev C_l_eqDoneS (Te : Nat → List AV → Res → Prop) : Prop := ∀ (l m : List DoneV) (hl : l.length ≤ 2 ^ 31), Te 75 [.one (slT false 5 DoneV.row l), .one (slT false 5 DoneV.row m)] ⟨[.one (bT (decide (l = m)))], [[slT false 5 DoneV.row l], [slT false 5 DoneV.row m]]⟩
theorem r_l_eqDoneS {Te : Nat → List AV → Res → Prop} (c_l_eqDone : C_l_eqDone Te) : ∀ (l m : List DoneV) (hl : l.length ≤ 2 ^ 31), RunFn Te x_l_eqDoneS [.one (slT false 5 DoneV.row l), .one (slT false 5 DoneV.row m)] ⟨[.one (bT (decide (l = m)))], [[slT false 5 DoneV.row l], [slT false 5 DoneV.row m]]⟩ := by
  intro l m hl
  refine ⟨by simp -implicitDefEqProofs (maxSteps := 1000000) only [x_l_eqDoneS, go_sem], ?_⟩
  simp -implicitDefEqProofs (maxSteps := 1000000) (disch := omega) only [x_l_eqDoneS, go_sem, IntWalk.i64_in]
  refine ⟨fun h => ?_, fun h => ?_⟩
  · have : l ≠ m := fun e => by simp [e] at h
    simp [this]
  · have hlen : l.length = m.length := by simp at h; omega
    refine loop_of (σ := Nat) (fun i => ⟨[(0, .one (.ro 5 (l.map DoneV.row))), (1, .one (.ro 5 (m.map DoneV.row))), (5, .one (.pv (.int .i64 i)))], [], [(0, [slT false 5 DoneV.row l]), (1, [slT false 5 DoneV.row m])]⟩) (fun i => i ≤ l.length ∧ l.take i = m.take i) (fun i => l.length - i) 0 ?_ ⟨Nat.zero_le _, by simp⟩ ?_
    · simp -implicitDefEqProofs (maxSteps := 1000000) only [go_sem]; rfl
    · intro i ⟨hi, hs⟩
      simp -implicitDefEqProofs (maxSteps := 1000000) only [go_sem]
      refine ⟨fun h => ?_, fun h => ?_⟩
      · have hi' : i < l.length := by simp only [decide_eq_true_eq] at h; omega
        have hj' : i < m.length := by omega
        simp -implicitDefEqProofs (maxSteps := 1000000) only [go_sem, List.getElem?_eq_getElem hi', List.getElem?_eq_getElem hj']
        refine .of (c_l_eqDone _ _) ?_
        simp -implicitDefEqProofs (maxSteps := 1000000) only [go_sem]
        refine ⟨by decide, fun h2 => ?_, fun h2 => ?_⟩
        · have : l ≠ m := fun e => by subst e; simp at h2
          simp [this]
        · refine ⟨i + 1, by rw [IntWalk.i64_in _ (by omega)]; rfl, ⟨hi', same_step hi' hj' hs ?_⟩, by omega⟩
          simpa using h2
      · have hle : l.length ≤ i := by simp only [decide_eq_false_iff_not] at h; omega
        have : l = m := same_end hle (by omega) hs
        simp [this]
def x_l_markDoneS_4 : XCode := .seq (.reg [⟨none, some 42, 42, .mv (.t 0)⟩,
   ⟨none, some 43, 43, .mv (.t 5)⟩,
   ⟨none, some 44, 44, .mv (.t 1)⟩,
   ⟨none, some 45, 45, .iaddr 5 (.t 42) (.t 43)⟩,
   ⟨none, some 46, 46, .faddr (.t 45) 4⟩,
   ⟨none, none, 100005, .store 1 (.t 46) (.t 44)⟩])
 (.reg [⟨none, some 47, 47, .mv (.t 1)⟩,
   ⟨none, some 48, 48, .bin .add (.t 47) (.k (.one (.pv (.int .i64 1))))⟩,
   ⟨none, some 1, 1, .mv (.t 48)⟩])
def x_l_markDoneS_3 : XCode := .seq (.reg [⟨none, some 34, 34, .mv (.t 0)⟩,
   ⟨none, some 35, 35, .mv (.t 5)⟩,
   ⟨none, some 36, 36, .mv (.t 1)⟩,
   ⟨none, some 37, 37, .call 110 [0] [(.t 36)]⟩,
   ⟨none, some 38, 38, .iaddr 5 (.t 34) (.t 35)⟩,
   ⟨none, some 39, 39, .faddr (.t 38) 3⟩,
   ⟨none, none, 100004, .store 1 (.t 39) (.t 37)⟩])
 (.seq (.reg [⟨none, some 40, 40, .mv (.t 1)⟩,
   ⟨none, some 41, 41, .bin .add (.t 40) (.k (.one (.pv (.int .i64 1))))⟩,
   ⟨none, some 1, 1, .mv (.t 41)⟩])
 (x_l_markDoneS_4))
def x_l_markDoneS_2 : XCode := .seq (.reg [⟨none, some 26, 26, .mv (.t 0)⟩,
   ⟨none, some 27, 27, .mv (.t 5)⟩,
   ⟨none, some 28, 28, .mv (.t 1)⟩,
   ⟨none, some 29, 29, .call 110 [0] [(.t 28)]⟩,
   ⟨none, some 30, 30, .iaddr 5 (.t 26) (.t 27)⟩,
   ⟨none, some 31, 31, .faddr (.t 30) 2⟩,
   ⟨none, none, 100003, .store 1 (.t 31) (.t 29)⟩])
 (.seq (.reg [⟨none, some 32, 32, .mv (.t 1)⟩,
   ⟨none, some 33, 33, .bin .add (.t 32) (.k (.one (.pv (.int .i64 1))))⟩,
   ⟨none, some 1, 1, .mv (.t 33)⟩])
 (x_l_markDoneS_3))
def x_l_markDoneS_1 : XCode := .seq (.reg [⟨none, some 19, 19, .mv (.t 0)⟩,
   ⟨none, some 20, 20, .mv (.t 5)⟩,
   ⟨none, some 21, 21, .mv (.t 1)⟩,
   ⟨none, some 22, 22, .iaddr 5 (.t 19) (.t 20)⟩,
   ⟨none, some 23, 23, .faddr (.t 22) 1⟩,
   ⟨none, none, 100002, .store 1 (.t 23) (.t 21)⟩])
 (.seq (.reg [⟨none, some 24, 24, .mv (.t 1)⟩,
   ⟨none, some 25, 25, .bin .add (.t 24) (.k (.one (.pv (.int .i64 1))))⟩,
   ⟨none, some 1, 1, .mv (.t 25)⟩])
 (x_l_markDoneS_2))
def x_l_markDoneS : FnX := ⟨50, [.tmp 4],
  .seq (.reg [⟨none, some 4, 4, .mv (.k (.one (.pv (.int .i64 0))))⟩])
 (.seq (.seq (.reg [⟨none, some 5, 5, .mv (.k (.one (.pv (.int .i64 0))))⟩])
 (.block 0 (.loop [0, 1, 5] (.seq (.seq (.reg [⟨none, some 6, 6, .mv (.t 5)⟩,
   ⟨none, some 7, 7, .mv (.t 0)⟩,
   ⟨none, some 8, 8, .len (.t 7)⟩,
   ⟨none, some 9, 9, .bin .lss (.t 6) (.t 8)⟩])
 (.cond 9 (.skip) (.exit 0)))
 (.seq (.block 1 (.seq (.reg [⟨none, some 12, 12, .mv (.t 0)⟩,
   ⟨none, some 13, 13, .mv (.t 5)⟩,
   ⟨none, some 14, 14, .mv (.t 1)⟩,
   ⟨none, some 15, 15, .iaddr 5 (.t 12) (.t 13)⟩,
   ⟨none, some 16, 16, .faddr (.t 15) 0⟩,
   ⟨none, none, 100001, .store 1 (.t 16) (.t 14)⟩])
 (.seq (.reg [⟨none, some 17, 17, .mv (.t 1)⟩,
   ⟨none, some 18, 18, .bin .add (.t 17) (.k (.one (.pv (.int .i64 1))))⟩,
   ⟨none, some 1, 1, .mv (.t 18)⟩])
 (x_l_markDoneS_1))))
 (.reg [⟨none, some 10, 10, .mv (.t 5)⟩,
   ⟨none, some 11, 11, .bin .add (.t 10) (.k (.one (.pv (.int .i64 1))))⟩,
   ⟨none, some 5, 5, .mv (.t 11)⟩]))))))
 (.norm [1] (.seq (.reg [⟨none, some 49, 49, .mv (.t 1)⟩,
   ⟨none, some 4, 4, .mv (.t 49)⟩])
 (.ret))))⟩
abbrev C_l_markDoneS (Te : Nat → List AV → Res → Prop) : Prop := ∀ (l : List DoneV) (k : Int) (hl : l.length ≤ 2 ^ 31) (hk : 0 ≤ k ∧ k ≤ 2 ^ 46), Te 76 [.one (slT true 5 DoneV.row l), .one (iT k)] ⟨[.one (iT (k + (5 * l.length : Nat)))], [[slT true 5 DoneV.row (marks 5 mkDone l.length k)], [iT k]]⟩
theorem r_l_markDoneS {Te : Nat → List AV → Res → Prop} (c_l_markText : C_l_markText Te) : ∀ (l : List DoneV) (k : Int) (hl : l.length ≤ 2 ^ 31) (hk : 0 ≤ k ∧ k ≤ 2 ^ 46), RunFn Te x_l_markDoneS [.one (slT true 5 DoneV.row l), .one (iT k)] ⟨[.one (iT (k + (5 * l.length : Nat)))], [[slT true 5 DoneV.row (marks 5 mkDone l.length k)], [iT k]]⟩ := by
  intro l k hl hk
  refine ⟨by simp -implicitDefEqProofs (maxSteps := 1000000) only [x_l_markDoneS, go_sem], ?_⟩
  simp -implicitDefEqProofs (maxSteps := 1000000) (disch := omega) only [x_l_markDoneS, go_sem, IntWalk.i64_in]
  refine loop_of (σ := Nat) (fun i => ⟨[(0, .one (.rf 0 0 [] 5 0 l.length)), (1, .one (.pv (.int .i64 (k + (5 * i : Nat))))), (5, .one (.pv (.int .i64 i)))], [], [(0, [.sl true 5 () ((marks 5 mkDone i k).map DoneV.row ++ (l.drop i).map DoneV.row)]), (1, [iT k])]⟩) (fun i => i ≤ l.length) (fun i => l.length - i) 0 ?_ (Nat.zero_le _) ?_
  · simp -implicitDefEqProofs (maxSteps := 1000000) only [go_sem]; simp [marks]
  · intro i hi
    simp -implicitDefEqProofs (maxSteps := 1000000) only [go_sem]
    refine ⟨fun h => ?_, fun h => ?_⟩
    · have hi' : i < l.length := by simp only [decide_eq_true_eq] at h; omega
      try simp -implicitDefEqProofs (maxSteps := 1000000) (disch := omega) only [go_sem, storeAp, setCells, List.length_set, List.set_set, mark_len DoneV.row 5 mkDone l k hi, List.getD_eq_getElem?_getD, mark_get DoneV.row 5 mkDone l k hi', mark_reget DoneV.row 5 mkDone l k hi', Option.getD_some, IntWalk.i64_in]
      repeat (first | refine ⟨by decide, ?_⟩ | refine ⟨decide_eq_true hi', ?_⟩)
      simp -implicitDefEqProofs (maxSteps := 1000000) (disch := omega) only [x_l_markDoneS_1, go_sem, storeAp, setCells, List.length_set, List.set_set, mark_len DoneV.row 5 mkDone l k hi, List.getD_eq_getElem?_getD, mark_get DoneV.row 5 mkDone l k hi', mark_reget DoneV.row 5 mkDone l k hi', Option.getD_some, IntWalk.i64_in]
      repeat (first | refine ⟨by decide, ?_⟩ | refine ⟨decide_eq_true hi', ?_⟩)
      simp -implicitDefEqProofs (maxSteps := 1000000) (disch := omega) only [x_l_markDoneS_2, go_sem, storeAp, setCells, List.length_set, List.set_set, mark_len DoneV.row 5 mkDone l k hi, List.getD_eq_getElem?_getD, mark_get DoneV.row 5 mkDone l k hi', mark_reget DoneV.row 5 mkDone l k hi', Option.getD_some, IntWalk.i64_in]
      repeat (first | refine ⟨by decide, ?_⟩ | refine ⟨decide_eq_true hi', ?_⟩)
      refine .of (c_l_markText _ (by omega)) ?_
      simp -implicitDefEqProofs (maxSteps := 1000000) (disch := omega) only [go_sem, storeAp, setCells, List.length_set, List.set_set, mark_len DoneV.row 5 mkDone l k hi, List.getD_eq_getElem?_getD, mark_get DoneV.row 5 mkDone l k hi', mark_reget DoneV.row 5 mkDone l k hi', Option.getD_some, IntWalk.i64_in]
      repeat (first | refine ⟨by decide, ?_⟩ | refine ⟨decide_eq_true hi', ?_⟩)
      simp -implicitDefEqProofs (maxSteps := 1000000) (disch := omega) only [x_l_markDoneS_3, go_sem, storeAp, setCells, List.length_set, List.set_set, mark_len DoneV.row 5 mkDone l k hi, List.getD_eq_getElem?_getD, mark_get DoneV.row 5 mkDone l k hi', mark_reget DoneV.row 5 mkDone l k hi', Option.getD_some, IntWalk.i64_in]
      repeat (first | refine ⟨by decide, ?_⟩ | refine ⟨decide_eq_true hi', ?_⟩)
      refine .of (c_l_markText _ (by omega)) ?_
      simp -implicitDefEqProofs (maxSteps := 1000000) (disch := omega) only [go_sem, storeAp, setCells, List.length_set, List.set_set, mark_len DoneV.row 5 mkDone l k hi, List.getD_eq_getElem?_getD, mark_get DoneV.row 5 mkDone l k hi', mark_reget DoneV.row 5 mkDone l k hi', Option.getD_some, IntWalk.i64_in]
      repeat (first | refine ⟨by decide, ?_⟩ | refine ⟨decide_eq_true hi', ?_⟩)
      simp -implicitDefEqProofs (maxSteps := 1000000) (disch := omega) only [x_l_markDoneS_4, go_sem, storeAp, setCells, List.length_set, List.set_set, mark_len DoneV.row 5 mkDone l k hi, List.getD_eq_getElem?_getD, mark_get DoneV.row 5 mkDone l k hi', mark_reget DoneV.row 5 mkDone l k hi', Option.getD_some, IntWalk.i64_in]
      repeat (first | refine ⟨by decide, ?_⟩ | refine ⟨decide_eq_true hi', ?_⟩)
      refine ⟨i + 1, ?_, hi', by omega⟩
      rw [← mark_set DoneV.row 5 mkDone l k hi', show k + ((5 * (i + 1) : Nat) : Int) = k + (5 * i : Nat) + 1 + 1 + 1 + 1 + 1 by omega]
      rfl
    · have : i = l.length := by simp only [decide_eq_false_iff_not] at h; omega
      subst this
      simp -implicitDefEqProofs (maxSteps := 1000000) only [go_sem, mark_end]
def x_l_heldDoneS_4 : XCode := .seq (.seq (.reg [⟨none, some 50, 50, .mv (.t 0)⟩,
   ⟨none, some 51, 51, .mv (.t 5)⟩,
   ⟨none, some 52, 52, .iaddr 5 (.t 50) (.t 51)⟩,
   ⟨none, some 53, 53, .faddr (.t 52) 4⟩,
   ⟨none, some 54, 54, .load none (.t 53)⟩,
   ⟨none, some 55, 55, .mv (.t 1)⟩,
   ⟨none, some 56, 56, .bin .neq (.t 54) (.t 55)⟩])
 (.cond 56 (.seq (.reg [⟨none, some 4, 4, .mv (.k (.one (.pv (.int .i64 (-1)))))⟩])
 (.ret)) (.skip)))
 (.reg [⟨none, some 57, 57, .mv (.t 1)⟩,
   ⟨none, some 58, 58, .bin .add (.t 57) (.k (.one (.pv (.int .i64 1))))⟩,
   ⟨none, some 1, 1, .mv (.t 58)⟩])
def x_l_heldDoneS_3 : XCode := .seq (.seq (.draw [⟨none, some 40, 40, .mv (.t 0)⟩,
   ⟨none, some 41, 41, .mv (.t 5)⟩,
   ⟨none, some 42, 42, .iaddr 5 (.t 40) (.t 41)⟩,
   ⟨none, some 43, 43, .faddr (.t 42) 3⟩,
   ⟨none, some 44, 44, .load none (.t 43)⟩,
   ⟨none, some 45, 45, .mv (.t 1)⟩,
   ⟨none, some 46, 46, .call 110 [0] [(.t 45)]⟩,
   ⟨none, some 47, 47, .bin .neq (.t 44) (.t 46)⟩] [[], [], [0, 1], [2], [3], [], [5], [4, 6]])
 (.cond 47 (.seq (.reg [⟨none, some 4, 4, .mv (.k (.one (.pv (.int .i64 (-1)))))⟩])
 (.ret)) (.skip)))
 (.seq (.reg [⟨none, some 48, 48, .mv (.t 1)⟩,
   ⟨none, some 49, 49, .bin .add (.t 48) (.k (.one (.pv (.int .i64 1))))⟩,
   ⟨none, some 1, 1, .mv (.t 49)⟩])
 (x_l_heldDoneS_4))
def x_l_heldDoneS_2 : XCode := .seq (.seq (.draw [⟨none, some 30, 30, .mv (.t 0)⟩,
   ⟨none, some 31, 31, .mv (.t 5)⟩,
   ⟨none, some 32, 32, .iaddr 5 (.t 30) (.t 31)⟩,
   ⟨none, some 33, 33, .faddr (.t 32) 2⟩,
   ⟨none, some 34, 34, .load none (.t 33)⟩,
   ⟨none, some 35, 35, .mv (.t 1)⟩,
   ⟨none, some 36, 36, .call 110 [0] [(.t 35)]⟩,
   ⟨none, some 37, 37, .bin .neq (.t 34) (.t 36)⟩] [[], [], [0, 1], [2], [3], [], [5], [4, 6]])
 (.cond 37 (.seq (.reg [⟨none, some 4, 4, .mv (.k (.one (.pv (.int .i64 (-1)))))⟩])
 (.ret)) (.skip)))
 (.seq (.reg [⟨none, some 38, 38, .mv (.t 1)⟩,
   ⟨none, some 39, 39, .bin .add (.t 38) (.k (.one (.pv (.int .i64 1))))⟩,
   ⟨none, some 1, 1, .mv (.t 39)⟩])
 (x_l_heldDoneS_3))
def x_l_heldDoneS_1 : XCode := .seq (.seq (.reg [⟨none, some 21, 21, .mv (.t 0)⟩,
   ⟨none, some 22, 22, .mv (.t 5)⟩,
   ⟨none, some 23, 23, .iaddr 5 (.t 21) (.t 22)⟩,
   ⟨none, some 24, 24, .faddr (.t 23) 1⟩,
   ⟨none, some 25, 25, .load none (.t 24)⟩,
   ⟨none, some 26, 26, .mv (.t 1)⟩,
   ⟨none, some 27, 27, .bin .neq (.t 25) (.t 26)⟩])
 (.cond 27 (.seq (.reg [⟨none, some 4, 4, .mv (.k (.one (.pv (.int .i64 (-1)))))⟩])
 (.ret)) (.skip)))
 (.seq (.reg [⟨none, some 28, 28, .mv (.t 1)⟩,
   ⟨none, some 29, 29, .bin .add (.t 28) (.k (.one (.pv (.int .i64 1))))⟩,
   ⟨none, some 1, 1, .mv (.t 29)⟩])
 (x_l_heldDoneS_2))
def x_l_heldDoneS : FnX := ⟨60, [.tmp 4],
  .seq (.reg [⟨none, some 4, 4, .mv (.k (.one (.pv (.int .i64 0))))⟩])
 (.seq (.seq (.reg [⟨none, some 5, 5, .mv (.k (.one (.pv (.int .i64 0))))⟩])
 (.block 0 (.loop [0, 1, 5] (.seq (.seq (.reg [⟨none, some 6, 6, .mv (.t 5)⟩,
   ⟨none, some 7, 7, .mv (.t 0)⟩,
   ⟨none, some 8, 8, .len (.t 7)⟩,
   ⟨none, some 9, 9, .bin .lss (.t 6) (.t 8)⟩])
 (.cond 9 (.skip) (.exit 0)))
 (.seq (.block 1 (.seq (.seq (.reg [⟨none, some 12, 12, .mv (.t 0)⟩,
   ⟨none, some 13, 13, .mv (.t 5)⟩,
   ⟨none, some 14, 14, .iaddr 5 (.t 12) (.t 13)⟩,
   ⟨none, some 15, 15, .faddr (.t 14) 0⟩,
   ⟨none, some 16, 16, .load none (.t 15)⟩,
   ⟨none, some 17, 17, .mv (.t 1)⟩,
   ⟨none, some 18, 18, .bin .neq (.t 16) (.t 17)⟩])
 (.cond 18 (.seq (.reg [⟨none, some 4, 4, .mv (.k (.one (.pv (.int .i64 (-1)))))⟩])
 (.ret)) (.skip)))
 (.seq (.reg [⟨none, some 19, 19, .mv (.t 1)⟩,
   ⟨none, some 20, 20, .bin .add (.t 19) (.k (.one (.pv (.int .i64 1))))⟩,
   ⟨none, some 1, 1, .mv (.t 20)⟩])
 (x_l_heldDoneS_1))))
 (.reg [⟨none, some 10, 10, .mv (.t 5)⟩,
   ⟨none, some 11, 11, .bin .add (.t 10) (.k (.one (.pv (.int .i64 1))))⟩,
   ⟨none, some 5, 5, .mv (.t 11)⟩]))))))
 (.norm [1] (.seq (.reg [⟨none, some 59, 59, .mv (.t 1)⟩,
   ⟨none, some 4, 4, .mv (.t 59)⟩])
 (.ret))))⟩
abbrev C_l_heldDoneS (Te : Nat → List AV → Res → Prop) : Prop := ∀ (n : Nat) (k : Int) (hl : n ≤ 2 ^ 31) (hk : 0 ≤ k ∧ k ≤ 2 ^ 46), Te 77 [.one (slT false 5 DoneV.row (marks 5 mkDone n k)), .one (iT k)] ⟨[.one (iT (k + (5 * n : Nat)))], [[slT false 5 DoneV.row (marks 5 mkDone n k)], [iT k]]⟩
theorem r_l_heldDoneS {Te : Nat → List AV → Res → Prop} (c_l_markText : C_l_markText Te) : ∀ (n : Nat) (k : Int) (hl : n ≤ 2 ^ 31) (hk : 0 ≤ k ∧ k ≤ 2 ^ 46), RunFn Te x_l_heldDoneS [.one (slT false 5 DoneV.row (marks 5 mkDone n k)), .one (iT k)] ⟨[.one (iT (k + (5 * n : Nat)))], [[slT false 5 DoneV.row (marks 5 mkDone n k)], [iT k]]⟩ := by
  intro n k hl hk
  refine ⟨by simp -implicitDefEqProofs (maxSteps := 1000000) only [x_l_heldDoneS, go_sem], ?_⟩
  simp -implicitDefEqProofs (maxSteps := 1000000) (disch := omega) only [x_l_heldDoneS, go_sem, IntWalk.i64_in]
  refine loop_of (σ := Nat) (fun i => ⟨[(0, .one (.ro 5 ((marks 5 mkDone n k).map DoneV.row))), (1, .one (.pv (.int .i64 (k + (5 * i : Nat))))), (5, .one (.pv (.int .i64 i)))], [], [(0, [slT false 5 DoneV.row (marks 5 mkDone n k)]), (1, [iT k])]⟩) (fun i => i ≤ n) (fun i => n - i) 0 ?_ (Nat.zero_le _) ?_
  · simp -implicitDefEqProofs (maxSteps := 1000000) only [go_sem]; simp
  · intro i hi
    simp -implicitDefEqProofs (maxSteps := 1000000) only [go_sem, marks_length]
    refine ⟨fun h => ?_, fun h => ?_⟩
    · have hi' : i < n := by simp only [decide_eq_true_eq] at h; omega
      try simp -implicitDefEqProofs (maxSteps := 1000000) (disch := omega) only [go_sem, marks_get 5 mkDone k hi', IntWalk.i64_in, mkDone, bne_self_eq_false, decide_true, Bool.not_true]
      simp -implicitDefEqProofs (maxSteps := 1000000) (disch := omega) only [x_l_heldDoneS_1, go_sem, marks_get 5 mkDone k hi', IntWalk.i64_in, mkDone, bne_self_eq_false, decide_true, Bool.not_true]
      simp -implicitDefEqProofs (maxSteps := 1000000) (disch := omega) only [x_l_heldDoneS_2, go_sem, marks_get 5 mkDone k hi', IntWalk.i64_in, mkDone, bne_self_eq_false, decide_true, Bool.not_true]
      refine .of (c_l_markText _ (by omega)) ?_
      simp -implicitDefEqProofs (maxSteps := 1000000) (disch := omega) only [go_sem, marks_get 5 mkDone k hi', IntWalk.i64_in, mkDone, bne_self_eq_false, decide_true, Bool.not_true]
      repeat (refine ⟨by decide, ?_⟩)
      simp -implicitDefEqProofs (maxSteps := 1000000) (disch := omega) only [x_l_heldDoneS_3, go_sem, marks_get 5 mkDone k hi', IntWalk.i64_in, mkDone, bne_self_eq_false, decide_true, Bool.not_true]
      refine .of (c_l_markText _ (by omega)) ?_
      simp -implicitDefEqProofs (maxSteps := 1000000) (disch := omega) only [go_sem, marks_get 5 mkDone k hi', IntWalk.i64_in, mkDone, bne_self_eq_false, decide_true, Bool.not_true]
      repeat (refine ⟨by decide, ?_⟩)
      simp -implicitDefEqProofs (maxSteps := 1000000) (disch := omega) only [x_l_heldDoneS_4, go_sem, marks_get 5 mkDone k hi', IntWalk.i64_in, mkDone, bne_self_eq_false, decide_true, Bool.not_true]
      refine ⟨i + 1, ?_, hi', by omega⟩
      rw [show k + ((5 * (i + 1) : Nat) : Int) = k + (5 * i : Nat) + 1 + 1 + 1 + 1 + 1 by omega]
      rfl
    · have : i = n := by simp only [decide_eq_false_iff_not] at h; omega
      subst this
      simp -implicitDefEqProofs (maxSteps := 1000000) only [go_sem]
structure ClientV where
  Id : Int
  Seq : Int
  Busy : Bool
  M : Msg
  Dones : List DoneV
  deriving DecidableEq
abbrev ClientV.enc (o : Bool) (x : ClientV) : List T := [iT x.Id, iT x.Seq, bT x.Busy, iT x.M.Kind, iT x.M.From, iT x.M.To, iT x.M.Seq, sT x.M.Key, sT x.M.Text, iT x.M.N, iT x.M.Code, slT o 5 DoneV.row x.Dones]
def ClientV.In (n : Nat) (x : ClientV) : Prop := x.M.In (n) ∧ (x.Dones.length ≤ n ∧ ∀ y ∈ x.Dones, y.In (n))
theorem ClientV.In.mono {x : ClientV} {n m : Nat} (h : x.In n) (hn : n ≤ m) : x.In m := by
  simp only [ClientV.In] at h ⊢
  exact ⟨h.1.mono hn, ⟨Nat.le_trans h.2.1 hn, fun y hy => (h.2.2 y hy).mono hn⟩⟩
def szClient (x : ClientV) (k : Int) : Int := szAll [(szMsg x.M), (szSl szDone x.Dones)] k
theorem szClient_sane (x : ClientV) : Sane (szClient x) := Sane.all (.cons (szMsg_sane _) (.cons (Sane.sl szDone_sane _) .nil))
theorem szClient_in {x : ClientV} {k : Int} {n : Nat} (hk : 0 ≤ k) (hn : k ≤ n) (h : 0 ≤ szClient x k) : x.In n := by
  obtain ⟨⟨j0, a0, b0, c0⟩, ⟨j1, a1, b1, c1⟩, _⟩ := szAll_ex (.cons (szMsg_sane _) (.cons (Sane.sl szDone_sane _) .nil)) hk hn h
  exact ⟨(szMsg_in a0 b0 c0), (szSl_in szDone_sane (fun a j h0 hn h => szDone_in h0 hn h) a1 b1 c1)⟩
def ClientV.Len (x : ClientV) : Prop := x.Dones.length ≤ 2 ^ 31
theorem ClientV.In.len {x : ClientV} {n : Nat} (h : x.In n) (hn : n ≤ 2 ^ 31) : x.Len := by
  obtain ⟨h0, h1⟩ := h
  exact Nat.le_trans h1.1 hn
def ClientV.mark (x : ClientV) (k : Int) : ClientV := ⟨x.Id, x.Seq, x.Busy, x.M, marks 5 mkDone x.Dones.length (k)⟩
def ClientV.far (x : ClientV) (k : Int) : Int := k + (5 * x.Dones.length : Nat)
theorem ClientV.mark_Dones (x : ClientV) (k : Int) : (x.mark k).Dones.length = x.Dones.length := by simp [ClientV.mark, marks_length]
theorem ClientV.take_Dones {β : Type} (f : DoneV → β) (x : ClientV) (k : Int) : ((x.mark k).Dones.map f).take x.Dones.length = (x.mark k).Dones.map f := by rw [← x.mark_Dones k, take_map]
def x_l_eqClient : FnX := ⟨32, [.tmp 4],
  .seq (.reg [⟨none, some 2, 2, .box (.t 0)⟩,
   ⟨none, some 3, 3, .box (.t 1)⟩,
   ⟨none, some 4, 4, .mv (.k (.one (.pv (.bool false))))⟩])
 (.seq (.seq (.reg [⟨none, some 5, 5, .faddr (.t 2) 0⟩,
   ⟨none, some 6, 6, .load none (.t 5)⟩,
   ⟨none, some 7, 7, .faddr (.t 3) 0⟩,
   ⟨none, some 8, 8, .load none (.t 7)⟩,
   ⟨none, some 9, 9, .bin .neq (.t 6) (.t 8)⟩])
 (.cond 9 (.seq (.reg [⟨none, some 4, 4, .mv (.k (.one (.pv (.bool false))))⟩])
 (.ret)) (.skip)))
 (.seq (.seq (.reg [⟨none, some 10, 10, .faddr (.t 2) 1⟩,
   ⟨none, some 11, 11, .load none (.t 10)⟩,
   ⟨none, some 12, 12, .faddr (.t 3) 1⟩,
   ⟨none, some 13, 13, .load none (.t 12)⟩,
   ⟨none, some 14, 14, .bin .neq (.t 11) (.t 13)⟩])
 (.cond 14 (.seq (.reg [⟨none, some 4, 4, .mv (.k (.one (.pv (.bool false))))⟩])
 (.ret)) (.skip)))
 (.seq (.seq (.reg [⟨none, some 15, 15, .faddr (.t 2) 2⟩,
   ⟨none, some 16, 16, .load none (.t 15)⟩,
   ⟨none, some 17, 17, .faddr (.t 3) 2⟩,
   ⟨none, some 18, 18, .load none (.t 17)⟩,
   ⟨none, some 19, 19, .beq true (.t 16) (.t 18)⟩])
 (.cond 19 (.seq (.reg [⟨none, some 4, 4, .mv (.k (.one (.pv (.bool false))))⟩])
 (.ret)) (.skip)))
 (.seq (.seq (.reg [⟨none, some 20, 20, .faddr (.t 2) 3⟩,
   ⟨none, some 21, 21, .load (some 8) (.t 20)⟩,
   ⟨none, some 22, 22, .faddr (.t 3) 3⟩,
   ⟨none, some 23, 23, .load (some 8) (.t 22)⟩,
   ⟨none, some 24, 24, .call 22 [0, 0] [(.t 21), (.t 23)]⟩,
   ⟨none, some 25, 25, .not (.t 24)⟩])
 (.cond 25 (.seq (.reg [⟨none, some 4, 4, .mv (.k (.one (.pv (.bool false))))⟩])
 (.ret)) (.skip)))
 (.seq (.seq (.reg [⟨none, some 26, 26, .faddr (.t 2) 11⟩,
   ⟨none, some 27, 27, .load none (.t 26)⟩,
   ⟨none, some 28, 28, .faddr (.t 3) 11⟩,
   ⟨none, some 29, 29, .load none (.t 28)⟩,
   ⟨none, some 30, 30, .call 75 [0, 0] [(.t 27), (.t 29)]⟩,
   ⟨none, some 31, 31, .not (.t 30)⟩])
 (.cond 31 (.seq (.reg [⟨none, some 4, 4, .mv (.k (.one (.pv (.bool false))))⟩])
 (.ret)) (.skip)))
 (.seq (.reg [⟨none, some 4, 4, .mv (.k (.one (.pv (.bool true))))⟩])
 (.ret)))))))⟩
abbrev C_l_eqClient (Te : Nat → List AV → Res → Prop) : Prop := ∀ (x y : ClientV) (hx : x.Len), Te 13 [.agg (x.enc false), .agg (y.enc false)] ⟨[.one (bT (decide (x = y)))], [(x.enc false), (y.enc false)]⟩
theorem r_l_eqClient {Te : Nat → List AV → Res → Prop} (c_l_eqMsg : C_l_eqMsg Te) (c_l_eqDoneS : C_l_eqDoneS Te) : ∀ (x y : ClientV) (hx : x.Len), RunFn Te x_l_eqClient [.agg (x.enc false), .agg (y.enc false)] ⟨[.one (bT (decide (x = y)))], [(x.enc false), (y.enc false)]⟩ := by
  intro x y hx
  refine ⟨by simp -implicitDefEqProofs (maxSteps := 1000000) only [x_l_eqClient, go_sem], ?_⟩
  have h0 := hx
  have key : (x = y) ↔ x.Id = y.Id ∧ x.Seq = y.Seq ∧ x.Busy = y.Busy ∧ x.M = y.M ∧ x.Dones = y.Dones := by cases x; cases y; simp
  simp only [key]
  clear key
  simp -implicitDefEqProofs (maxSteps := 1000000) only [x_l_eqClient, go_sem]
  refine ⟨fun q => ?_, fun q => ?_⟩
  · have n0 : ¬ (x.Id = y.Id) := by simpa using q
    simp only [n0, false_and, and_false, true_and, decide_false]
  have e0 : x.Id = y.Id := by simpa using q
  clear q
  refine ⟨fun q => ?_, fun q => ?_⟩
  · have n1 : ¬ (x.Seq = y.Seq) := by simpa using q
    simp only [e0, n1, false_and, and_false, true_and, decide_false]
  have e1 : x.Seq = y.Seq := by simpa using q
  clear q
  refine ⟨fun q => ?_, fun q => ?_⟩
  · have n2 : ¬ (x.Busy = y.Busy) := by simpa using q
    simp only [e0, e1, n2, false_and, and_false, true_and, decide_false]
  have e2 : x.Busy = y.Busy := by simpa using q
  clear q
  refine .of (c_l_eqMsg _ _) ?_
  simp -implicitDefEqProofs (maxSteps := 1000000) only [go_sem]
  refine ⟨fun q => ?_, fun q => ?_⟩
  · have n3 : ¬ (x.M = y.M) := by simpa using q
    simp only [e0, e1, e2, n3, false_and, and_false, true_and, decide_false]
  have e3 : x.M = y.M := by simpa using q
  clear q
  refine .of (c_l_eqDoneS _ _ h0) ?_
  simp -implicitDefEqProofs (maxSteps := 1000000) only [go_sem]
  refine ⟨fun q => ?_, fun q => ?_⟩
  · have n4 : ¬ (x.Dones = y.Dones) := by simpa using q
    simp only [e0, e1, e2, e3, n4, false_and, and_false, true_and, decide_false]
  have e4 : x.Dones = y.Dones := by simpa using q
  clear q
  simp only [e0, e1, e2, e3, e4, true_and, and_true, decide_true]
def x_l_markClient : FnX := ⟨10, [.tmp 4],
  .seq (.reg [⟨none, some 2, 2, .box (.t 0)⟩,
   ⟨none, some 4, 4, .mv (.k (.one (.pv (.int .i64 0))))⟩])
 (.seq (.reg [⟨none, some 5, 5, .faddr (.t 2) 11⟩,
   ⟨none, some 6, 6, .load none (.t 5)⟩,
   ⟨none, some 7, 7, .mv (.t 1)⟩,
   ⟨none, some 8, 8, .io 76 (.t 6) [(.t 7)]⟩,
   ⟨none, some 1, 1, .mv (.t 8)⟩])
 (.seq (.reg [⟨none, some 9, 9, .mv (.t 1)⟩,
   ⟨none, some 4, 4, .mv (.t 9)⟩])
 (.ret)))⟩
abbrev C_l_markClient (Te : Nat → List AV → Res → Prop) : Prop := ∀ (x : ClientV) (k : Int) (hx : x.Len) (hk : 0 ≤ k ∧ k ≤ 2 ^ 40), Te 14 [.agg (x.enc true), .one (iT k)] ⟨[.one (iT (x.far k))], [(x.mark k).enc true, [iT k]]⟩
theorem r_l_markClient {Te : Nat → List AV → Res → Prop} (c_l_markDoneS : C_l_markDoneS Te) : ∀ (x : ClientV) (k : Int) (hx : x.Len) (hk : 0 ≤ k ∧ k ≤ 2 ^ 40), RunFn Te x_l_markClient [.agg (x.enc true), .one (iT k)] ⟨[.one (iT (x.far k))], [(x.mark k).enc true, [iT k]]⟩ := by
  intro x k hx hk
  refine ⟨by simp -implicitDefEqProofs (maxSteps := 1000000) only [x_l_markClient, go_sem], ?_⟩
  have h0 := hx
  simp -implicitDefEqProofs (maxSteps := 1000000) only [x_l_markClient, go_sem]
  refine .of (c_l_markDoneS _ _ h0 (by omega)) ?_
  simp -implicitDefEqProofs (maxSteps := 1000000) only [go_sem]
  rfl
def x_l_heldClient : FnX := ⟨12, [.tmp 4],
  .seq (.reg [⟨none, some 2, 2, .box (.t 0)⟩,
   ⟨none, some 4, 4, .mv (.k (.one (.pv (.int .i64 0))))⟩])
 (.seq (.reg [⟨none, some 5, 5, .faddr (.t 2) 11⟩,
   ⟨none, some 6, 6, .load none (.t 5)⟩,
   ⟨none, some 7, 7, .mv (.t 1)⟩,
   ⟨none, some 8, 8, .call 77 [0, 0] [(.t 6), (.t 7)]⟩,
   ⟨none, some 1, 1, .mv (.t 8)⟩])
 (.seq (.seq (.reg [⟨none, some 9, 9, .mv (.t 1)⟩,
   ⟨none, some 10, 10, .bin .lss (.t 9) (.k (.one (.pv (.int .i64 0))))⟩])
 (.cond 10 (.seq (.reg [⟨none, some 4, 4, .mv (.k (.one (.pv (.int .i64 (-1)))))⟩])
 (.ret)) (.skip)))
 (.seq (.reg [⟨none, some 11, 11, .mv (.t 1)⟩,
   ⟨none, some 4, 4, .mv (.t 11)⟩])
 (.ret))))⟩
abbrev C_l_heldClient (Te : Nat → List AV → Res → Prop) : Prop := ∀ (x : ClientV) (k : Int) (hx : x.Len) (hk : 0 ≤ k ∧ k ≤ 2 ^ 40), Te 15 [.agg ((x.mark k).enc false), .one (iT k)] ⟨[.one (iT (x.far k))], [(x.mark k).enc false, [iT k]]⟩
theorem r_l_heldClient {Te : Nat → List AV → Res → Prop} (c_l_heldDoneS : C_l_heldDoneS Te) : ∀ (x : ClientV) (k : Int) (hx : x.Len) (hk : 0 ≤ k ∧ k ≤ 2 ^ 40), RunFn Te x_l_heldClient [.agg ((x.mark k).enc false), .one (iT k)] ⟨[.one (iT (x.far k))], [(x.mark k).enc false, [iT k]]⟩ := by
  intro x k hx hk
  refine ⟨by simp -implicitDefEqProofs (maxSteps := 1000000) only [x_l_heldClient, go_sem], ?_⟩
  have h0 := hx
  simp -implicitDefEqProofs (maxSteps := 1000000) only [x_l_heldClient, go_sem]
  refine .of (c_l_heldDoneS _ _ h0 (by omega)) ?_
  simp -implicitDefEqProofs (maxSteps := 1000000) only [go_sem]
  refine ⟨fun q => by simp only [decide_eq_true_eq] at q; omega, fun _ => ?_⟩
  rfl
end Go.X

/- F -/
namespace Go.X
set_option maxRecDepth 100000
set_option maxHeartbeats 8000000
/-- n lies between. -/
def win (n a b : Int) : Bool := decide (n ≥ a) && decide (n ≤ b)
end Go.X

/- L -/
namespace Go.X
set_option maxRecDepth 100000
set_option maxHeartbeats 8000000
def client0 (id : Int) : ClientV := ⟨id, 0, false, ⟨0, 0, 0, 0, ⟨#[]⟩, ⟨#[]⟩, 0, 0⟩, []⟩
theorem client0_len (id : Int) : (client0 id).Len := by show 0 ≤ 2 ^ 31; decide
def x_i_ClientNew : FnX := ⟨5, [.cell 2 (some 12)],
  .seq (.reg [⟨none, some 2, 2, .alloc [.pv (.int .i64 0), .pv (.int .i64 0), .pv (.bool false), .pv (.int .i64 0), .pv (.int .i64 0), .pv (.int .i64 0), .pv (.int .i64 0), .pv (.string ⟨#[]⟩), .pv (.string ⟨#[]⟩), .pv (.int .i64 0), .pv (.int .i64 0), .nils 5]⟩])
 (.seq (.reg [⟨none, some 3, 3, .mv (.t 0)⟩,
   ⟨none, some 4, 4, .build [.pv (.int .i64 0), .pv (.int .i64 0), .pv (.bool false), .pv (.int .i64 0), .pv (.int .i64 0), .pv (.int .i64 0), .pv (.int .i64 0), .pv (.string ⟨#[]⟩), .pv (.string ⟨#[]⟩), .pv (.int .i64 0), .pv (.int .i64 0), .nils 5] [(0, 1, (.t 3))]⟩,
   ⟨none, none, 100001, .store 12 (.t 2) (.t 4)⟩])
 (.ret))⟩
abbrev C_i_ClientNew (Te : Nat → List AV → Res → Prop) : Prop := ∀ (id : Int), Te 12 [.one (iT id)] ⟨[.agg ((client0 id).enc true)], [[iT id]]⟩
theorem r_i_ClientNew {Te : Nat → List AV → Res → Prop} : ∀ (id : Int), RunFn Te x_i_ClientNew [.one (iT id)] ⟨[.agg ((client0 id).enc true)], [[iT id]]⟩ := by
  intro id
  refine ⟨by simp -implicitDefEqProofs (maxSteps := 1000000) only [x_i_ClientNew, go_sem], ?_⟩
  simp -implicitDefEqProofs (maxSteps := 1000000) only [x_i_ClientNew, go_sem]
  rfl
def x_s_ClientNew : FnX := ⟨5, [.cell 2 (some 12)],
  .seq (.reg [⟨none, some 2, 2, .alloc [.pv (.int .i64 0), .pv (.int .i64 0), .pv (.bool false), .pv (.int .i64 0), .pv (.int .i64 0), .pv (.int .i64 0), .pv (.int .i64 0), .pv (.string ⟨#[]⟩), .pv (.string ⟨#[]⟩), .pv (.int .i64 0), .pv (.int .i64 0), .nils 5]⟩])
 (.seq (.reg [⟨none, some 3, 3, .mv (.t 0)⟩,
   ⟨none, some 4, 4, .build [.pv (.int .i64 0), .pv (.int .i64 0), .pv (.bool false), .pv (.int .i64 0), .pv (.int .i64 0), .pv (.int .i64 0), .pv (.int .i64 0), .pv (.string ⟨#[]⟩), .pv (.string ⟨#[]⟩), .pv (.int .i64 0), .pv (.int .i64 0), .nils 5] [(0, 1, (.t 3))]⟩,
   ⟨none, none, 100001, .store 12 (.t 2) (.t 4)⟩])
 (.ret))⟩
abbrev C_s_ClientNew (Te : Nat → List AV → Res → Prop) : Prop := ∀ (id : Int), Te 11 [.one (iT id)] ⟨[.agg ((client0 id).enc true)], [[iT id]]⟩
theorem r_s_ClientNew {Te : Nat → List AV → Res → Prop} : ∀ (id : Int), RunFn Te x_s_ClientNew [.one (iT id)] ⟨[.agg ((client0 id).enc true)], [[iT id]]⟩ := by
  intro id
  refine ⟨by simp -implicitDefEqProofs (maxSteps := 1000000) only [x_s_ClientNew, go_sem], ?_⟩
  simp -implicitDefEqProofs (maxSteps := 1000000) only [x_s_ClientNew, go_sem]
  rfl
end Go.X

/- W_ClientNew -/
namespace Go.X
set_option maxRecDepth 100000
set_option maxHeartbeats 8000000
def x_l_FnExactClientNew : FnX := ⟨41, [.tmp 2],
  .seq (.reg [⟨none, some 2, 2, .mv (.k (.one (.pv (.bool false))))⟩])
 (.seq (.reg [⟨none, some 8, 8, .mv (.t 0)⟩,
   ⟨none, some 9, 9, .call 11 [0] [(.t 8)]⟩,
   ⟨none, some 3, 3, .alloc [.pv (.int .i64 0), .pv (.int .i64 0), .pv (.bool false), .pv (.int .i64 0), .pv (.int .i64 0), .pv (.int .i64 0), .pv (.int .i64 0), .pv (.string ⟨#[]⟩), .pv (.string ⟨#[]⟩), .pv (.int .i64 0), .pv (.int .i64 0), .nils 5]⟩,
   ⟨none, none, 100001, .store 12 (.t 3) (.t 9)⟩])
 (.seq (.reg [⟨none, some 10, 10, .mv (.t 0)⟩,
   ⟨none, some 11, 11, .call 12 [0] [(.t 10)]⟩,
   ⟨none, some 4, 4, .alloc [.pv (.int .i64 0), .pv (.int .i64 0), .pv (.bool false), .pv (.int .i64 0), .pv (.int .i64 0), .pv (.int .i64 0), .pv (.int .i64 0), .pv (.string ⟨#[]⟩), .pv (.string ⟨#[]⟩), .pv (.int .i64 0), .pv (.int .i64 0), .nils 5]⟩,
   ⟨none, none, 100002, .store 12 (.t 4) (.t 11)⟩])
 (.seq (.seq (.reg [⟨none, some 12, 12, .load (some 12) (.t 4)⟩,
   ⟨none, some 13, 13, .load (some 12) (.t 3)⟩,
   ⟨none, some 14, 14, .call 13 [0, 0] [(.t 12), (.t 13)]⟩,
   ⟨none, some 15, 15, .not (.t 14)⟩])
 (.cond 15 (.seq (.reg [⟨none, some 2, 2, .mv (.k (.one (.pv (.bool false))))⟩])
 (.ret)) (.skip)))
 (.seq (.reg [⟨none, some 5, 5, .mv (.k (.one (.pv (.int .i64 1))))⟩])
 (.seq (.reg [⟨none, some 16, 16, .load (some 12) (.t 4)⟩,
   ⟨none, some 17, 17, .mv (.t 5)⟩,
   ⟨none, some 18, 18, .io 14 (.t 16) [(.t 17)]⟩,
   ⟨none, some 5, 5, .mv (.t 18)⟩])
 (.seq (.reg [⟨none, some 6, 6, .mv (.k (.one (.pv (.int .i64 1))))⟩])
 (.seq (.reg [⟨none, some 19, 19, .load (some 12) (.t 4)⟩,
   ⟨none, some 20, 20, .mv (.t 6)⟩,
   ⟨none, some 21, 21, .call 15 [0, 0] [(.t 19), (.t 20)]⟩,
   ⟨none, some 6, 6, .mv (.t 21)⟩])
 (.seq (.seq (.reg [⟨none, some 22, 22, .mv (.t 6)⟩,
   ⟨none, some 23, 23, .bin .lss (.t 22) (.k (.one (.pv (.int .i64 0))))⟩])
 (.cond 23 (.seq (.reg [⟨none, some 2, 2, .mv (.k (.one (.pv (.bool false))))⟩])
 (.ret)) (.skip)))
 (.seq (.seq (.reg [⟨none, some 24, 24, .mv (.t 6)⟩,
   ⟨none, some 25, 25, .mv (.t 5)⟩,
   ⟨none, some 26, 26, .bin .neq (.t 24) (.t 25)⟩])
 (.cond 26 (.seq (.reg [⟨none, some 2, 2, .mv (.k (.one (.pv (.bool false))))⟩])
 (.ret)) (.skip)))
 (.seq (.reg [⟨none, some 27, 27, .mv (.t 0)⟩,
   ⟨none, some 28, 28, .call 12 [0] [(.t 27)]⟩,
   ⟨none, some 7, 7, .alloc [.pv (.int .i64 0), .pv (.int .i64 0), .pv (.bool false), .pv (.int .i64 0), .pv (.int .i64 0), .pv (.int .i64 0), .pv (.int .i64 0), .pv (.string ⟨#[]⟩), .pv (.string ⟨#[]⟩), .pv (.int .i64 0), .pv (.int .i64 0), .nils 5]⟩,
   ⟨none, none, 100003, .store 12 (.t 7) (.t 28)⟩])
 (.seq (.seq (.reg [⟨none, some 29, 29, .load (some 12) (.t 7)⟩,
   ⟨none, some 30, 30, .load (some 12) (.t 3)⟩,
   ⟨none, some 31, 31, .call 13 [0, 0] [(.t 29), (.t 30)]⟩,
   ⟨none, some 32, 32, .not (.t 31)⟩])
 (.cond 32 (.seq (.reg [⟨none, some 2, 2, .mv (.k (.one (.pv (.bool false))))⟩])
 (.ret)) (.skip)))
 (.seq (.reg [⟨none, some 6, 6, .mv (.k (.one (.pv (.int .i64 1))))⟩])
 (.seq (.reg [⟨none, some 33, 33, .load (some 12) (.t 4)⟩,
   ⟨none, some 34, 34, .mv (.t 6)⟩,
   ⟨none, some 35, 35, .call 15 [0, 0] [(.t 33), (.t 34)]⟩,
   ⟨none, some 6, 6, .mv (.t 35)⟩])
 (.seq (.seq (.reg [⟨none, some 36, 36, .mv (.t 6)⟩,
   ⟨none, some 37, 37, .bin .lss (.t 36) (.k (.one (.pv (.int .i64 0))))⟩])
 (.cond 37 (.seq (.reg [⟨none, some 2, 2, .mv (.k (.one (.pv (.bool false))))⟩])
 (.ret)) (.skip)))
 (.seq (.seq (.reg [⟨none, some 38, 38, .mv (.t 6)⟩,
   ⟨none, some 39, 39, .mv (.t 5)⟩,
   ⟨none, some 40, 40, .bin .neq (.t 38) (.t 39)⟩])
 (.cond 40 (.seq (.reg [⟨none, some 2, 2, .mv (.k (.one (.pv (.bool false))))⟩])
 (.ret)) (.skip)))
 (.seq (.reg [⟨none, some 2, 2, .mv (.k (.one (.pv (.bool true))))⟩])
 (.ret)))))))))))))))))⟩
abbrev C_l_FnExactClientNew (Te : Nat → List AV → Res → Prop) : Prop := ∀ (aId : Int), Te 3 [.one (iT aId)] ⟨[.one (bT true)], [[iT aId]]⟩
theorem r_l_FnExactClientNew {Te : Nat → List AV → Res → Prop} (c_s_ClientNew : C_s_ClientNew Te) (c_i_ClientNew : C_i_ClientNew Te) (c_l_eqClient : C_l_eqClient Te) (c_l_markClient : C_l_markClient Te) (c_l_heldClient : C_l_heldClient Te) : ∀ (aId : Int), RunFn Te x_l_FnExactClientNew [.one (iT aId)] ⟨[.one (bT true)], [[iT aId]]⟩ := by
  intro aId
  refine ⟨by simp -implicitDefEqProofs (maxSteps := 1000000) only [x_l_FnExactClientNew, go_sem], ?_⟩
  simp -implicitDefEqProofs (maxSteps := 1000000) only [x_l_FnExactClientNew, go_sem]
  refine .of (c_s_ClientNew _) ?_
  simp -implicitDefEqProofs (maxSteps := 1000000) only [go_sem, eq_self, bne_self_eq_false, Bool.xor_self, true_implies, false_implies, marks_length, marks_take, take_map, ClientV.mark_Dones, ClientV.take_Dones]
  repeat (first | refine ⟨rfl, ?_⟩ | refine ⟨by decide, ?_⟩ | refine ⟨⟨by decide, by decide⟩, ?_⟩)
  refine .of (c_i_ClientNew _) ?_
  simp -implicitDefEqProofs (maxSteps := 1000000) only [go_sem, eq_self, bne_self_eq_false, Bool.xor_self, true_implies, false_implies, marks_length, marks_take, take_map, ClientV.mark_Dones, ClientV.take_Dones]
  repeat (first | refine ⟨rfl, ?_⟩ | refine ⟨by decide, ?_⟩ | refine ⟨⟨by decide, by decide⟩, ?_⟩)
  refine .of (c_l_eqClient (client0 aId) (client0 aId) (client0_len aId)) ?_
  simp -implicitDefEqProofs (maxSteps := 1000000) only [go_sem, eq_self, bne_self_eq_false, Bool.xor_self, true_implies, false_implies, marks_length, marks_take, take_map, ClientV.mark_Dones, ClientV.take_Dones]
  repeat (first | refine ⟨rfl, ?_⟩ | refine ⟨by decide, ?_⟩ | refine ⟨⟨by decide, by decide⟩, ?_⟩)
  refine .of (c_l_markClient (client0 aId) 1 (client0_len aId) (by omega)) ?_
  simp -implicitDefEqProofs (maxSteps := 1000000) only [go_sem, eq_self, bne_self_eq_false, Bool.xor_self, true_implies, false_implies, marks_length, marks_take, take_map, ClientV.mark_Dones, ClientV.take_Dones]
  repeat (first | refine ⟨rfl, ?_⟩ | refine ⟨by decide, ?_⟩ | refine ⟨⟨by decide, by decide⟩, ?_⟩)
  refine .of (c_l_heldClient (client0 aId) 1 (client0_len aId) (by omega)) ?_
  simp -implicitDefEqProofs (maxSteps := 1000000) only [go_sem, eq_self, bne_self_eq_false, Bool.xor_self, true_implies, false_implies, marks_length, marks_take, take_map, ClientV.mark_Dones, ClientV.take_Dones]
  repeat (first | refine ⟨rfl, ?_⟩ | refine ⟨by decide, ?_⟩ | refine ⟨⟨by decide, by decide⟩, ?_⟩)
  have f_q : decide (((client0 aId).far 1) < 0) = false := decide_eq_false (by simp only [ClientV.far]; omega)
  simp -implicitDefEqProofs (maxSteps := 1000000) only [f_q, go_sem, true_implies, false_implies, marks_length, marks_take, take_map, ClientV.mark_Dones, ClientV.take_Dones]
  repeat (first | refine ⟨rfl, ?_⟩ | refine ⟨by decide, ?_⟩ | refine ⟨⟨by decide, by decide⟩, ?_⟩)
  try (simp -implicitDefEqProofs (maxSteps := 1000000) only [bne_self_eq_false, go_sem, true_implies, false_implies, marks_length, marks_take, take_map, ClientV.mark_Dones, ClientV.take_Dones])
  refine .of (c_i_ClientNew _) ?_
  simp -implicitDefEqProofs (maxSteps := 1000000) only [go_sem, eq_self, bne_self_eq_false, Bool.xor_self, true_implies, false_implies, marks_length, marks_take, take_map, ClientV.mark_Dones, ClientV.take_Dones]
  repeat (first | refine ⟨rfl, ?_⟩ | refine ⟨by decide, ?_⟩ | refine ⟨⟨by decide, by decide⟩, ?_⟩)
  refine .of (c_l_eqClient (client0 aId) (client0 aId) (client0_len aId)) ?_
  simp -implicitDefEqProofs (maxSteps := 1000000) only [go_sem, eq_self, bne_self_eq_false, Bool.xor_self, true_implies, false_implies, marks_length, marks_take, take_map, ClientV.mark_Dones, ClientV.take_Dones]
  repeat (first | refine ⟨rfl, ?_⟩ | refine ⟨by decide, ?_⟩ | refine ⟨⟨by decide, by decide⟩, ?_⟩)
  refine .of (c_l_heldClient (client0 aId) 1 (client0_len aId) (by omega)) ?_
  simp -implicitDefEqProofs (maxSteps := 1000000) only [go_sem, eq_self, bne_self_eq_false, Bool.xor_self, true_implies, false_implies, marks_length, marks_take, take_map, ClientV.mark_Dones, ClientV.take_Dones]
  repeat (first | refine ⟨rfl, ?_⟩ | refine ⟨by decide, ?_⟩ | refine ⟨⟨by decide, by decide⟩, ?_⟩)
  simp -implicitDefEqProofs (maxSteps := 1000000) only [f_q, go_sem, true_implies, false_implies, marks_length, marks_take, take_map, ClientV.mark_Dones, ClientV.take_Dones]
  repeat (first | refine ⟨rfl, ?_⟩ | refine ⟨by decide, ?_⟩ | refine ⟨⟨by decide, by decide⟩, ?_⟩)
  try (simp -implicitDefEqProofs (maxSteps := 1000000) only [bne_self_eq_false, go_sem, true_implies, false_implies, marks_length, marks_take, take_map, ClientV.mark_Dones, ClientV.take_Dones])
end Go.X

