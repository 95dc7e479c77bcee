/- Variables in memory. -/
import Derived.Test.YtihpdefnajimgaaXOps2
namespace Go.X
theorem run_storeCells_fz (P : Program) (q o : Nat) (t : TypeId) (fz : Nat × Nat) : ∀ (vs : List Value) (i : Nat) (cur : Array Value) (w : World), w.heap[q]? = some (.cells cur t fz) → o + i + vs.length ≤ cur.size → (∀ k, k < vs.length → ¬ (fz.1 ≤ o + i + k ∧ o + i + k < fz.2)) → (∀ v ∈ vs, v.oneCell' = true) →
    (storeCells ⟨q, o, none⟩ vs i).run P w = .ok () (w.setRow q (cur.toList.take (o + i) ++ vs ++ cur.toList.drop (o + i + vs.length)).toArray)
  | [], i, cur, w, hg, _, _, _ => by
    simp only [storeCells, List.append_nil, List.length_nil, Nat.add_zero, List.take_append_drop, Array.toArray_toList]
    rw [setRow_self w q cur t fz hg]
    rfl
  | v :: rest, i, cur, w, hg, hl, hf, h1 => by
    have hi : o + i < cur.size := by simp at hl; omega
    have hcell : w.cell? ⟨q, o + i, none⟩ = some cur[o + i] := by simp [World.cell?, hg, hi]
    have hfro : w.frozen? ⟨q, o + i, none⟩ = false := by
      have := hf 0 (by simp)
      simp only [World.frozen?, hg]
      cases fz
      simp at this ⊢
      omega
    have hst : (store ((⟨q, o, none⟩ : Addr).add i) v).run P w = .ok () (w.setRow q (cur.setIfInBounds (o + i) v)) := by
      rw [add_none, run_store P w _ v _ (h1 v (by simp)), hcell]
      simp [hfro, setCell_eq_setRow w q (o + i) cur t fz v hg]
    have ih := run_storeCells_fz P q o t fz rest (i + 1) (cur.setIfInBounds (o + i) v) (w.setRow q (cur.setIfInBounds (o + i) v)) (setRow_heap w q cur _ t _ hg) (by simp at hl ⊢; omega)
      (fun k hk => by have := hf (k + 1) (by simp; omega); rwa [show o + (i + 1) + k = o + i + (k + 1) by omega]) (fun x hx => h1 x (by simp [hx]))
    simp only [storeCells, Sem.run_bind, hst, Result.andThen_ok, ih, setRow_setRow]
    congr 3
    have e := list_seg_step cur.toList (o + i) v rest (by simp at hl ⊢; omega)
    simpa [Array.toList_setIfInBounds, Nat.add_assoc] using e
theorem setRow_same (w : World) (q : Nat) (cs : Array Value) : (w.setRow q cs).os = w.os ∧ (w.setRow q cs).tape = w.tape ∧ (w.setRow q cs).output = w.output ∧ (w.setRow q cs).heap.size = w.heap.size := ⟨rfl, rfl, rfl, by simp [World.setRow]⟩
theorem setRow_step (w : World) (q : Nat) (cs : Array Value) {D : Nat → Prop} (hD : D q) : Step D w (w.setRow q cs) :=
  ⟨rfl, rfl, rfl, by simp [World.setRow], fun b _ hb => setRow_other w q b cs (fun e => hb (by rw [e]; exact hD))⟩

section
variable {P : Program} {X : Ctx} {n : Nat} {g : Gh} {st : St} {hand : List G} {a : Act} {w : World} {α : Type} {Te : Nat → List AV → Res → Prop} {o : Oper} {K : St → Prop} {Q : Exit → Act → World → Prop}
theorem alloc_step (w : World) (ob : Obj) (D : Nat → Prop) : Step D w (w.alloc ob) := ⟨rfl, rfl, rfl, by simp, fun b hb _ => RowKit.Below.heap_alloc w ob b hb⟩
theorem drew_step (w : World) (D : Nat → Prop) : Step D w w.drew := ⟨rfl, rfl, rfl, Nat.le_refl _, fun _ _ _ => rfl⟩
/-- A step that turns nothing that is anybody's. -/
theorem Sim.quiet {w' : World} (h : Sim X n g st hand a w) (hs : Step (fun _ => False) w w') : Sim X n g st hand a w' :=
  h.world (us := []) (us' := []) ⟨hs.os, hs.tape, hs.output, hs.size, fun b hb _ => hs.block b hb id⟩ (fun t ht => by cases ht) (fun b => .inl (Nat.le_refl _))
theorem Step.cels {D : Nat → Prop} {w' : World} (h : Sim X n g st hand a w) (hs : Step (fun _ => False) w w') {cs : List Cel} {us : List Value} (hc : CelsOK X.S g w cs us) : CelsOK X.S g w' cs us :=
  hc.keep (Keeps.refl Never g) (fun b hb => hs.block b (Nat.lt_of_lt_of_le (X.stay b hb).1 h.frame.size) id) (fun c _ => never_cel c)
theorem Sim.newBox (h : Sim X n g st hand a w) {b : Nat} (hb : get st.b b = none) {cs : List Cel} {us : List Value} (e : TypeId) (hc : CelsOK X.S g w cs us) :
    Sim X n (g.setB b ⟨w.heap.size, 0, none⟩) { st with b := rep st.b b cs } hand a (w.alloc (.cells us.toArray e)) := by
  have hs := alloc_step w (.cells us.toArray e) (fun _ => False)
  have h1 := h.quiet hs
  have hg := h.nobox b hb
  have hk : Keeps Never g (g.setB b ⟨w.heap.size, 0, none⟩) := keeps_newb hg
  have hc1 := Step.cels (D := fun _ => False) h hs hc
  refine { frame := h1.frame, defers := h1.defers, tmps := h1.tmps, slots := fun t v ht => SlotOK.keep hk (fun _ _ => rfl) v _ (never_slot v) (fun _ _ _ _ _ h => h) (h1.slots t v ht),
           boxes := fun k ks hk' => ?_, nobox := fun k hk' => ?_, roots := h1.roots, noroot := h1.noroot, reps := h1.reps, held := h1.held, sole := ?_, pb := fun i A hi => by
             have e := h1.pb i A hi
             have : i ≠ b := fun e' => by rw [e', hg] at e; cases e
             simp [Gh.setB, this, e],
           hold := h1.hold, mine := h1.mine }
  · simp only [get_rep_if] at hk'
    split at hk'
    · rename_i ek
      subst ek
      simp at hk'
      subst hk'
      refine ⟨⟨w.heap.size, 0, none⟩, us, by simp [Gh.setB], by simp, fun i u hu => ⟨?_, ?_, ?_⟩, hc1.keep hk (fun _ _ => rfl) (fun c _ => never_cel c), .inl h.frame.size⟩
      · simp only [Nat.zero_add]
        rw [cell_at (heap_alloc_new w _)]
        simpa using hu
      · simp only [Nat.zero_add]; exact World.frozen?_alloc_new ..
      · obtain ⟨hi, _⟩ := List.getElem?_eq_some_iff.1 hu
        have : i < cs.length := by rw [hc.1]; exact hi
        exact (hc.2 i _ u (List.getElem?_eq_getElem this) hu).one
    · rename_i ek
      obtain ⟨A, vs, e1, e2, e3, e4, e5⟩ := h1.boxes k ks hk'
      exact ⟨A, vs, by simp [Gh.setB, ek, e1], e2, e3, e4.keep hk (fun _ _ => rfl) (fun c _ => never_cel c), e5⟩
  · simp only [get_rep_if] at hk'
    split at hk'
    · cases hk'
    · rename_i ek; simp [Gh.setB, ek, h1.nobox k hk']
  · refine h1.sole.upd b (fun j hj => by simp [Gh.setB, hj]) (fun _ _ => rfl) (fun x => ?_)
    by_cases ex : x = w.heap.size
    · subst ex
      have z : ∀ j, g.has w.heap.size j + cntL w.heap.size hand = 0 := fun j => by
        have := fun h0 => h.lt w.heap.size j h0
        omega
      refine .inr ⟨fun j => by have := z j; omega, ?_⟩
      have := z b
      simp only [Gh.has, Gh.setB, bcnt, if_true] at this ⊢
      omega
    · refine .inl ?_
      simp only [Gh.has, Gh.setB, bcnt, if_true]
      rw [if_neg (fun e => ex e.symm)]
      omega
theorem cels_ok {v : SV} {u : Value} {k : List Cel → Prg α} {R : α → St → Prop} {S : Nat → Prop} (hv : SlotOK S g w v u) (hp : runP Te (withCels v k) st R) : ∃ cs us, u.cells = us.toArray ∧ CelsOK S g w cs us ∧ runP Te (k cs) st R := by
  cases v with
  | one c =>
    simp only [SlotOK] at hv
    have h1 := hv.one
    refine ⟨[c], [u], ?_, ⟨rfl, fun i c' u' h h' => ?_⟩, hp⟩
    · cases u <;> simp_all [Value.cells, Value.oneCell']
    · cases i with
      | zero => simp at h h'; subst h; subst h'; exact hv
      | succ i => simp at h
  | agg cs =>
    simp only [SlotOK] at hv
    obtain ⟨us, rfl, hc⟩ := hv
    exact ⟨cs, us, rfl, hc, hp⟩
  | _ => exact hp.elim
theorem do_box {e : TypeId} {x : Operand} {x' : Opd} {id : Nat} (h : Sim X n g st [] a w) (ho : o.op = .box e x) (hx : opdOk x x' = true) (hd : ∀ k, o.dst = some k → k < n)
    (hp : runP Te ((COp.box x').prg o.dst id) st (fun _ st' => K st')) : o.wp P a w (Goal X n K) Q := by
  replace hp := ev_ok h hx hp
  obtain ⟨v, hv, hp⟩ := hp
  replace hp := cels_ok hv hp
  obtain ⟨cs, us, he, hc, hp⟩ := hp
  simp only [runP] at hp
  cases hb : get st.b id with
  | some _ => simp [hb] at hp
  | none =>
    simp only [hb] at hp
    have h1 := h.newBox hb e hc
    refine step_value (v := .pointer (some ⟨w.heap.size, 0, none⟩)) (w' := w.alloc (.cells us.toArray e)) ?_ (fin_ok h1 hd ?_ hp)
    · simp [execOp, ho, Instr.box, newVar, newRow, he]
    · simp only [SlotOK]
      exact ⟨_, by simp [Gh.setB]; rfl, rfl⟩
theorem do_alloc {e : TypeId} {ti : TypeInfo} {zv : Value} {z : List Cel} {id : Nat} (h : Sim X n g st [] a w) (ho : o.op = .alloc e) (hi : P.info? e = some ti) (hz : ti.zero = some zv) (hzc : constL zv.cells.toList z = true) (hd : ∀ k, o.dst = some k → k < n)
    (hp : runP Te ((COp.alloc z).prg o.dst id) st (fun _ st' => K st')) : o.wp P a w (Goal X n K) Q := by
  simp only [COp.prg, runP] at hp
  cases hb : get st.b id with
  | some _ => simp [hb] at hp
  | none =>
    simp only [hb] at hp
    have h1 := h.newBox hb e (constL_ok hzc X.S g w)
    refine step_value (v := .pointer (some ⟨w.heap.size, 0, none⟩)) (w' := w.alloc (.cells zv.cells.toList.toArray e)) ?_ (fin_ok h1 hd ?_ hp)
    · simp [execOp, ho, Instr.alloc, zeroValue, typeInfo, hi, hz, newVar, newRow]
    · simp only [SlotOK]
      exact ⟨_, by simp [Gh.setB]; rfl, rfl⟩
/-- Whole or single, as the type has it. -/
def aggT (P : Program) (t : TypeId) : Option Nat → Bool
  | none => match P.underlying t with
    | some (.struct _) | some (.array _ _) | none => false
    | _ => true
  | some m => (match P.underlying t with
    | some (.struct _) | some (.array _ _) => true
    | _ => false) && ((P.info? t).map (·.size)) == some m
theorem run_isAgg {t : TypeId} (w : World) : (aggT P t none = true → (isAgg t).run P w = .ok false w) ∧ (∀ m, aggT P t (some m) = true → (isAgg t).run P w = .ok true w ∧ (sizeOf t).run P w = .ok m w) := by
  refine ⟨fun h => ?_, fun m h => ?_⟩
  · unfold aggT at h
    cases hu : P.underlying t with
    | none => simp [hu] at h
    | some d => cases d <;> simp [hu] at h <;> simp [isAgg, run_underlying hu]
  · simp only [aggT, Bool.and_eq_true, beq_iff_eq] at h
    obtain ⟨h1, h2⟩ := h
    cases hi : P.info? t with
    | none => simp [hi] at h2
    | some ti =>
      simp [hi] at h2
      refine ⟨?_, by simp [sizeOf, typeInfo, hi, h2]⟩
      cases hu : P.underlying t with
      | none => simp [hu] at h1
      | some d => cases d <;> simp [hu] at h1 <;> simp [isAgg, run_underlying hu]
theorem run_loadOne {t : TypeId} {ad : Addr} {u : Value} (ht : aggT P t none = true) (hc : w.cell? ad = some u) : (Instr.loadAt t (.pointer (some ad))).run P w = .ok u w := by
  simp [Instr.loadAt, Instr.sureAddr, loadVar, (run_isAgg w).1 ht, hc]
theorem run_loadAgg {t : TypeId} {ad : Addr} {us : List Value} (ht : aggT P t (some us.length) = true) (hc : ∀ (j : Nat) (u : Value), us[j]? = some u → w.cell? (ad.add j) = some u) : (Instr.loadAt t (.pointer (some ad))).run P w = .ok (.agg us.toArray) w := by
  obtain ⟨h1, h2⟩ := (run_isAgg (P := P) w).2 _ ht
  have h3 := run_loadCells_list (P := P) (w := w) ad us hc
  simp [Instr.loadAt, Instr.sureAddr, loadVar, h1, h2, h3]
theorem CelsOK.get {S : Nat → Prop} {cs : List Cel} {us : List Value} (h : CelsOK S g w cs us) {k : Nat} {c : Cel} (hc : cs[k]? = some c) : ∃ u, us[k]? = some u ∧ CelOK S g w c u := by
  have hk := (List.getElem?_eq_some_iff.1 hc).1
  have hk' : k < us.length := by rw [← h.1]; exact hk
  exact ⟨us[k], List.getElem?_eq_getElem hk', h.2 k c _ hc (List.getElem?_eq_getElem hk')⟩
theorem CelsOK.drop {S : Nat → Prop} {cs : List Cel} {us : List Value} (h : CelsOK S g w cs us) (k : Nat) : CelsOK S g w (cs.drop k) (us.drop k) :=
  ⟨by simp [h.1], fun i c u hc hu => h.2 (k + i) c u (by simpa using hc) (by simpa using hu)⟩
theorem CelsOK.take {S : Nat → Prop} {cs : List Cel} {us : List Value} (h : CelsOK S g w cs us) (k : Nat) : CelsOK S g w (cs.take k) (us.take k) :=
  ⟨by simp [h.1], fun i c u hc hu => by
    rw [List.getElem?_take] at hc hu
    split at hc
    · rename_i hi; rw [if_pos hi] at hu; exact h.2 i c u hc hu
    · cases hc⟩
theorem CelsOK.append {S : Nat → Prop} {cs ds : List Cel} {us vs : List Value} (h : CelsOK S g w cs us) (h' : CelsOK S g w ds vs) : CelsOK S g w (cs ++ ds) (us ++ vs) :=
  ⟨by simp [h.1, h'.1], fun i c u hc hu => by
    by_cases hi : i < cs.length
    · rw [List.getElem?_append_left hi] at hc
      rw [List.getElem?_append_left (by rw [← h.1]; exact hi)] at hu
      exact h.2 i c u hc hu
    · rw [List.getElem?_append_right (by omega)] at hc
      rw [List.getElem?_append_right (by rw [← h.1]; omega), ← h.1] at hu
      exact h'.2 _ c u hc hu⟩
theorem atP_append {τ : Type} : ∀ (p s : List (Nat × Nat)) (t : Tr τ), atP t (p ++ s) = (atP t p).bind (atP · s)
  | [], s, t => by simp [atP]
  | (i, j) :: p, s, t => by
    simp only [List.cons_append, atP]
    cases t.own with
    | false => simp
    | true =>
      simp only [cond_true]
      cases cellAt t i j with
      | none => simp
      | some d => simpa using atP_append p s d
theorem nodeAt_append {r c : Nat} {p s : List (Nat × Nat)} {m : G} (h : nodeAt g r c p = some m) : nodeAt g r c (p ++ s) = atP m s := by
  unfold nodeAt at h ⊢
  cases hg : g.gr r with
  | none => simp [hg] at h
  | some gs =>
    simp only [hg, Option.bind_some] at h ⊢
    cases ht : gs[c]? with
    | none => simp [ht] at h
    | some t =>
      simp only [ht, Option.bind_some] at h ⊢
      rw [atP_append, h]
      rfl
/-- What stands for a cell, at the cell. -/
theorem celOf_ok {r c : Nat} {p : List (Nat × Nat)} {t : G} (hR : Rp X.S w t) (hr : g.gr r ≠ none) (hn : ∀ m, nodeAt g r c p = some m → m.held = true → m = t) : CelOK X.S g w (celOf r c p (er t)) (hdr t) := by
  cases hR with
  | pv h1 => exact ⟨rfl, h1⟩
  | no h1 => exact h1
  | ro h1 => simpa only [er, celOf, CelOK, hdr] using h1
  | @nil z =>
    simp only [er, celOf, CelOK, hdr, erLL]
    refine ⟨⟨_, _, rfl⟩, hr, fun m h1 h2 => ?_⟩
    rw [hn m h1 h2]
    exact ⟨none, 0, 0, none, rfl, rfl, Nat.le_refl _, fun _ => rfl, fun h => by omega⟩
  | @own z q cap e cur fz rows h1 h2 h3 h4 h5 h6 h7 h8 =>
    simp only [er, celOf, CelOK, hdr, erLL_eq, List.length_map]
    refine ⟨⟨_, _, rfl⟩, hr, fun m h1 h2 => ?_⟩
    rw [hn m h1 h2]
    exact ⟨some ⟨q, 0, none⟩, rows.length, cap, some ⟨q, 0, none⟩, rfl, rfl, by omega, fun _ => rfl, fun _ => ⟨q, rfl, by simp⟩⟩
theorem readO_ok {r c i z : Nat} {p : List (Nat × Nat)} {hv : Value} {rs : List (List G)} {row : List G} (hr : g.gr r ≠ none) (hna : nodeAt g r c p = some (.sl true z hv rs)) (hrow : rs[i]? = some row) (hR : Rp X.S w (.sl true z hv rs)) :
    ∀ (ts : List G) (k : Nat), (∀ (l : Nat) (t : G), ts[l]? = some t → row[k + l]? = some t) → CelsOK X.S g w (readO r c p i k (ts.map er)) (ts.map hdr)
  | [], k, _ => ⟨rfl, fun i c u h => by simp [readO] at h⟩
  | t :: ts, k, h => by
    have h0 := h 0 t rfl
    have ih := readO_ok hr hna hrow hR ts (k + 1) (fun l t' ht' => by have := h (l + 1) t' (by simpa using ht'); rwa [show k + (l + 1) = k + 1 + l by omega] at this)
    have h1 : CelOK X.S g w (celOf r c (p ++ [(i, k)]) (er t)) (hdr t) := by
      refine celOf_ok (hR.cells row (List.mem_of_getElem? hrow) t (List.mem_of_getElem? h0)) hr (fun m hm _ => ?_)
      rw [nodeAt_append hna] at hm
      simp [atP, Tr.own, cellAt, Tr.rows, hrow, show row[k]? = some t from h0] at hm
      exact hm.symm
    have h2 : CelsOK X.S g w [celOf r c (p ++ [(i, k)]) (er t)] [hdr t] := ⟨rfl, fun l c' u hc hu => by
      cases l with
      | zero => simp at hc hu; subst hc; subst hu; exact h1
      | succ l => simp at hc⟩
    simpa [readO] using h2.append ih
theorem readO_length (r c : Nat) (p : List (Nat × Nat)) (i : Nat) : ∀ (ts : List T) (k : Nat), (readO r c p i k ts).length = ts.length
  | [], _ => rfl
  | t :: ts, k => by simp [readO, readO_length r c p i ts (k + 1)]
theorem do_load {t : TypeId} {x : Operand} {x' : Opd} {m : Option Nat} (h : Sim X n g st [] a w) (ho : o.op = .load t x) (ht : aggT P t m = true) (hx : opdOk x x' = true) (hd : ∀ k, o.dst = some k → k < n) (id : Nat)
    (hp : runP Te ((COp.load m x').prg o.dst id) st (fun _ st' => K st')) : o.wp P a w (Goal X n K) Q := by
  replace hp := ev_ok h hx hp
  obtain ⟨v, hv, hp⟩ := hp
  have run1 : ∀ ad u, a.eval x = .pointer (some ad) → m = none → w.cell? ad = some u → (execOp a.eval o).run P w = .ok (.value u) w := fun ad u e em hc => by
    subst em
    simp [execOp, ho, e, run_loadOne ht hc]
  have runM : ∀ ad (us : List Value), a.eval x = .pointer (some ad) → m = some us.length → (∀ (j : Nat) (u : Value), us[j]? = some u → w.cell? (ad.add j) = some u) → (execOp a.eval o).run P w = .ok (.value (.agg us.toArray)) w := fun ad us e em hc => by
    subst em
    simp [execOp, ho, e, run_loadAgg ht hc]
  split at hp
  · rename_i b off
    simp only [SlotOK] at hv
    obtain ⟨A, hA, e⟩ := hv
    simp only [runP] at hp
    cases hb : get st.b b with
    | none => simp [hb] at hp
    | some cs =>
      simp only [hb] at hp
      obtain ⟨A', us, hA', _, hM, hC, _⟩ := h.boxes b cs hb
      rw [hA] at hA'
      simp at hA'
      subst hA'
      split at hp
      · split at hp
        · rename_i c hc
          obtain ⟨u, hu, hcu⟩ := hC.get hc
          exact step_value (run1 _ u e rfl (hM off u hu).1) (fin_ok h hd (by simpa only [SlotOK] using hcu) hp)
        · exact hp.elim
      · rename_i k
        simp only [runP, decide_eq_true_eq] at hp
        obtain ⟨hl, hp⟩ := hp
        have hl2 : ((us.drop off).take k).length = k := by have := hC.1; simp; omega
        refine step_value (runM _ ((us.drop off).take k) e (by rw [hl2]) (fun j u hj => ?_)) (fin_ok h hd ?_ hp)
        · rw [List.getElem?_take] at hj
          split at hj
          · rw [List.getElem?_drop] at hj
            rw [add_none, Nat.add_assoc]
            exact (hM _ u hj).1
          · cases hj
        · simp only [SlotOK]
          exact ⟨_, rfl, (hC.drop off).take k⟩
  · rename_i ts
    simp only [SlotOK] at hv
    obtain ⟨ad, e, hc⟩ := hv
    have cel : ∀ (k : Nat), ∀ (ts : List T) (ad : Addr), (∀ (j : Nat) (t : T), ts[j]? = some t → X.S ad.block ∧ ∃ u, w.cell? (ad.add (k + j)) = some u ∧ Rd X.S w t u) → ∃ us : List Value, us.length = ts.length ∧ (∀ (j : Nat) (u : Value), us[j]? = some u → w.cell? (ad.add (k + j)) = some u) ∧ CelsOK X.S g w (readR ts) us := by
      intro k ts
      induction ts generalizing k with
      | nil => exact fun ad _ => ⟨[], rfl, fun j u h => by simp at h, ⟨rfl, fun i c u h => by simp [readR] at h⟩⟩
      | cons t ts ih =>
        intro ad hc
        obtain ⟨_, u, hu, hr⟩ := hc 0 t rfl
        obtain ⟨us, l, hm, hcs⟩ := ih (k + 1) ad (fun j t' ht' => by have := hc (j + 1) t' (by simpa using ht'); rwa [show k + (j + 1) = k + 1 + j by omega] at this)
        have hone : CelsOK X.S g w (readR [t]) [u] := by
          cases hr with
          | pv h1 =>
            refine ⟨rfl, fun i c v h h' => ?_⟩
            cases i with
            | zero => simp [readR] at h h'; subst h; subst h'; exact ⟨rfl, h1⟩
            | succ i => simp [readR] at h
          | @sl z cap a rows u h1 h2 h3 h4 h5 =>
            refine ⟨rfl, fun i c v h h' => ?_⟩
            cases i with
            | zero => simp [readR] at h h'; subst h; subst h'; exact Rd.sl u h1 h2 h3 h4 h5
            | succ i => simp [readR] at h
        refine ⟨u :: us, by simp [l], fun j v hj => ?_, ?_⟩
        · cases j with
          | zero => simp at hj; subst hj; exact hu
          | succ j => have := hm j v (by simpa using hj); rwa [show k + 1 + j = k + (j + 1) by omega] at this
        · have := hone.append hcs
          have e : readR [t] ++ readR ts = readR (t :: ts) := by cases t <;> simp [readR]
          rw [e] at this
          exact this
    have rl : ∀ ts : List T, (readR ts).length = ts.length := by
      intro ts
      induction ts with
      | nil => rfl
      | cons t ts ih => cases t <;> simp [readR, ih]
    split at hp
    · split at hp
      · rename_i c hc1
        obtain ⟨us, l, hm, hcs⟩ := cel 0 (ts.take 1) ad (fun j t hj => by
          rw [List.getElem?_take] at hj
          split at hj
          · simpa using hc j t hj
          · cases hj)
        rw [hc1] at hcs
        obtain ⟨u, hu, hcu⟩ := hcs.get (k := 0) (c := c) rfl
        exact step_value (run1 _ u e rfl (by have := hm 0 u hu; simpa [add_zero] using this)) (fin_ok h hd (by simpa only [SlotOK] using hcu) hp)
      · exact hp.elim
    · rename_i k
      simp only [runP, decide_eq_true_eq] at hp
      obtain ⟨hl, hp⟩ := hp
      obtain ⟨us, l, hm, hcs⟩ := cel 0 (ts.take k) ad (fun j t hj => by
        rw [List.getElem?_take] at hj
        split at hj
        · simpa using hc j t hj
        · cases hj)
      refine step_value (runM _ us e (by rw [l]; simp; omega) (fun j u hj => by simpa using hm j u hj)) (fin_ok h hd ?_ hp)
      simp only [SlotOK]
      exact ⟨us, rfl, hcs⟩
  · rename_i r c p z i j
    simp only [SlotOK] at hv
    obtain ⟨_, hrr, hf⟩ := hv
    simp only [runP] at hp
    cases hr : get st.r r with
    | none => simp [hr] at hp
    | some cs =>
      simp only [hr, node] at hp
      split at hp
      · rename_i z2 hh rows hn
        simp only [runP, beq_iff_eq] at hp
        obtain ⟨rfl, hp⟩ := hp
        obtain ⟨gs, t0, hv', rs, hg, rfl, ht0, hm0, rfl, hna, hR, hRm⟩ := h.node hr hn
        obtain ⟨q, hn', hc, e2, e⟩ := hf _ hna rfl
        simp only [hdr] at e2
        subst e2
        have rowE : (rs.map (·.map er)).getD i [] = (rs.getD i []).map er := by
          simp only [List.getD_eq_getElem?_getD, List.getElem?_map]
          cases rs[i]? <;> rfl
        rw [rowE, ← List.map_drop] at hp
        cases hRm with
        | @own _ _ cap e' cur fz _ hg0 hz hl hmx hs0 hrl hd0 hcel =>
          have main : ∀ k : Nat, ((rs.getD i []).drop j).length ≥ k → k ≠ 0 → ∃ row, rs[i]? = some row ∧ row = rs.getD i [] ∧ CelsOK X.S g w (readO r c p i j ((((rs.getD i []).drop j).take k).map er)) ((((rs.getD i []).drop j).take k).map hdr) ∧
              ∀ (l : Nat) (u : Value), ((((rs.getD i []).drop j).take k).map hdr)[l]? = some u → w.cell? ((⟨q, i * z2 + j, none⟩ : Addr).add l) = some u := by
            intro k hk hk0
            cases hrow : rs[i]? with
            | none =>
              rw [List.getD_eq_getElem?_getD, hrow] at hk
              simp at hk
              omega
            | some row =>
              have er0 : rs.getD i [] = row := by rw [List.getD_eq_getElem?_getD, hrow]; rfl
              have sub : ∀ (l : Nat) (t : G), ((row.drop j).take k)[l]? = some t → row[j + l]? = some t := fun l t hl => by
                rw [List.getElem?_take] at hl
                split at hl
                · rwa [List.getElem?_drop] at hl
                · cases hl
              refine ⟨row, rfl, er0.symm, ?_, ?_⟩
              · rw [er0]
                exact readO_ok hrr hna hrow (.own hg0 hz hl hmx hs0 hrl hd0 hcel) _ j sub
              · intro l u hu
                rw [er0, List.getElem?_map] at hu
                cases ht : ((row.drop j).take k)[l]? with
                | none => simp [ht] at hu
                | some t1 =>
                  simp [ht] at hu
                  subst hu
                  have := hds_get i (j + l) row t1 hrl hrow (sub l t1 ht)
                  rw [← hd0] at this
                  have := take_get this
                  rw [add_none, cell_at hg0, Nat.add_assoc]
                  simpa using this
          split at hp
          · split at hp
            · rename_i x0 hx0
              have hlen : ((rs.getD i []).drop j).length ≥ 1 := by
                have := congrArg List.length hx0
                rw [← List.map_take, readO_length] at this
                simp at this
                simp
                omega
              obtain ⟨row, _, _, m1, m2⟩ := main 1 hlen (by omega)
              rw [← List.map_take] at hx0
              rw [hx0] at m1
              obtain ⟨u, hu, hcu⟩ := m1.get (k := 0) (c := x0) rfl
              exact step_value (run1 _ u e rfl (by have := m2 0 u hu; simpa [add_zero] using this)) (fin_ok h hd (by simpa only [SlotOK] using hcu) hp)
            · exact hp.elim
          · rename_i k
            simp only [runP, decide_eq_true_eq, List.length_map] at hp
            obtain ⟨hl0, hp⟩ := hp
            by_cases hk0 : k = 0
            · subst hk0
              refine step_value (runM _ [] e rfl (fun l u hu => by simp at hu)) (fin_ok h hd ?_ hp)
              simp only [SlotOK]
              exact ⟨[], rfl, rfl, fun i c u h => by simp [readO] at h⟩
            · have hlen : ((rs.getD i []).drop j).length ≥ k := by rw [List.length_drop]; omega
              obtain ⟨row, _, _, m1, m2⟩ := main k hlen hk0
              refine step_value (runM _ ((((rs.getD i []).drop j).take k).map hdr) e (by rw [List.length_map, List.length_take]; rw [Nat.min_eq_left hlen]) m2) (fin_ok h hd ?_ hp)
              simp only [SlotOK]
              refine ⟨_, rfl, ?_⟩
              rw [← List.map_take]
              exact m1
      · exact hp.elim
  · exact hp.elim
end
end Go.X
