/- Literals: structs and slices. -/
import Derived.Test.YtihpdefnajimgaaXOps6
namespace Go.X
section
variable {P : Program} {X : Ctx} {n : Nat} {g : Gh} {st : St} {hand : List G} {a : Act} {w : World} {α : Type} {Te : Nat → List AV → Res → Prop} {o : Oper} {K : St → Prop} {Q : Exit → Act → World → Prop}
theorem foldset (off : Nat) : ∀ (us : List Value) (k : Nat) (cs : Array Value), off + k + us.length ≤ cs.size → ((us.zipIdx k).foldl (fun cs (x : Value × Nat) => cs.setIfInBounds (off + x.2) x.1) cs).toList = cs.toList.take (off + k) ++ us ++ cs.toList.drop (off + k + us.length)
  | [], k, cs, _ => by simp
  | u :: us, k, cs, h => by
    simp only [List.zipIdx_cons, List.foldl_cons]
    rw [foldset off us (k + 1) _ (by simp at h ⊢; omega)]
    have e := list_seg_step cs.toList (off + k) u us (by simp at h ⊢; omega)
    simpa [Array.toList_setIfInBounds, Nat.add_assoc] using e
theorem fill_step {place : Nat → Option (Nat × Nat)} {cells : Array Value} {i off : Nat} {v : Value} {rest : List (Nat × Value)} (hp : place i = some (off, v.cells.size)) (hl : off + v.cells.size ≤ cells.size) :
    Instr.fill place cells ((i, v) :: rest) = Instr.fill place (cells.toList.take off ++ v.cells.toList ++ cells.toList.drop (off + v.cells.size)).toArray rest := by
  simp only [Instr.fill, hp]
  rw [if_neg (by simp; omega)]
  congr 1
  apply Array.ext'
  have := foldset off v.cells.toList 0 cells (by simpa using hl)
  simp only [Nat.add_zero, Array.length_toList] at this
  rw [← Array.foldl_toList, Array.toList_zipIdx]
  rw [List.toList_toArray]
  exact this
def opdsOk : List Operand → List Opd → Bool
  | [], [] => true
  | x :: xs, y :: ys => opdOk x y && opdsOk xs ys
  | _, _ => false
theorem evL_ok {R : α → St → Prop} : ∀ {xs : List Operand} {ys : List Opd} {k : List SV → Prg α}, Sim X n g st hand a w → opdsOk xs ys = true → runP Te (evL ys k) st R → ∃ vs, SlotsOK X.S g w vs (xs.map a.eval) ∧ runP Te (k vs) st R
  | [], [], k, _, _, hp => ⟨[], by simp [SlotsOK], hp⟩
  | x :: xs, y :: ys, k, h, ho, hp => by
    simp only [opdsOk, Bool.and_eq_true] at ho
    obtain ⟨v, hv, hp1⟩ := ev_ok h ho.1 hp
    obtain ⟨vs, hvs, hp2⟩ := evL_ok h ho.2 hp1
    exact ⟨v :: vs, by simp [SlotsOK, hv, hvs], hp2⟩
  | [], _ :: _, _, _, ho, _ => by simp [opdsOk] at ho
  | _ :: _, [], _, _, ho, _ => by simp [opdsOk] at ho
theorem takeRows_ok {R : α → St → Prop} : ∀ {vs : List SV} {us : List Value} {k : List (List T) → Prg α} {g : Gh} {st : St} {hand : List G}, Sim X n g st hand a w → SlotsOK X.S g w vs us → runP Te (takeRows vs k) st R →
    ∃ (g' : Gh) (st' : St) (rows : List (List G)), Sim X n g' st' (rows.flatten ++ hand) a w ∧ Keeps Never g g' ∧ rows.map (·.map hdr) = us.map (·.cells.toList) ∧ runP Te (k (rows.map (·.map er))) st' R
  | [], us, k, g, st, hand, h, hs, hp => by
    cases us with
    | nil => exact ⟨g, st, [], h, Keeps.refl _ _, rfl, hp⟩
    | cons => simp [SlotsOK] at hs
  | v :: vs, [], k, g, st, hand, h, hs, hp => by simp [SlotsOK] at hs
  | v :: vs, u :: us, k, g, st, hand, h, hs, hp => by
    simp only [SlotsOK] at hs
    simp only [takeRows] at hp
    obtain ⟨cs, ws, e0, hc, hp1⟩ := cels_ok hs.1 hp
    obtain ⟨g1, st1, ts, h1, k1, e1, hp2, _, _, _⟩ := takes_ok h hc hp1
    obtain ⟨g2, st2, rows, h2, k2, e2, hp3⟩ := takeRows_ok h1 (SlotsOK.keep k1 (fun _ _ => rfl) (fun _ _ _ h => h) vs us hs.2) hp2
    refine ⟨g2, st2, ts :: rows, h2.sub (fun t ht => ?_) (fun b => ?_), k1.trans k2, by simp [e1, e2, e0], hp3⟩
    · simp only [List.flatten_cons, List.mem_append] at ht ⊢
      rcases ht with (h | h) | h
      · exact .inr (.inl h)
      · exact .inl h
      · exact .inr (.inr h)
    · simp only [List.flatten_cons, cntL_append]; omega
theorem fill_seq {z : Nat} : ∀ (us : List Value) (k : Nat) (cells : Array Value), (∀ u ∈ us, u.cells.size = z) → cells.size = (k + us.length) * z →
    ∃ cells', Instr.fill (fun i => some (i * z, z)) cells ((us.zipIdx k).map fun x => (x.2, x.1)) = some cells' ∧ cells'.toList = cells.toList.take (k * z) ++ us.flatMap (·.cells.toList)
  | [], k, cells, _, hs => ⟨cells, rfl, by
    rw [List.flatMap_nil, List.append_nil, List.take_of_length_le]
    simp at hs
    rw [Array.length_toList, hs]
    exact Nat.le_refl _⟩
  | u :: us, k, cells, hz, hs => by
    have hu := hz u (List.mem_cons_self ..)
    have hs' : cells.size = k * z + z + us.length * z := by rw [hs, List.length_cons, Nat.add_mul, Nat.add_mul]; omega
    have hst := fill_step (place := fun i => some (i * z, z)) (cells := cells) (i := k) (off := k * z) (v := u) (rest := ((us.zipIdx (k + 1)).map fun x => (x.2, x.1))) (by simp [hu]) (by omega)
    have hl : ((cells.toList.take (k * z) ++ u.cells.toList ++ cells.toList.drop (k * z + u.cells.size)).toArray).size = (k + 1 + us.length) * z := by
      rw [Nat.add_mul, Nat.add_mul]
      simp
      omega
    obtain ⟨cells', h1, h2⟩ := fill_seq us (k + 1) _ (fun u hu => hz u (List.mem_cons_of_mem _ hu)) hl
    refine ⟨cells', ?_, ?_⟩
    · simp only [List.zipIdx_cons, List.map_cons]
      rw [hst]
      exact h1
    · rw [h2]
      have e : (k + 1) * z = (cells.toList.take (k * z) ++ u.cells.toList).length := by
        rw [Nat.add_mul]
        simp [hu]
        omega
      rw [e, List.take_left]
      simp
theorem hds_flat (rows : List (List G)) : hds rows = (rows.map (·.map hdr)).flatten := by simp [hds, List.flatMap]
theorem do_bslice {t e : TypeId} {ti : TypeInfo} {zv : Value} {z m d : Nat} {parts : Array (Nat × Operand)} {ys : List Opd} (h : Sim X n g st [] a w) (ho : o.op = .buildSlice t m parts) (ht : P.underlying t = some (.slice e)) (hi : P.info? e = some ti) (hz : ti.zero = some zv) (hsz : ti.size = z) (hz0 : 0 < z)
    (hm : parts.toList.map (·.1) = List.range m) (hx : opdsOk (parts.toList.map (·.2)) ys = true) (hdst : o.dst = some d) (hdn : d < n) (hp : runP Te ((COp.bslice z ys).prg o.dst d) st (fun _ st' => K st')) : o.wp P a w (Goal X n K) Q := by
  subst hsz
  replace hp := evL_ok h hx hp
  obtain ⟨vs, hv, hp⟩ := hp
  replace hp := takeRows_ok h hv hp
  obtain ⟨g', st', rows, h1, k1, e1, hp⟩ := hp
  simp only [runP, Bool.and_eq_true, decide_eq_true_eq, List.length_map] at hp
  obtain ⟨⟨hw, hl⟩, hp⟩ := hp
  have hrl : ∀ r ∈ rows, r.length = ti.size := fun r hr => by
    have := List.all_eq_true.1 hw (r.map er) (List.mem_map.2 ⟨r, hr, rfl⟩)
    simpa using this
  have hrm : rows.length = m := by
    have := congrArg List.length e1
    have h2 := congrArg List.length hm
    simp at this h2
    omega
  have huz : ∀ u ∈ (parts.toList.map (·.2)).map a.eval, u.cells.size = ti.size := fun u hu => by
    have : u.cells.toList ∈ rows.map (·.map hdr) := by rw [e1]; exact List.mem_map.2 ⟨u, hu, rfl⟩
    obtain ⟨r, hr, e⟩ := List.mem_map.1 this
    rw [← Array.length_toList, ← e, List.length_map]
    exact hrl r hr
  have hpl : ((parts.toList.map (·.2)).map a.eval).length = m := by
    have h2 := congrArg List.length hm
    simpa using h2
  have hparts : (parts.map fun x => (x.1, a.eval x.2)).toList = ((((parts.toList.map (·.2)).map a.eval).zipIdx 0).map fun x => (x.2, x.1)) := by
    rw [Array.toList_map]
    apply List.ext_getElem?
    intro i
    rw [List.getElem?_map, List.getElem?_map, List.getElem?_zipIdx, List.getElem?_map, List.getElem?_map]
    cases hpi : parts.toList[i]? with
    | none => simp
    | some q =>
      have h3 : (parts.toList.map (·.1))[i]? = some q.1 := by rw [List.getElem?_map, hpi]; rfl
      rw [hm] at h3
      have h4 : q.1 = i := by
        obtain ⟨hlt, e⟩ := List.getElem?_eq_some_iff.1 h3
        simpa using e.symm
      simp [h4]
  obtain ⟨cells', f1, f2⟩ := fill_seq (z := ti.size) ((parts.toList.map (·.2)).map a.eval) 0 ((Array.range (m * ti.size)).map ((if m * ti.size = 0 then #[] else zv.cells)[· % (if m * ti.size = 0 then #[] else zv.cells).size]!)) huz (by simp only [Nat.zero_add, hpl]; simp)
  have f3 : cells'.toList = hds rows := by
    rw [f2, hds_flat, e1]
    simp [List.flatMap]
  have hcs : cells'.size = m * ti.size := by
    rw [← Array.length_toList, f3, hds_length hrl, hrm]
  refine newArr_ok (g := g') (rs := rows) (cap := m) (z := ti.size) (cur := cells') (e := e) (fz := (0, 0)) (w1 := w.alloc (.cells cells' e)) (by simpa using h1) (alloc_step w _ _) (heap_alloc_new w _) (fun o _ => by omega) (by omega) ?_ hcs hrl ?_ ?_ hdst hdn rfl hp
  · have : m ≤ rows.length * ti.size := by rw [hrm]; exact Nat.le_mul_of_pos_right m hz0
    simp only [maxLen]
    omega
  · rw [f3]
    exact List.take_of_length_le (by rw [hds_length hrl]; exact Nat.le_refl _)
  · rw [hrm]
    have hle : ¬ (16777216 < m * ti.size) := by rw [← hrm]; omega
    rw [← hparts, Array.toList_map] at f1
    have z0 : ∀ f : Nat → Value, (Array.range 0).map f = #[] := fun f => by simp [Array.range_zero']
    by_cases h0 : m * ti.size = 0
    · simp only [h0, if_true, z0] at f1
      simp [execOp, ho, Instr.buildSlice, run_underlying ht, sizeOf, typeInfo, hi, h0, z0, f1, newRow]
    · simp only [h0, if_false] at f1
      simp [execOp, ho, Instr.buildSlice, run_underlying ht, sizeOf, typeInfo, zeroValue, hi, hz, h0, hle, f1, newRow]
/-! ### Struct and array values -/
def psOk : List (Nat × Operand) → List (Nat × Nat × Opd) → (Nat → Option (Nat × Nat)) → Bool
  | [], [], _ => true
  | (i, x) :: xs, (off, m, y) :: ys, place => place i == some (off, m) && opdOk x y && psOk xs ys place
  | _, _, _ => false
theorem evPs_ok {R : α → St → Prop} {place : Nat → Option (Nat × Nat)} : ∀ {xs : List (Nat × Operand)} {ys : List (Nat × Nat × Opd)} {k : List (Nat × Nat × SV) → Prg α}, Sim X n g st hand a w → psOk xs ys place = true → runP Te (evPs ys k) st R →
    ∃ vs : List (Nat × Nat × SV), SlotsOK X.S g w (vs.map (·.2.2)) (xs.map fun x => a.eval x.2) ∧ xs.map (fun x => place x.1) = vs.map (fun v => some (v.1, v.2.1)) ∧ runP Te (k vs) st R
  | [], [], k, _, _, hp => ⟨[], by simp [SlotsOK], rfl, hp⟩
  | (i, x) :: xs, (off, m, y) :: ys, k, h, ho, hp => by
    simp only [psOk, Bool.and_eq_true, beq_iff_eq] at ho
    obtain ⟨v, hv, hp1⟩ := ev_ok h ho.1.2 hp
    obtain ⟨vs, hvs, e, hp2⟩ := evPs_ok h ho.2 hp1
    exact ⟨(off, m, v) :: vs, by simp [SlotsOK, hv, hvs], by simp [ho.1.1, e], hp2⟩
  | [], _ :: _, _, _, ho, _ => by simp [psOk] at ho
  | _ :: _, [], _, _, ho, _ => by simp [psOk] at ho
theorem fillC_ok {place : Nat → Option (Nat × Nat)} : ∀ (vs : List (Nat × Nat × SV)) (xs : List (Nat × Value)) (z : List Cel) (cells : Array Value) (cs : List Cel), SlotsOK X.S g w (vs.map (·.2.2)) (xs.map (·.2)) → xs.map (fun x => place x.1) = vs.map (fun v => some (v.1, v.2.1)) → CelsOK X.S g w z cells.toList → fillC vs z = some cs →
    ∃ cells', Instr.fill place cells xs = some cells' ∧ CelsOK X.S g w cs cells'.toList
  | [], [], z, cells, cs, _, _, hz, hf => by simp [fillC] at hf; subst hf; exact ⟨cells, rfl, hz⟩
  | (off, m, v) :: vs, (i, u) :: xs, z, cells, cs, hs, hpl, hz, hf => by
    simp only [List.map_cons, SlotsOK] at hs
    simp only [List.map_cons, List.cons.injEq] at hpl
    simp only [fillC] at hf
    cases hvc : v.cels with
    | none => simp [hvc] at hf
    | some ds =>
      simp only [hvc, Option.bind_some] at hf
      cases hb : (ds.length == m && decide (off + ds.length ≤ z.length)) with
      | false => simp [hb] at hf
      | true =>
        simp only [hb, cond_true] at hf
        simp only [Bool.and_eq_true, beq_iff_eq, decide_eq_true_eq] at hb
        obtain ⟨rfl, hl⟩ := hb
        obtain ⟨cs', us, e0, hc, hq⟩ := cels_ok (α := Unit) (Te := fun _ _ _ => True) (st := ⟨[], [], []⟩) (k := fun c => .chk (c.length == ds.length) (.done ())) (R := fun _ _ => True) hs.1 (by simp [withCels, hvc, runP])
        have hds : cs' = ds ∨ True := .inr trivial
        have hc' : CelsOK X.S g w ds us := by
          cases v with
          | one c =>
            simp [SV.cels] at hvc
            subst hvc
            have h1 := hs.1
            simp only [SlotOK] at h1
            have h2 := h1.one
            have : us = [u] := by
              have : u.cells = #[u] := by cases u <;> simp_all [Value.cells, Value.oneCell']
              rw [this] at e0
              simpa using (congrArg Array.toList e0).symm
            subst this
            exact ⟨rfl, fun k c' u' h h' => by
              cases k with
              | zero => simp at h h'; subst h; subst h'; exact h1
              | succ k => simp at h⟩
          | agg ds' =>
            simp [SV.cels] at hvc
            subst hvc
            have h1 := hs.1
            simp only [SlotOK] at h1
            obtain ⟨us', rfl, h3⟩ := h1
            have : us = us' := by simpa [Value.cells] using (congrArg Array.toList e0).symm
            subst this
            exact h3
          | _ => simp [SV.cels] at hvc
        have hus : u.cells.size = ds.length := by rw [e0, List.size_toArray, ← hc'.1]
        have hcl : cells.size = z.length := by rw [hz.1, Array.length_toList]
        have hst := fill_step (place := place) (cells := cells) (i := i) (off := off) (v := u) (rest := xs) (by rw [hus]; exact hpl.1) (by omega)
        have hz' : CelsOK X.S g w (z.take off ++ ds ++ z.drop (off + ds.length)) ((cells.toList.take off ++ u.cells.toList ++ cells.toList.drop (off + u.cells.size)).toArray).toList := by
          rw [hus]
          simpa [e0] using ((hz.take off).append hc').append (hz.drop (off + ds.length))
        obtain ⟨cells', h1, h2⟩ := fillC_ok vs xs _ _ cs hs.2 hpl.2 hz' hf
        exact ⟨cells', by rw [hst]; exact h1, h2⟩
  | [], _ :: _, _, _, _, hs, _, _, _ => by simp [SlotsOK] at hs
  | _ :: _, [], _, _, _, hs, _, _, _ => by simp [SlotsOK] at hs
theorem do_build {t : TypeId} {zv : Value} {z : List Cel} {parts : Array (Nat × Operand)} {ys : List (Nat × Nat × Opd)} {place : Nat → Option (Nat × Nat)} (h : Sim X n g st [] a w) (ho : o.op = .build t parts) (hzc : constL zv.cells.toList z = true)
    (hb : ∀ xs, P.built t xs = Instr.fill place zv.cells xs) (hx : psOk parts.toList ys place = true) (hd : ∀ k, o.dst = some k → k < n) (id : Nat)
    (hp : runP Te ((COp.build z ys).prg o.dst id) st (fun _ st' => K st')) : o.wp P a w (Goal X n K) Q := by
  replace hp := evPs_ok h hx hp
  obtain ⟨vs, hv, hpl, hp⟩ := hp
  split at hp
  · rename_i cs hf
    obtain ⟨cells, f1, f2⟩ := fillC_ok (X := X) (g := g) (w := w) (place := place) vs (parts.toList.map fun x => (x.1, a.eval x.2)) z zv.cells cs (by rw [List.map_map]; exact hv) (by rw [List.map_map]; exact hpl) (constL_ok hzc X.S g w) hf
    refine step_value (v := .agg cells) (w' := w) ?_ (fin_ok h hd ?_ hp)
    · have hbt : P.built t (parts.map fun x => (x.1, a.eval x.2)).toList = some cells := by rw [hb, Array.toList_map]; exact f1
      simp only [execOp, ho, Sem.run_bind, run_build (P := P) w t (parts.map fun x => (x.1, a.eval x.2)) cells hbt, Result.andThen_ok]
      rfl
    · simp only [SlotOK]
      exact ⟨cells.toList, by simp, f2⟩
  · exact hp.elim
end
end Go.X
