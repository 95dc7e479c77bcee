/- A state's small steps, each held against memory. -/
import Derived.Test.YtihpdefnajimgaaXMove
namespace Go.X

section
variable {X : Ctx} {n : Nat} {g : Gh} {st : St} {hand : List G} {a : Act} {w : World}

theorem Rp.ltL {S : Nat → Prop} {w : World} : ∀ (ts : List G), (∀ t ∈ ts, Rp S w t) → ∀ b, 0 < cntL b ts → b < w.heap.size
  | [], _, b, h => by simp [cntL] at h
  | t :: ts, ht, b, h => by
    simp only [cntL] at h
    by_cases h0 : 0 < cnt b t
    · exact (ht t (List.mem_cons_self ..)).lt b h0
    · exact Rp.ltL ts (fun t h => ht t (List.mem_cons_of_mem _ h)) b (by omega)
theorem Sim.lt (h : Sim X n g st hand a w) (b k : Nat) (hc : 0 < g.has b k + cntL b hand) : b < w.heap.size := by
  by_cases h0 : 0 < cntL b hand
  · exact Rp.ltL hand h.held b h0
  · by_cases h1 : 0 < rcnt b (g.gr k)
    · cases hr : g.gr k with
      | none => simp [hr, rcnt] at h1
      | some gs => rw [hr] at h1; exact Rp.ltL gs (h.reps k gs hr) b h1
    · have h2 : 0 < bcnt b (g.gb k) := by simp only [Gh.has] at hc; omega
      cases hb : g.gb k with
      | none => simp [hb, bcnt] at h2
      | some A =>
        cases hs : get st.b k with
        | none => rw [h.nobox k hs] at hb; cases hb
        | some cs =>
          obtain ⟨A', us, e, hA, _⟩ := h.boxes k cs hs
          rw [hb] at e
          simp only [hb, bcnt] at h2
          simp at e
          split at h2
          · rename_i e2; rw [← e2, e]; exact hA
          · omega
/-- What turns in a step: the blocks of D alone. -/
structure Step (D : Nat → Prop) (w w' : World) : Prop where
  os : w'.os = w.os
  tape : w'.tape = w.tape
  output : w'.output = w.output
  size : w.heap.size ≤ w'.heap.size
  block : ∀ b, b < w.heap.size → ¬ D b → w'.heap[b]? = w.heap[b]?
theorem frozen_of_block {w w' : World} {a : Addr} (h : w'.heap[a.block]? = w.heap[a.block]?) : w'.frozen? a = w.frozen? a := World.frozen?_of_block h
theorem InMem.move {w w' : World} {A : Addr} {us : List Value} (h : InMem w A us) (hb : w'.heap[A.block]? = w.heap[A.block]?) : InMem w' A us := fun k u hu => by
  obtain ⟨h1, h2, h3⟩ := h k u hu
  exact ⟨by rw [World.cell?_of_block (w := w) (a := ⟨A.block, A.off + k, none⟩) hb]; exact h1, by rw [World.frozen?_of_block (w := w) (a := ⟨A.block, A.off + k, none⟩) hb]; exact h2, h3⟩
theorem cnt_zero_sum {g : Gh} {b N : Nat} (h : ∀ k, g.has b k = 0) : tot (g.has b) N = 0 := by
  induction N with
  | zero => rfl
  | succ N ih => simp [tot, ih, h]
theorem Sim.world {us us' : List G} {w' : World} (h : Sim X n g st (us ++ hand) a w) (hs : Step (fun b => 0 < cntL b us) w w') (hr : ∀ t ∈ us', Rp X.S w' t)
    (hc : ∀ b, cntL b us' ≤ cntL b us ∨ (w.heap.size ≤ b ∧ cntL b us' ≤ 1)) : Sim X n g st (us' ++ hand) a w' := by
  have hS : ∀ b, X.S b → w'.heap[b]? = w.heap[b]? := fun b hb => hs.block b (Nat.lt_of_lt_of_le (X.stay b hb).1 h.frame.size) (fun h0 => (h.mine b 0 (by rw [cntL_append]; omega)).1 hb)
  have hold : ∀ b, b < X.w0.heap.size → ¬ X.F b → w'.heap[b]? = w.heap[b]? := fun b hb hF => hs.block b (Nat.lt_of_lt_of_le hb h.frame.size) (fun h0 => by
    rcases (h.mine b 0 (by rw [cntL_append]; omega)).2 with h1 | h1
    · omega
    · exact hF h1)
  have hroot : ∀ r gs, g.gr r = some gs → ∀ b, 0 < cntL b gs → w'.heap[b]? = w.heap[b]? := fun r gs hg b hb => by
    have h1 := h.sole.one b r
    have h2 : cntL b gs ≤ g.has b r := by simp [Gh.has, hg, rcnt]
    rw [cntL_append] at h1
    exact hs.block b (h.lt b r (by omega)) (by omega)
  have hhand : ∀ b, 0 < cntL b hand → w'.heap[b]? = w.heap[b]? := fun b hb => by
    have h1 := h.sole.one b 0
    rw [cntL_append] at h1
    exact hs.block b (h.lt b 0 (by rw [cntL_append]; omega)) (by omega)
  refine { frame := ⟨hs.os.trans h.frame.os, hs.tape.trans h.frame.tape, hs.output.trans h.frame.output, Nat.le_trans h.frame.size hs.size, fun b hb hF hR => (hold b hb hF).trans (h.frame.block b hb hF hR), fun x hx o ho => ?_⟩,
           defers := h.defers, tmps := h.tmps, slots := fun t v ht => ?_, boxes := fun b cs hb => ?_, nobox := h.nobox, roots := h.roots, noroot := h.noroot, reps := fun r gs hg t ht => ?_, held := fun t ht => ?_, sole := ?_, pb := h.pb, hold := h.hold, mine := fun b k hb => ?_ }
  · have e := hold x.1 (X.apart x hx).2 (X.apart x hx).1
    rw [World.cell?_of_block (w := w) (by exact e), World.frozen?_of_block (w := w) (by exact e)]
    exact h.frame.range x hx o ho
  · exact SlotOK.keep (Keeps.refl Never g) hS v _ (never_slot v) (fun _ _ _ _ _ h => h) (h.slots t v ht)
  · obtain ⟨A, vs, h1, h2, h3, h4, h5⟩ := h.boxes b cs hb
    have hz : ¬ 0 < cntL A.block us := by
      have := h.sole.one A.block b
      rw [cntL_append] at this
      have : 1 ≤ g.has A.block b := by simp [Gh.has, h1, bcnt]
      omega
    exact ⟨A, vs, h1, Nat.lt_of_lt_of_le h2 hs.size, h3.move (hs.block _ h2 hz), h4.keep (Keeps.refl Never g) hS (fun c _ => never_cel c), h5⟩
  · exact (h.reps r gs hg t ht).move (fun _ h => h) hS (fun b hb => hroot r gs hg b (by have := cnt_mem b gs t ht; omega))
  · rcases List.mem_append.1 ht with ht | ht
    · exact hr t ht
    · exact (h.held t (List.mem_append_right _ ht)).move (fun _ h => h) hS (fun b hb => hhand b (by have := cnt_mem b hand t ht; omega))
  · obtain ⟨N, h1, h2⟩ := h.sole
    refine ⟨N, h1, fun b => ?_⟩
    have := h2 b
    rw [cntL_append] at this ⊢
    rcases hc b with hc | ⟨hf, hc⟩
    · omega
    · have hz : ∀ k, g.has b k = 0 := fun k => by
        have := fun h0 => h.lt b k h0
        rw [cntL_append] at this
        omega
      have hz2 := fun h0 => h.lt b 0 h0
      rw [cntL_append] at hz2
      rw [cnt_zero_sum hz]
      omega
  · rw [cntL_append] at hb
    rcases hc b with hc | ⟨hf, hc⟩
    · exact h.mine b k (by rw [cntL_append]; omega)
    · exact ⟨fun hS => by have := (X.stay b hS).1; have := h.frame.size; omega, .inl (Nat.le_trans h.frame.size hf)⟩

theorem getD_set (l : Array Value) (d t : Nat) (u x : Value) (hd : d < l.size) : (l.setIfInBounds d u).getD t x = if t = d then u else l.getD t x := by
  simp only [Array.getD_eq_getD_getElem?, Array.getElem?_setIfInBounds]
  split
  · rename_i h; subst h; simp [hd]
  · rename_i h; simp [show ¬ t = d from fun e => h e.symm]
/-- A temporary is set. -/
theorem Sim.slot (h : Sim X n g st hand a w) {d : Nat} {v : SV} {u : Value} (hd : d < n) (hv : SlotOK X.S g w v u) : Sim X n g { st with s := rep st.s d v } hand (a.put (some d) u) w :=
  { frame := h.frame, defers := h.defers, tmps := by simp [Act.put, h.tmps],
    slots := fun t v' ht => by
      rw [show (a.put (some d) u).tmps = a.tmps.setIfInBounds d u from rfl, getD_set _ _ _ _ _ (by rw [h.tmps]; exact hd)]
      simp only [get_rep_if] at ht
      split at ht
      · rename_i e; subst e; simp at ht; subst ht; simpa using hv
      · rename_i e; rw [if_neg e]; exact h.slots t v' ht,
    boxes := h.boxes, nobox := h.nobox, roots := h.roots, noroot := h.noroot, reps := h.reps, held := h.held, sole := h.sole, pb := h.pb, hold := h.hold, mine := h.mine }
/-- A name's trees are exchanged, and what is at hand with them. -/
theorem Sim.reroot {hand' : List G} (h : Sim X n g st hand a w) (r : Nat) (gs' : List G) (hk : Keeps Never g (g.setR r gs')) (hreps : ∀ t ∈ gs', Rp X.S w t) (hheld : ∀ t ∈ hand', Rp X.S w t)
    (hc : ∀ b, cntL b gs' + cntL b hand' ≤ rcnt b (g.gr r) + cntL b hand) (hh : ∀ old, g.gr r = some old → gs'.map hdr = old.map hdr) : Sim X n (g.setR r gs') { st with r := rep st.r r (gs'.map er) } hand' a w :=
  { frame := h.frame, defers := h.defers, tmps := h.tmps,
    slots := fun t v ht => SlotOK.keep hk (fun _ _ => rfl) v _ (never_slot v) (fun _ _ _ _ _ h => h) (h.slots t v ht),
    boxes := fun b cs hb => by
      obtain ⟨A, us, h1, h2, h3, h4, h5⟩ := h.boxes b cs hb
      exact ⟨A, us, hk.b _ _ h1, h2, h3, h4.keep hk (fun _ _ => rfl) (fun c _ => never_cel c), h5⟩,
    nobox := h.nobox,
    roots := fun k ts hk' => by
      simp only [get_rep_if] at hk'
      split at hk'
      · rename_i e; subst e; simp at hk'; exact ⟨gs', setR_same _ _ _, hk'⟩
      · rename_i e; rw [setR_ne _ _ e]; exact h.roots k ts hk',
    noroot := fun k hk' => by
      simp only [get_rep_if] at hk'
      split at hk'
      · cases hk'
      · rename_i e; rw [setR_ne _ _ e]; exact h.noroot k hk',
    reps := fun k gs hg t ht => by
      by_cases e : k = r
      · subst e; rw [setR_same] at hg; simp at hg; subst hg; exact hreps t ht
      · rw [setR_ne _ _ e] at hg; exact h.reps k gs hg t ht,
    held := hheld,
    sole := h.sole.upd r (fun _ _ => rfl) (fun j hj => setR_ne _ _ hj) (fun b => .inl (by
      have := hc b
      simp only [Gh.has, setR_same, rcnt, Gh.setR] at this ⊢
      simp
      omega)),
    pb := h.pb,
    hold := fun i hs hi => by
      obtain ⟨gs, h1, h2⟩ := h.hold i hs hi
      by_cases e : i = r
      · subst e; exact ⟨gs', setR_same _ _ _, by rw [hh gs h1]; exact h2⟩
      · exact ⟨gs, by rw [setR_ne _ _ e]; exact h1, h2⟩,
    mine := fun b k hb => by
      have := hc b
      by_cases e : k = r
      · subst e
        rw [setR_same] at hb
        simp only [rcnt] at hb
        exact h.mine b k (by omega)
      · rw [setR_ne _ _ e] at hb
        by_cases h0 : 0 < rcnt b (g.gr k) + cntL b hand
        · exact h.mine b k h0
        · exact h.mine b r (by omega) }
theorem map_hdr_set {gs : List G} {c : Nat} {t u : G} (ht : gs[c]? = some t) (h : hdr u = hdr t) : (gs.set c u).map hdr = gs.map hdr := by
  rw [List.map_set, h]
  apply List.ext_getElem?
  intro i
  rw [List.getElem?_set]
  split
  · rename_i e; subst e; split
    · rw [List.getElem?_map, ht]; rfl
    · rename_i hl; rw [List.getElem?_eq_none (by omega)]
  · rfl
theorem map_set_er (gs : List G) (c : Nat) (u : G) : (gs.set c u).map er = (gs.map er).set c (er u) := by rw [List.map_set]
theorem cntL_get (b : Nat) {gs : List G} {c : Nat} {t : G} (h : gs[c]? = some t) : cnt b t ≤ cntL b gs := cnt_mem b gs t (List.mem_of_getElem? h)
/-- What a place in a name's trees is. -/
theorem Sim.node (h : Sim X n g st hand a w) {r c z : Nat} {p : List (Nat × Nat)} {cs : List T} {rows : List (List T)} {hh : Unit} (hr : get st.r r = some cs) (hn : (cs[c]?).bind (atP · p) = some (.sl true z hh rows)) :
    ∃ gs t hv rs, g.gr r = some gs ∧ gs.map er = cs ∧ gs[c]? = some t ∧ atP t p = some (.sl true z hv rs) ∧ rs.map (·.map er) = rows ∧ nodeAt g r c p = some (.sl true z hv rs) ∧ Rp X.S w t ∧ Rp X.S w (.sl true z hv rs) := by
  obtain ⟨gs, hg, rfl⟩ := h.roots r cs hr
  rw [List.getElem?_map] at hn
  cases ht : gs[c]? with
  | none => simp [ht] at hn
  | some t =>
    simp only [ht, Option.map_some, Option.bind_some, er_atP] at hn
    cases hm : atP t p with
    | none => simp [hm] at hn
    | some m =>
      simp only [hm, Option.map_some, Option.some.injEq] at hn
      cases m with
      | pv => simp [er] at hn
      | no => simp [er] at hn
      | sl o z' hv rs =>
        simp only [er, erLL_eq, Tr.sl.injEq] at hn
        obtain ⟨rfl, rfl, _, rfl⟩ := hn
        have hR := h.reps r gs hg t (List.mem_of_getElem? ht)
        exact ⟨gs, t, hv, rs, hg, rfl, ht, hm, rfl, by simp [nodeAt, hg, ht, hm], hR, hR.atP p hm⟩
theorem rp_take {S : Nat → Prop} {w : World} {z len : Nat} {hv v : Value} {rs : List (List G)} (h : Rp S w (.sl true z hv rs)) (hl : len ≤ rs.length) (hf : RfOK hv z 0 len v) : Rp S w (.sl true z v (rs.take len)) := by
  obtain ⟨hA, hn, hc, a', rfl, rfl, _, h0, _⟩ := hf
  obtain rfl := h0 rfl
  cases h with
  | nil =>
    have : len = 0 := by simpa using hl
    subst this
    exact .nil
  | own hg h1 h2 h3 h4 h5 h6 h7 =>
    have e : len = (rs.take len).length := by simp; omega
    have key := Rp.own (z := z) (rows := rs.take len) hg h1 (by simp; omega) h3 h4 (fun r hr => h5 r (List.mem_of_mem_take hr))
      (by
        rw [← hds_take len h5, ← h6, List.take_take, ← e]
        congr 1
        have := Nat.mul_le_mul_right z hl
        omega)
      (fun r hr t ht => h7 r (List.mem_of_mem_take hr) t ht)
    rw [← e] at key
    simpa using key
/-- A slice is taken out of its place. -/
theorem Sim.take (h : Sim X n g st hand a w) {r c z len : Nat} {p : List (Nat × Nat)} {cs : List T} {rows : List (List T)} {hh : Unit} {v : Value} (hr : get st.r r = some cs) (hn : (cs[c]?).bind (atP · p) = some (.sl true z hh rows))
    (hl : len ≤ rows.length) (hv : CelOK X.S g w (.rf r c p z 0 len) v) :
    ∃ g' u, Sim X n g' { st with r := rep st.r r (putAt cs c p (.no ())) } (u :: hand) a w ∧ Keeps Never g g' ∧ hdr u = v ∧ er u = .sl true z () (rows.take len) ∧
      (∀ k, k ≠ r → g'.gr k = g.gr k) ∧ (∀ gs, g.gr r = some gs → ∃ hv t, gs[c]? = some t ∧ g'.gr r = some (gs.set c (setP t p (.no hv))) ∧ (len = rows.length → hv = v)) ∧ g'.gb = g.gb := by
  obtain ⟨gs, t, hv', rs, hg, rfl, ht, hm, rfl, hna, hR, hRm⟩ := h.node hr hn
  have hf := hv.2.2 _ hna rfl
  simp only [hdr] at hf
  have hl' : len ≤ rs.length := by simpa using hl
  have hru := rp_take hRm hl' hf
  have e1 : putAt (gs.map er) c p (.no ()) = (gs.set c (setP t p (.no hv'))).map er := by
    rw [map_set_er, er_setP]
    simp [putAt, List.getElem?_map, ht, er]
  rw [e1]
  refine ⟨g.setR r (gs.set c (setP t p (.no hv'))), .sl true z v (rs.take len), ?_, keeps_gone hg ht hm rfl, rfl, by simp [er, erLL_eq, List.map_take], fun k hk => setR_ne _ _ hk, fun gs' hg' => ?_, rfl⟩
  · refine h.reroot r _ (keeps_gone hg ht hm rfl) ?_ ?_ ?_ (fun old ho => by
      rw [hg] at ho
      simp at ho
      subst ho
      exact map_hdr_set ht (hdr_setP p hm rfl))
    · intro x hx
      rcases List.mem_or_eq_of_mem_set hx with hx | rfl
      · exact h.reps r gs hg x hx
      · exact hR.setP (fun _ h => h) (fun _ _ => rfl) p hm (.no hRm.one) rfl (fun _ _ => rfl)
    · intro x hx
      rcases List.mem_cons.1 hx with rfl | hx
      · exact hru
      · exact h.held x hx
    · intro b
      have a1 := cntL_set b gs c t (setP t p (.no hv')) ht
      have a2 := cnt_setP b p (u := .no hv') hm
      have a3 := cntLL_take_drop b rs len
      have a4 : hb b v ≤ hb b hv' := by
        obtain ⟨hA, hn, hc, a', rfl, rfl, _, h0, _⟩ := hf
        obtain rfl := h0 rfl
        cases a' <;> simp [Go.X.hb]
      simp only [cntL, cnt, hg, rcnt] at a2 ⊢
      omega
  · rw [hg] at hg'
    simp at hg'
    subst hg'
    refine ⟨hv', t, ht, setR_same _ _ _, fun e => ?_⟩
    obtain ⟨hA, hn, hc, a', rfl, rfl, _, h0, _⟩ := hf
    obtain rfl := h0 rfl
    cases hRm with
    | nil => simp at e; simp [e]
    | own => simp at e; simp [e]
end
end Go.X
