/- Stores. -/
import Derived.Test.YtihpdefnajimgaaXOps3
namespace Go.X
section
variable {P : Program} {X : Ctx} {n : Nat} {g : Gh} {st : St} {hand : List G} {a : Act} {w : World} {α : Type} {Te : Nat → List AV → Res → Prop} {o : Oper} {K : St → Prop} {Q : Exit → Act → World → Prop}
theorem cells_of_cell {w : World} {q o : Nat} {u : Value} (h : w.cell? ⟨q, o, none⟩ = some u) : ∃ cur e fz, w.heap[q]? = some (.cells cur e fz) ∧ cur[o]? = some u := by
  unfold World.cell? at h
  split at h
  · rename_i c e fz hg
    exact ⟨c, e, fz, hg, by simpa using h⟩
  · cases h
theorem notfrozen {w : World} {q o e : Nat} {cur : Array Value} {fz : Nat × Nat} (hg : w.heap[q]? = some (.cells cur e fz)) (h : w.frozen? ⟨q, o, none⟩ = false) : ¬ (fz.1 ≤ o ∧ o < fz.2) := by
  simp only [World.frozen?, hg] at h
  cases fz
  simpa using h
theorem seg_len (l : List Value) (o : Nat) (vs : List Value) (h : o + vs.length ≤ l.length) : (l.take o ++ vs ++ l.drop (o + vs.length)).length = l.length := by simp; omega
theorem seg_in (l : List Value) (o : Nat) (vs : List Value) (h : o + vs.length ≤ l.length) (k : Nat) (hk : k < vs.length) : (l.take o ++ vs ++ l.drop (o + vs.length))[o + k]? = vs[k]? := by
  rw [List.append_assoc, List.getElem?_append_right (by simp; omega), List.getElem?_append_left (by simp; omega)]
  congr 1
  simp
  omega
theorem seg_out (l : List Value) (o : Nat) (vs : List Value) (h : o + vs.length ≤ l.length) (k : Nat) (hk : k < o ∨ o + vs.length ≤ k) : (l.take o ++ vs ++ l.drop (o + vs.length))[k]? = l[k]? := by
  rcases hk with hk | hk
  · rw [List.append_assoc, List.getElem?_append_left (by simp; omega), List.getElem?_take, if_pos hk]
  · rw [List.getElem?_append_right (by simp; omega), List.getElem?_drop]
    congr 1
    simp
    omega
theorem Sim.storeBox (h : Sim X n g st hand a w) {b off : Nat} {cs new : List Cel} {vs : List Value} {A : Addr} (hb : get st.b b = some cs) (hA : g.gb b = some A) (hc : CelsOK X.S g w new vs) (hl : off + new.length ≤ cs.length) (h0 : 0 < new.length) :
    ∃ w', (storeCells ⟨A.block, A.off + off, none⟩ vs 0).run P w = .ok () w' ∧ Sim X n g { st with b := rep st.b b (cs.take off ++ new ++ cs.drop (off + new.length)) } hand a w' := by
  obtain ⟨A', us, hA', hlt, hM, hC, hR⟩ := h.boxes b cs hb
  rw [hA] at hA'
  simp at hA'
  subst hA'
  have hvs : vs.length = new.length := hc.1.symm
  have hus : us.length = cs.length := hC.1.symm
  obtain ⟨cur, e, fz, hg, _⟩ := cells_of_cell (hM off us[off] (List.getElem?_eq_getElem (by omega))).1
  have hcur : ∀ k u, us[k]? = some u → cur[A.off + k]? = some u := fun k u hu => by
    have := (hM k u hu).1
    rw [cell_at hg] at this
    exact this
  have hfz : ∀ k, k < us.length → ¬ (fz.1 ≤ A.off + k ∧ A.off + k < fz.2) := fun k hk => notfrozen hg (hM k us[k] (List.getElem?_eq_getElem hk)).2.1
  have hsize : A.off + us.length ≤ cur.size := by
    have := hcur (us.length - 1) us[us.length - 1] (List.getElem?_eq_getElem (by omega))
    have := (Array.getElem?_eq_some_iff.1 this).1
    omega
  have hrun := run_storeCells_fz P A.block (A.off + off) e fz vs 0 cur w hg (by omega) (fun k hk => by have := hfz (off + k) (by omega); rwa [show A.off + off + 0 + k = A.off + (off + k) by omega]) (fun v hv => by
    obtain ⟨i, hi, rfl⟩ := List.mem_iff_getElem.1 hv
    exact (hc.2 i new[i] _ (List.getElem?_eq_getElem (by omega)) (List.getElem?_eq_getElem hi)).one)
  simp only [Nat.add_zero] at hrun
  refine ⟨_, hrun, ?_⟩
  have hst := setRow_step w A.block (cur.toList.take (A.off + off) ++ vs ++ cur.toList.drop (A.off + off + vs.length)).toArray (D := fun b => b = A.block) rfl
  have hgn := setRow_heap w A.block cur (cur.toList.take (A.off + off) ++ vs ++ cur.toList.drop (A.off + off + vs.length)).toArray e fz hg
  generalize hw' : w.setRow A.block (cur.toList.take (A.off + off) ++ vs ++ cur.toList.drop (A.off + off + vs.length)).toArray = w' at hst hgn
  have hne : ∀ b, X.S b → b ≠ A.block := fun x hx e => by
    subst e
    obtain ⟨s1, _, s3⟩ := X.stay _ hx
    rcases hR with hR | ⟨_, y, hy, e, _⟩
    · omega
    · exact s3 y hy e.symm
  have hS : ∀ b, X.S b → w'.heap[b]? = w.heap[b]? := fun x hx => hst.block x (Nat.lt_of_lt_of_le (X.stay x hx).1 h.frame.size) (hne x hx)
  have hb1 : bcnt A.block (g.gb b) = 1 := by simp [hA, bcnt]
  have hroot : ∀ r gs, g.gr r = some gs → ∀ x, 0 < cntL x gs → w'.heap[x]? = w.heap[x]? := fun r gs hgr x hx => by
    have hxw := h.lt x r (by simp only [Gh.has, hgr, rcnt]; omega)
    refine hst.block x hxw (fun e => ?_)
    subst e
    by_cases hrb : r = b
    · subst hrb
      have := h.sole.one A.block r
      simp only [Gh.has, hgr, rcnt] at this
      omega
    · have := h.sole.two hrb A.block
      simp only [Gh.has, hgr, rcnt] at this
      omega
  refine { frame := ⟨hst.os.trans h.frame.os, hst.tape.trans h.frame.tape, hst.output.trans h.frame.output, Nat.le_trans h.frame.size hst.size, fun x hx hF hRx => ?_, fun x hx k hk => ?_⟩,
           defers := h.defers, tmps := h.tmps, slots := fun t v ht => SlotOK.keep (Keeps.refl Never g) hS v _ (never_slot v) (fun _ _ _ _ _ h => h) (h.slots t v ht),
           boxes := fun k ks hk => ?_, nobox := fun k hk => ?_, roots := h.roots, noroot := h.noroot,
           reps := fun r gs hgr t ht => (h.reps r gs hgr t ht).move (fun _ h => h) hS (fun x hx => hroot r gs hgr x (by have := cnt_mem x gs t ht; omega)),
           held := fun t ht => (h.held t ht).move (fun _ h => h) hS (fun x hx => ?_), sole := h.sole, pb := h.pb, hold := h.hold, mine := h.mine }
  · refine (hst.block x (Nat.lt_of_lt_of_le hx h.frame.size) (fun e => ?_)).trans (h.frame.block x hx hF hRx)
    subst e
    rcases hR with hR | ⟨_, y, hy, e, _⟩
    · omega
    · exact hRx y hy e.symm
  · have base := h.frame.range x hx k hk
    by_cases ex : x.1 = A.block
    · rcases hR with hR | ⟨hip, y, hy, e1, e2, e3⟩
      · have := (X.apart x hx).2; omega
      · have exy := X.uniq x hx y hy (by rw [ex, e1])
        subst exy
        rw [← base.1, ← base.2, ex]
        have hout : k < A.off + off ∨ A.off + off + vs.length ≤ k := by omega
        refine ⟨?_, ?_⟩
        · rw [cell_at hgn, cell_at hg]
          have := seg_out cur.toList (A.off + off) vs (by simp; omega) k hout
          simpa using this
        · simp only [World.frozen?, hgn, hg]
    · have := hst.block x.1 (Nat.lt_of_lt_of_le (X.apart x hx).2 h.frame.size) ex
      rw [World.cell?_of_block (w := w) (a := ⟨x.1, k, none⟩) this, World.frozen?_of_block (w := w) (a := ⟨x.1, k, none⟩) this]
      exact base
  · simp only [get_rep_if] at hk
    split at hk
    · rename_i ek
      subst ek
      simp at hk
      subst hk
      refine ⟨A, us.take off ++ vs ++ us.drop (off + new.length), hA, Nat.lt_of_lt_of_le hlt hst.size, fun i u hu => ?_, ?_, ?_⟩
      · have hi : i < us.length := by
          have := (List.getElem?_eq_some_iff.1 hu).1
          rw [← hvs, seg_len us off vs (by omega)] at this
          exact this
        by_cases hin : off ≤ i ∧ i < off + vs.length
        · have e1 := seg_in us off vs (by omega) (i - off) (by omega)
          rw [hvs, show off + (i - off) = i by omega, hu] at e1
          have e2 := seg_in cur.toList (A.off + off) vs (by simp; omega) (i - off) (by omega)
          rw [show A.off + off + (i - off) = A.off + i by omega, ← e1] at e2
          refine ⟨by rw [cell_at hgn]; simpa using e2, ?_, ?_⟩
          · have := hfz i hi
            simp only [World.frozen?, hgn]
            cases fz
            simpa using this
          · have := hc.2 (i - off) new[i - off] u (List.getElem?_eq_getElem (by omega)) e1.symm
            exact this.one
        · have e1 := seg_out us off vs (by omega) i (by omega)
          rw [hvs] at e1
          rw [e1] at hu
          have e2 := seg_out cur.toList (A.off + off) vs (by simp; omega) (A.off + i) (by omega)
          refine ⟨?_, ?_, (hM i u hu).2.2⟩
          · rw [cell_at hgn]
            have := hcur i u hu
            simp at e2
            simpa [e2] using this
          · have := hfz i hi
            simp only [World.frozen?, hgn]
            cases fz
            simpa using this
      · have k1 : CelsOK X.S g w' (cs.take off ++ new ++ cs.drop (off + new.length)) (us.take off ++ vs ++ us.drop (off + new.length)) :=
          (((hC.take off).append hc).append (hC.drop (off + new.length))).keep (Keeps.refl Never g) hS (fun c _ => never_cel c)
        simpa using k1
      · rcases hR with hR | ⟨hip, y, hy, e1, e2, e3⟩
        · exact .inl hR
        · exact .inr ⟨hip, y, hy, e1, e2, by rw [← e3]; simp; omega⟩
    · rename_i ek
      obtain ⟨B, ws, f1, f2, f3, f4, f5⟩ := h.boxes k ks hk
      have hBA : B.block ≠ A.block := fun e => by
        have := h.sole.two ek A.block
        have : 1 ≤ g.has A.block k := by simp [Gh.has, f1, bcnt, e]
        have : 1 ≤ g.has A.block b := by simp [Gh.has, hA, bcnt]
        omega
      exact ⟨B, ws, f1, Nat.lt_of_lt_of_le f2 hst.size, f3.move (hst.block _ f2 hBA), f4.keep (Keeps.refl Never g) hS (fun c _ => never_cel c), f5⟩
  · simp only [get_rep_if] at hk
    split at hk
    · cases hk
    · exact h.nobox k hk
  · have hxw := h.lt x b (by have := cnt_mem x hand t ht; omega)
    refine hst.block x hxw (fun e => ?_)
    subst e
    have := h.sole.one A.block b
    have := cnt_mem A.block hand t ht
    simp only [Gh.has] at *
    omega
theorem hds_split {z : Nat} {rs : List (List G)} {i : Nat} {row : List G} (h : rs[i]? = some row) (row' : List G) : hds (rs.set i row') = hds (rs.take i) ++ row'.map hdr ++ hds (rs.drop (i + 1)) := by
  have hi := (List.getElem?_eq_some_iff.1 h).1
  rw [List.set_eq_take_append_cons_drop, if_pos hi, hds_append, hds_cons, List.append_assoc]
theorem hds_seg {z : Nat} {rs : List (List G)} {i j : Nat} {row us : List G} (hz : ∀ r ∈ rs, r.length = z) (h : rs[i]? = some row) (hl : j + us.length ≤ row.length) :
    hds (rs.set i (setCells row j us)) = (hds rs).take (i * z + j) ++ us.map hdr ++ (hds rs).drop (i * z + j + us.length) := by
  have e0 : hds rs = hds (rs.take i) ++ row.map hdr ++ hds (rs.drop (i + 1)) := by
    rw [← hds_split (z := z) h row]
    congr 1
    have hi := (List.getElem?_eq_some_iff.1 h).1
    have : rs[i] = row := (List.getElem?_eq_some_iff.1 h).2
    rw [← this, List.set_getElem_self]
  have hi := (List.getElem?_eq_some_iff.1 h).1
  have hA : (hds (rs.take i)).length = i * z := by
    rw [hds_length (fun r hr => hz r (List.mem_of_mem_take hr)), List.length_take, Nat.min_eq_left (by omega)]
  rw [hds_split (z := z) h, e0]
  generalize hds (rs.take i) = A at hA
  generalize hds (rs.drop (i + 1)) = B
  rw [← hA]
  simp only [setCells, List.map_append, List.map_take, List.map_drop, List.append_assoc]
  rw [List.take_length_add_append, Nat.add_assoc, List.drop_length_add_append]
  rw [List.take_append_of_le_length (by simp; omega), List.drop_append_of_le_length (by simp; omega)]
  simp
theorem cntL_drop_le (b : Nat) (l : List G) (i j : Nat) (h : i ≤ j) : cntL b (l.drop j) ≤ cntL b (l.drop i) := by
  have := cntL_take_drop b (l.drop i) (j - i)
  rw [List.drop_drop, show i + (j - i) = j by omega] at this
  omega
theorem cnt_setCells (b : Nat) (row us : List G) (j : Nat) : cntL b (setCells row j us) ≤ cntL b row + cntL b us := by
  simp only [setCells, cntL_append]
  have := cntL_take_drop b row j
  have := cntL_drop_le b row j (j + us.length) (by omega)
  omega
theorem mem_setCells {row us : List G} {j : Nat} {t : G} (h : t ∈ setCells row j us) : t ∈ row ∨ t ∈ us := by
  simp only [setCells, List.mem_append] at h
  rcases h with (h | h) | h
  · exact .inl (List.mem_of_mem_take h)
  · exact .inr h
  · exact .inl (List.mem_of_mem_drop h)
theorem Sim.storeAp {us : List G} (h : Sim X n g st (us ++ hand) a w) {r c z i j q hn hc : Nat} {p : List (Nat × Nat)} {gs : List G} {t : G} {rs : List (List G)} {Ex : Nat → Nat → List (Nat × Nat) → Prop}
    (hg : g.gr r = some gs) (ht : gs[c]? = some t) (hm : atP t p = some (.sl true z (.slice (some ⟨q, 0, none⟩) hn hc) rs)) {row : List G} (hrow : rs[i]? = some row) (hl : j + us.length ≤ z)
    (hk : Keeps Ex g (g.setR r (gs.set c (setP t p (.sl true z (.slice (some ⟨q, 0, none⟩) hn hc) (rs.set i (setCells row j us)))))))
    (hslots : ∀ k v, get st.s k = some v → ¬ SlotEx Ex v ∧ ∀ vs, v = .tup vs → ∀ r c p, ¬ Ex r c p) (hboxes : ∀ b cs, get st.b b = some cs → ∀ x ∈ cs, ¬ CelEx Ex x) :
    ∃ w', (storeCells ⟨q, i * z + j, none⟩ (us.map hdr) 0).run P w = .ok () w' ∧
      Sim X n (g.setR r (gs.set c (setP t p (.sl true z (.slice (some ⟨q, 0, none⟩) hn hc) (rs.set i (setCells row j us))))))
        { st with r := rep st.r r ((gs.set c (setP t p (.sl true z (.slice (some ⟨q, 0, none⟩) hn hc) (rs.set i (setCells row j us))))).map er) } hand a w' := by
  have hR := h.reps r gs hg t (List.mem_of_getElem? ht)
  have hRm := hR.atP p hm
  have cN : ∀ b, cnt b (.sl true z (.slice (some ⟨q, 0, none⟩) hn hc) rs) ≤ cntL b gs := fun b => by
    have a1 := cnt_atP b p hm
    have a2 := cntL_get b ht
    omega
  have hsole := fun b => h.sole.one b r
  simp only [Gh.has, hg, rcnt, cntL_append] at hsole
  have hq1 : cnt q (.sl true z (.slice (some ⟨q, 0, none⟩) hn hc) rs) = 1 + cntLL q rs := by simp [cnt, hb]
  have hqz : cntLL q rs = 0 ∧ cntL q us = 0 ∧ cntL q hand = 0 ∧ bcnt q (g.gb r) = 0 ∧ cntL q gs = 1 := by
    have := hsole q
    have := cN q
    omega
  have hqS : ¬ X.S q ∧ (X.w0.heap.size ≤ q ∨ X.F q) := h.mine q r (by rw [hg]; simp only [rcnt, cntL_append]; omega)
  have hi := (List.getElem?_eq_some_iff.1 hrow).1
  cases hRm with
  | @own _ _ _ e cur fz _ hgq hz hlc hmx hs0 hrl hd0 hcel =>
    have hrz := hrl row (List.mem_of_getElem? hrow)
    have hbound : i * z + z ≤ rs.length * z := by
      have := Nat.mul_le_mul_right z (show i + 1 ≤ rs.length by omega)
      rw [Nat.add_mul] at this
      omega
    have hcz : rs.length * z ≤ cur.size := by rw [hs0]; exact Nat.mul_le_mul_right z hlc
    have hrun := run_storeCells_fz P q (i * z + j) e fz (us.map hdr) 0 cur w hgq (by simp; omega) (fun k hk => hz _ (by simp at hk; omega)) (fun v hv => by
      obtain ⟨t, ht, rfl⟩ := List.mem_map.1 hv
      exact (h.held t (List.mem_append_left _ ht)).one)
    simp only [Nat.add_zero] at hrun
    refine ⟨_, hrun, ?_⟩
    have hst := setRow_step w q (cur.toList.take (i * z + j) ++ us.map hdr ++ cur.toList.drop (i * z + j + (us.map hdr).length)).toArray (D := fun b => b = q) rfl
    have hgn := setRow_heap w q cur (cur.toList.take (i * z + j) ++ us.map hdr ++ cur.toList.drop (i * z + j + (us.map hdr).length)).toArray e fz hgq
    generalize w.setRow q (cur.toList.take (i * z + j) ++ us.map hdr ++ cur.toList.drop (i * z + j + (us.map hdr).length)).toArray = w' at hst hgn
    have hS : ∀ b, X.S b → w'.heap[b]? = w.heap[b]? := fun b hb => hst.block b (Nat.lt_of_lt_of_le (X.stay b hb).1 h.frame.size) (fun e => hqS.1 (e ▸ hb))
    have cnew : ∀ b, cntLL b (rs.set i (setCells row j us)) ≤ cntLL b rs + cntL b us := fun b => by
      have a1 := cntLL_set b rs i row (setCells row j us) hrow
      have a2 := cnt_setCells b row us j
      omega
    have hRn : Rp X.S w' (.sl true z (.slice (some ⟨q, 0, none⟩) rs.length hc) (rs.set i (setCells row j us))) := by
      have hlen : rs.length = (rs.set i (setCells row j us)).length := by simp
      rw [hlen]
      refine Rp.remade (w := w) (cur := (cur.toList.take (i * z + j) ++ us.map hdr ++ cur.toList.drop (i * z + j + (us.map hdr).length)).toArray) hgn ?_ (by rw [← hlen]; exact hlc) hmx ?_ ?_ ?_ ?_ hS ?_
      · intro o ho
        refine hz o ?_
        have := seg_len cur.toList (i * z + j) (us.map hdr) (by simp; omega)
        simp only [List.size_toArray] at ho
        rw [this] at ho
        simpa using ho
      · rw [List.size_toArray, seg_len _ _ _ (by simp; omega), Array.length_toList, hs0]
      · intro x hx
        rcases List.mem_or_eq_of_mem_set hx with hx | rfl
        · exact hrl x hx
        · simp only [setCells, List.length_append, List.length_take, List.length_drop]; omega
      · rw [← hlen, hds_seg hrl hrow (by omega), ← hd0]
        apply List.ext_getElem?
        intro k
        rw [List.getElem?_take]
        have hl1 : (cur.toList.take (rs.length * z)).length = rs.length * z := by simp; omega
        by_cases hk : k < rs.length * z
        · rw [if_pos hk]
          by_cases hin : i * z + j ≤ k ∧ k < i * z + j + us.length
          · have e1 := seg_in cur.toList (i * z + j) (us.map hdr) (by simp; omega) (k - (i * z + j)) (by simp; omega)
            have e2 := seg_in (cur.toList.take (rs.length * z)) (i * z + j) (us.map hdr) (by rw [hl1]; simp; omega) (k - (i * z + j)) (by simp; omega)
            rw [show i * z + j + (k - (i * z + j)) = k by omega] at e1 e2
            simp only [List.length_map] at e1 e2
            simp only [List.length_map]
            rw [e1, e2]
          · have e1 := seg_out cur.toList (i * z + j) (us.map hdr) (by simp; omega) k (by simp; omega)
            have e2 := seg_out (cur.toList.take (rs.length * z)) (i * z + j) (us.map hdr) (by rw [hl1]; simp; omega) k (by simp; omega)
            simp only [List.length_map] at e1 e2
            simp only [List.length_map]
            rw [e1, e2, List.getElem?_take, if_pos hk]
        · rw [if_neg hk]
          symm
          apply List.getElem?_eq_none
          have := seg_len (cur.toList.take (rs.length * z)) (i * z + j) (us.map hdr) (by rw [hl1]; simp; omega)
          simp only [List.length_map] at this
          rw [this, hl1]
          omega
      · intro x hx y hy
        rcases List.mem_or_eq_of_mem_set hx with hx | rfl
        · exact hcel x hx y hy
        · rcases mem_setCells hy with hy | hy
          · exact hcel row (List.mem_of_getElem? hrow) y hy
          · exact h.held y (List.mem_append_left _ hy)
      · intro b hb
        have hne : b ≠ q := fun e => by
          subst e
          have := cnew b
          omega
        have hw : b < w.heap.size := by
          have := cnew b
          have := cN b
          simp only [cnt] at this
          exact h.lt b r (by simp only [Gh.has, hg, rcnt, cntL_append]; omega)
        exact hst.block b hw hne
    have hRt : Rp X.S w' (setP t p (.sl true z (.slice (some ⟨q, 0, none⟩) rs.length hc) (rs.set i (setCells row j us)))) :=
      hR.setP (fun _ h => h) hS p hm hRn rfl (fun b hb => by
        have a2 := cntL_get b ht
        have hne : b ≠ q := fun e => by subst e; omega
        exact hst.block b (h.lt b r (by simp only [Gh.has, hg, rcnt]; omega)) hne)
    have cset : ∀ b, cntL b (gs.set c (setP t p (.sl true z (.slice (some ⟨q, 0, none⟩) rs.length hc) (rs.set i (setCells row j us))))) ≤ cntL b gs + cntL b us := fun b => by
      have a1 := cntL_set b gs c t (setP t p (.sl true z (.slice (some ⟨q, 0, none⟩) rs.length hc) (rs.set i (setCells row j us)))) ht
      have a2 := cnt_setP b p (u := .sl true z (.slice (some ⟨q, 0, none⟩) rs.length hc) (rs.set i (setCells row j us))) hm
      have a3 := cnew b
      simp only [cnt] at a2
      omega
    generalize hgs' : gs.set c (setP t p (.sl true z (.slice (some ⟨q, 0, none⟩) rs.length hc) (rs.set i (setCells row j us)))) = gs' at *
    have hother : ∀ b, b < w.heap.size → b ≠ q → w'.heap[b]? = w.heap[b]? := fun b hb hne => hst.block b hb hne
    refine { frame := ⟨hst.os.trans h.frame.os, hst.tape.trans h.frame.tape, hst.output.trans h.frame.output, Nat.le_trans h.frame.size hst.size, fun x hx hF hRx => ?_, fun x hx k hk => ?_⟩,
             defers := h.defers, tmps := h.tmps, slots := fun k v hkv => SlotOK.keep hk hS v _ (hslots k v hkv).1 (hslots k v hkv).2 (h.slots k v hkv),
             boxes := fun k ks hkk => ?_, nobox := h.nobox, roots := fun k ts hkk => ?_, noroot := fun k hkk => ?_,
             reps := fun k gs2 hgk x hx => ?_, held := fun x hx => (h.held x (List.mem_append_right _ hx)).move (fun _ h => h) hS (fun b hb => ?_),
             sole := h.sole.upd r (fun _ _ => rfl) (fun j hj => setR_ne _ _ hj) (fun b => .inl ?_), mine := fun b k hb => ?_, pb := h.pb, hold := fun i' hs hi' => by
               obtain ⟨gs2, h1, h2⟩ := h.hold i' hs hi'
               by_cases e : i' = r
               · subst e
                 rw [hg] at h1
                 simp at h1
                 subst h1
                 exact ⟨gs', setR_same _ _ _, by rw [← hgs']; exact (map_hdr_set ht (hdr_setP (u := .sl true z (.slice (some ⟨q, 0, none⟩) rs.length hc) (rs.set i (setCells row j us))) p hm rfl)).trans h2⟩
               · exact ⟨gs2, by rw [setR_ne _ _ e]; exact h1, h2⟩ }
    · refine (hother x (Nat.lt_of_lt_of_le hx h.frame.size) (fun e => ?_)).trans (h.frame.block x hx hF hRx)
      subst e
      rcases hqS.2 with h1 | h1
      · omega
      · exact hF h1
    · have hne : x.1 ≠ q := fun e => by
        rcases hqS.2 with h1 | h1
        · have := (X.apart x hx).2; omega
        · exact (X.apart x hx).1 (e ▸ h1)
      have := hother x.1 (Nat.lt_of_lt_of_le (X.apart x hx).2 h.frame.size) hne
      rw [World.cell?_of_block (w := w) (a := ⟨x.1, k, none⟩) this, World.frozen?_of_block (w := w) (a := ⟨x.1, k, none⟩) this]
      exact h.frame.range x hx k hk
    · obtain ⟨A, ws, f1, f2, f3, f4, f5⟩ := h.boxes k ks hkk
      have hBA : A.block ≠ q := fun e => by
        by_cases ek : k = r
        · subst ek
          simp only [f1, bcnt, e, if_true] at hqz
          omega
        · have := h.sole.two ek q
          simp only [Gh.has, f1, bcnt, e, if_true, hg, rcnt] at this
          omega
      exact ⟨A, ws, hk.b _ _ f1, Nat.lt_of_lt_of_le f2 hst.size, f3.move (hother _ f2 hBA), f4.keep hk hS (fun c' hc' => hboxes k ks hkk c' hc'), f5⟩
    · simp only [get_rep_if] at hkk
      split at hkk
      · rename_i ek; subst ek; simp at hkk; exact ⟨gs', setR_same _ _ _, hkk⟩
      · rename_i ek; rw [setR_ne _ _ ek]; exact h.roots k ts hkk
    · simp only [get_rep_if] at hkk
      split at hkk
      · cases hkk
      · rename_i ek; rw [setR_ne _ _ ek]; exact h.noroot k hkk
    · by_cases ek : k = r
      · subst ek
        rw [setR_same] at hgk
        simp at hgk
        subst hgk
        rw [← hgs'] at hx
        obtain ⟨l, hl', rfl⟩ := List.mem_iff_getElem.1 hx
        rw [List.getElem_set]
        split
        · exact hRt
        · rename_i hlc'
          have hl2 : l < gs.length := by simpa using hl'
          refine (h.reps k gs hg _ (List.getElem_mem hl2)).move (fun _ h => h) hS (fun b hb => hother b ?_ ?_)
          · exact h.lt b k (by
              have := cnt_mem b gs _ (List.getElem_mem hl2)
              simp only [Gh.has, hg, rcnt]
              omega)
          · intro e
            subst e
            have a1 := cntL_set b gs c t (.pv undef) ht
            have a2 : cnt b gs[l] ≤ cntL b (gs.set c (.pv undef)) := cnt_mem b _ _ (by
              have : gs[l] = (gs.set c (.pv undef))[l]'(by simpa using hl2) := by rw [List.getElem_set_ne hlc']
              rw [this]; exact List.getElem_mem _)
            have a3 := cnt_atP b p hm
            simp only [cnt] at a1 a3
            simp only [Go.X.hb, if_true] at a3
            omega
      · rw [setR_ne _ _ ek] at hgk
        refine (h.reps k gs2 hgk x hx).move (fun _ h => h) hS (fun b hb => hother b ?_ ?_)
        · exact h.lt b k (by
            have := cnt_mem b gs2 x hx
            simp only [Gh.has, hgk, rcnt]
            omega)
        · intro e
          subst e
          have s1 := h.sole.two ek b
          have := cnt_mem b gs2 x hx
          simp only [Gh.has, hgk, hg, rcnt] at s1
          omega
    · refine hother b ?_ ?_
      · exact h.lt b r (by
          have := cnt_mem b hand x hx
          rw [cntL_append]
          omega)
      · intro e
        subst e
        have := cnt_mem b hand x hx
        omega
    · have := cset b
      simp only [Gh.has, setR_same, rcnt, Gh.setR, hg, cntL_append]
      simp
      omega
    · have := cset b
      by_cases ek : k = r
      · subst ek
        rw [setR_same] at hb
        simp only [rcnt] at hb
        exact h.mine b k (by rw [hg]; simp only [rcnt, cntL_append]; omega)
      · rw [setR_ne _ _ ek] at hb
        exact h.mine b k (by rw [cntL_append]; omega)
theorem getmem {α : Type} {l : List (Nat × α)} {k : Nat} {v : α} (h : get l k = some v) : (k, v) ∈ l := by
  induction l with
  | nil => simp [get] at h
  | cons x l ih =>
    obtain ⟨j, u⟩ := x
    simp only [get] at h
    cases e : j == k with
    | true => simp [e] at h; subst h; have := eq_of_beq e; subst this; simp
    | false => simp [e] at h; exact List.mem_cons_of_mem _ (ih h)
theorem below_lower {r c : Nat} {p : List (Nat × Nat)} {x : Cel} (h : CelEx (Below' r c p) x) : lower r c p x = true := by
  cases x with
  | rf r' c' q z o l =>
    obtain ⟨rfl, rfl, s, rfl, hs⟩ := h
    have : 0 < s.length := List.length_pos_iff.2 hs
    simp [lower, this]
  | _ => exact h.elim
theorem noLower_ok {r c : Nat} {p : List (Nat × Nat)} (h : noLower r c p st = true) : (∀ k v, get st.s k = some v → ¬ SlotEx (Below' r c p) v ∧ ∀ vs, v = .tup vs → ∀ r' c' p', ¬ Below' r c p r' c' p') ∧ (∀ b cs, get st.b b = some cs → ∀ x ∈ cs, ¬ CelEx (Below' r c p) x) := by
  simp only [noLower, Bool.and_eq_true, List.all_eq_true, Bool.not_eq_true'] at h
  refine ⟨fun k v hk => ?_, fun b cs hb x hx he => ?_⟩
  · have h1 := h.1 _ (getmem hk)
    refine ⟨fun he => ?_, fun vs e => ?_⟩
    · cases v with
      | one x => simp only [SlotEx] at he; have := below_lower he; simp [SV.lower, this] at h1
      | agg cs =>
        obtain ⟨x, hx, he⟩ := he
        have := below_lower he
        simp only [SV.lower, List.any_eq_false] at h1
        exact h1 x hx this
      | ap r' c' q z i j =>
        obtain ⟨rfl, rfl, s, rfl, hs⟩ := he
        have : 0 < s.length := List.length_pos_iff.2 hs
        simp [SV.lower, this] at h1
      | tup vs => simp [SV.lower] at h1
      | _ => exact he
    · subst e
      simp [SV.lower] at h1
  · have h1 := h.2 _ (getmem hb)
    simp only [List.any_eq_false] at h1
    exact h1 x hx (below_lower he)
/-- Plain cells for plain cells: nothing below is lost. -/
theorem keeps_plain {r c z i j : Nat} {p : List (Nat × Nat)} {gs : List G} {t : G} {hv : Value} {rs : List (List G)} {row us : List G} (hg : g.gr r = some gs) (ht : gs[c]? = some t) (hm : atP t p = some (.sl true z hv rs)) (hrow : rs[i]? = some row)
    (hu : us.all isPv = true) (hl : j + us.length ≤ row.length) : Keeps Never g (g.setR r (gs.set c (setP t p (.sl true z hv (rs.set i (setCells row j us)))))) := by
  have h := keeps_setP (u := .sl true z hv (rs.set i (setCells row j us))) hg ht hm rfl rfl
  refine ⟨h.b, h.r, fun r' c' q m' _ hr' hn hh' => ?_⟩
  by_cases e : Below' r c p r' c' q
  · obtain ⟨rfl, rfl, s, rfl, hs⟩ := e
    have hc := (List.getElem?_eq_some_iff.1 ht).1
    have n1 : nodeAt (g.setR r' (gs.set c' (setP t p (.sl true z hv (rs.set i (setCells row j us)))))) r' c' p = some (.sl true z hv (rs.set i (setCells row j us))) := by
      simp only [nodeAt, setR_same, Option.bind_some, List.getElem?_set_self hc]
      exact atP_setP_self p hm
    have n0 : nodeAt g r' c' p = some (.sl true z hv rs) := by simp [nodeAt, hg, ht, hm]
    rw [nodeAt_append n1] at hn
    rw [nodeAt_append n0]
    cases s with
    | nil => exact absurd rfl hs
    | cons x s =>
      obtain ⟨i', j'⟩ := x
      have hi := (List.getElem?_eq_some_iff.1 hrow).1
      simp only [atP, Tr.own, cond_true, cellAt, Tr.rows] at hn ⊢
      by_cases ei : i' = i
      · subst ei
        rw [List.getElem?_set_self hi] at hn
        rw [hrow]
        simp only [Option.bind_some] at hn ⊢
        by_cases ej : j ≤ j' ∧ j' < j + us.length
        · exfalso
          have e1 : (setCells row j us)[j']? = us[j' - j]? := by
            rw [setCells, List.append_assoc, List.getElem?_append_right (by simp; omega), List.getElem?_append_left (by simp; omega)]
            congr 1; simp; omega
          rw [e1, List.getElem?_eq_getElem (by omega)] at hn
          have hp := List.all_eq_true.1 hu _ (List.getElem_mem (show j' - j < us.length by omega))
          cases hx : us[j' - j]'(by omega) with
          | pv v =>
            rw [hx] at hn
            cases s with
            | nil => simp [atP] at hn; subst hn; simp [Tr.held] at hh'
            | cons y s => simp [atP, Tr.own] at hn
          | sl => rw [hx] at hp; simp [isPv] at hp
          | no => rw [hx] at hp; simp [isPv] at hp
        · have e1 : (setCells row j us)[j']? = row[j']? := by
            rw [setCells]
            by_cases h1 : j' < j
            · rw [List.append_assoc, List.getElem?_append_left (by simp; omega), List.getElem?_take, if_pos h1]
            · rw [List.getElem?_append_right (by simp; omega), List.getElem?_drop]
              congr 1; simp; omega
          rw [e1] at hn
          exact ⟨m', hn, hh', rfl⟩
      · rw [List.getElem?_set_ne (fun h => ei h.symm)] at hn
        exact ⟨m', hn, hh', rfl⟩
  · exact h.h r' c' q m' e hr' hn hh'
theorem run_store {t : TypeId} {m : Nat} {ti : TypeInfo} {x y : Operand} (ho : o.op = .store t x y) (hi : P.info? t = some ti) (hs : ti.size = m) {ad : Addr} {us : List Value} {w' : World} (e : a.eval x = .pointer (some ad)) (hu : (a.eval y).cells = us.toArray) (hl : us.length = m)
    (hr : (storeCells ad us 0).run P w = .ok () w') : (execOp a.eval o).run P w = .ok .skip w' := by
  simp [execOp, ho, e, Instr.storeAt, Instr.sureAddr, storeVar, hu, sizeOf, typeInfo, hi, hs, hl, hr]
theorem do_store {t : TypeId} {m : Nat} {ti : TypeInfo} {x y : Operand} {x' y' : Opd} (h : Sim X n g st [] a w) (ho : o.op = .store t x y) (hi : P.info? t = some ti) (hs : ti.size = m) (hm0 : 0 < m) (hx : opdOk x x' = true) (hy : opdOk y y' = true) (hd : o.dst = none) (id : Nat)
    (hp : runP Te ((COp.store m x' y').prg o.dst id) st (fun _ st' => K st')) : o.wp P a w (Goal X n K) Q := by
  replace hp := ev_ok h hx hp
  obtain ⟨v, hv, hp⟩ := hp
  replace hp := ev_ok h hy hp
  obtain ⟨v1, hv1, hp⟩ := hp
  replace hp := cels_ok hv1 hp
  obtain ⟨cs, us, hu, hc, hp⟩ := hp
  simp only [runP, beq_iff_eq] at hp
  obtain ⟨hcm, hp⟩ := hp
  have hul : us.length = m := by rw [← hc.1]; exact hcm
  have fin : ∀ {w' : World} {g' : Gh} {st' : St}, (execOp a.eval o).run P w = .ok .skip w' → K st' → Sim X n g' st' [] a w' → o.wp P a w (Goal X n K) Q := fun hr hk hsim => by
    refine step_skip hr ?_
    rw [hd]
    exact ⟨_, _, hk, hsim⟩
  split at hp
  · rename_i b off
    simp only [SlotOK] at hv
    obtain ⟨A, hA, e⟩ := hv
    simp only [runP] at hp
    cases hb : get st.b b with
    | none => simp [hb] at hp
    | some old =>
      simp only [hb, decide_eq_true_eq] at hp
      obtain ⟨hl, hp⟩ := hp
      obtain ⟨w', hr, hsim⟩ := h.storeBox (P := P) hb hA hc hl (by omega)
      exact fin (run_store ho hi hs e hu hul hr) hp hsim
  · rename_i r c p z i j
    replace hp := takes_ok (hand := []) h hc hp
    obtain ⟨g1, st1, ts, h1, k1, e1, hp, hb1, hs1, hbb1⟩ := hp
    have hv' := SlotOK.keep (S := X.S) k1 (fun _ _ => rfl) (.ap r c p z i j) _ (never_slot _) (fun _ _ _ _ _ h => h) hv
    simp only [SlotOK] at hv'
    obtain ⟨_, hrr, hf⟩ := hv'
    simp only [storeAp, runP] at hp
    cases hr : get st1.r r with
    | none => simp [hr] at hp
    | some root =>
      simp only [hr, node] at hp
      split at hp
      · rename_i z2 hh rows hn
        simp only [runP, beq_iff_eq, Bool.and_eq_true, decide_eq_true_eq] at hp
        obtain ⟨rfl, ⟨hil, hjl⟩, hp⟩ := hp
        obtain ⟨gs, t0, hvv, rs, hg, rfl, ht0, hm0', rfl, hna, hR, hRm⟩ := h1.node hr hn
        obtain ⟨q, hn', hcc, e2, e⟩ := hf _ hna rfl
        simp only [hdr] at e2
        subst e2
        have hil' : i < rs.length := by simpa using hil
        obtain ⟨row, hrow⟩ : ∃ row, rs[i]? = some row := ⟨rs[i], List.getElem?_eq_getElem hil'⟩
        have rowE : (rs.map (·.map er)).getD i [] = row.map er := by
          simp only [List.getD_eq_getElem?_getD, List.getElem?_map, hrow]
          rfl
        have hrl : row.length = z2 := by
          cases hRm with
          | own _ _ _ _ _ h5 _ _ => exact h5 row (List.mem_of_getElem? hrow)
        have hjl' : j + ts.length ≤ z2 := by simpa using hjl
        have tsl : ts.length = us.length := by rw [← e1]; simp
        have eqr : (gs.set c (setP t0 p (.sl true z2 (.slice (some ⟨q, 0, none⟩) hn' hcc) (rs.set i (setCells row j ts))))).map er =
            putAt (gs.map er) c p (.sl true z2 () ((rs.map (·.map er)).set i (setCells ((rs.map (·.map er)).getD i []) j (ts.map er)))) := by
          rw [map_set_er, er_setP, rowE]
          simp [putAt, List.getElem?_map, ht0, er, erLL_eq, List.map_set, setCells]
        rw [rowE] at hp
        have allE : ∀ l : List G, (l.map er).all isPv = l.all isPv := fun l => by
          induction l with
          | nil => rfl
          | cons x l ih => cases x <;> simp [isPv, er] <;> simpa using ih
        rw [allE] at hp
        have close : ∀ (Ex : Nat → Nat → List (Nat × Nat) → Prop), Keeps Ex g1 (g1.setR r (gs.set c (setP t0 p (.sl true z2 (.slice (some ⟨q, 0, none⟩) hn' hcc) (rs.set i (setCells row j ts)))))) →
            (∀ k v, get st1.s k = some v → ¬ SlotEx Ex v ∧ ∀ vs, v = .tup vs → ∀ r c p, ¬ Ex r c p) → (∀ b cs, get st1.b b = some cs → ∀ x ∈ cs, ¬ CelEx Ex x) →
            K { st1 with r := rep st1.r r (putAt (gs.map er) c p (.sl true z2 () ((rs.map (·.map er)).set i (setCells (row.map er) j (ts.map er))))) } → o.wp P a w (Goal X n K) Q := fun Ex hk hsl hbx hK => by
          obtain ⟨w', hr', hsim⟩ := h1.storeAp (P := P) hg ht0 hm0' hrow hjl' hk hsl hbx
          rw [eqr, rowE] at hsim
          rw [e1] at hr'
          exact fin (run_store ho hi hs e hu hul hr') hK hsim
        cases hall : ts.all isPv with
        | true =>
          simp only [hall, cond_true, runP, hr] at hp
          exact close Never (keeps_plain hg ht0 hm0' hrow hall (by omega)) (fun k v _ => ⟨never_slot v, fun _ _ _ _ _ h => h⟩) (fun b cs _ x _ => never_cel x) hp
        | false =>
          simp only [hall, cond_false, runP, hr] at hp
          obtain ⟨hlo, hp⟩ := hp
          obtain ⟨hsl, hbx⟩ := noLower_ok hlo
          exact close (Below' r c p) (keeps_setP hg ht0 hm0' rfl rfl) hsl hbx hp
      · exact hp.elim
  · exact hp.elim
end
end Go.X
