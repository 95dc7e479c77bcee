/- Taking out, lending, laying down. -/
import Derived.Test.YtihpdefnajimgaaXStep
namespace Go.X
mutual
def up : T → G
  | .pv v => .pv v
  | .sl o z _ rows => .sl o z undef (upLL rows)
  | .no _ => .no undef
def upL : List T → List G
  | [] => []
  | t :: ts => up t :: upL ts
def upLL : List (List T) → List (List G)
  | [] => []
  | r :: rs => upL r :: upLL rs
end
mutual
theorem er_up : ∀ t : T, er (up t) = t
  | .pv v => by simp [up, er]
  | .sl o z h rows => by simp [up, er, erLL_upLL rows]
  | .no _ => by simp [up, er]
theorem erL_upL : ∀ ts : List T, erL (upL ts) = ts
  | [] => by simp [upL, erL]
  | t :: ts => by simp [upL, erL, er_up t, erL_upL ts]
theorem erLL_upLL : ∀ rs : List (List T), erLL (upLL rs) = rs
  | [] => by simp [upLL, erLL]
  | r :: rs => by simp [upLL, erLL, erL_upL r, erLL_upLL rs]
end
theorem upLL_length : ∀ rs : List (List T), (upLL rs).length = rs.length
  | [] => by simp [upLL]
  | r :: rs => by simp [upLL, upLL_length rs]
theorem lentL_eq : ∀ ts : List T, lentL ts = ts.map lent
  | [] => by simp [lentL]
  | t :: ts => by simp [lentL, lentL_eq ts]
theorem lentLL_eq : ∀ rs : List (List T), lentLL rs = rs.map (·.map lent)
  | [] => by simp [lentLL]
  | r :: rs => by simp [lentLL, lentL_eq, lentLL_eq rs]
theorem wholeL_eq : ∀ ts : List T, wholeL ts = ts.all whole
  | [] => by simp [wholeL]
  | t :: ts => by simp [wholeL, wholeL_eq ts]
theorem wholeLL_eq : ∀ rs : List (List T), wholeLL rs = rs.all (·.all whole)
  | [] => by simp [wholeLL]
  | r :: rs => by simp [wholeLL, wholeL_eq, wholeLL_eq rs]
theorem noRoL_eq : ∀ ts : List T, noRoL ts = ts.all noRo
  | [] => by simp [noRoL]
  | t :: ts => by simp [noRoL, noRoL_eq ts]
theorem noRoLL_eq : ∀ rs : List (List T), noRoLL rs = rs.all (·.all noRo)
  | [] => by simp [noRoLL]
  | r :: rs => by simp [noRoLL, noRoL_eq, noRoLL_eq rs]
theorem Rd.inv {S : Nat → Prop} {w : World} {z : Nat} {rows : List (List T)} {v : Value} (h : Rd S w (.sl false z () rows) v) : ∃ (a : Option Addr) (cap : Nat) (u : Nat → Nat → Value), v = .slice a rows.length cap ∧ rows.length ≤ cap ∧ cap ≤ maxLen ∧ (∀ r ∈ rows, r.length = z) ∧
    (∀ i r j t, rows[i]? = some r → r[j]? = some t → ∃ ad, a = some ad ∧ S ad.block ∧ w.cell? (ad.add (i * z + j)) = some (u i j)) ∧ (∀ i r j t, rows[i]? = some r → r[j]? = some t → Rd S w t (u i j)) := by
  cases h with
  | sl u h1 h2 h3 h4 h5 => exact ⟨_, _, u, rfl, h1, h2, h3, h4, h5⟩
theorem Rd.lent_eq {S : Nat → Prop} {w : World} {t : T} {v : Value} (h : Rd S w t v) : lent t = t := by
  induction h with
  | pv => simp [lent]
  | @sl z cap a rows u _ _ _ _ _ ih =>
    simp only [lent, lentLL_eq]
    congr 1
    apply List.ext_getElem?
    intro i
    rw [List.getElem?_map]
    cases hr : rows[i]? with
    | none => rfl
    | some r =>
      simp only [Option.map_some, Option.some.injEq]
      apply List.ext_getElem?
      intro j
      rw [List.getElem?_map]
      cases ht : r[j]? with
      | none => rfl
      | some t => simp [ih i r j t hr ht]
theorem cell_at {w : World} {q e o : Nat} {cur : Array Value} {fz : Nat × Nat} (h : w.heap[q]? = some (.cells cur e fz)) : w.cell? ⟨q, o, none⟩ = cur[o]? := cell_of_row w q o cur e fz h
theorem add_none (q o k : Nat) : (⟨q, o, none⟩ : Addr).add k = ⟨q, o + k, none⟩ := by unfold Addr.add; split <;> simp_all
theorem add_zero (ad : Addr) : ad.add 0 = ad := rfl
theorem add_pos (ad : Addr) {x : Nat} (h : x ≠ 0) : ad.add x = { ad with off := ad.off + x, spot := none } := if_neg h
theorem add_add (ad : Addr) (x y : Nat) : (ad.add x).add y = ad.add (x + y) := by
  by_cases hx : x = 0
  · subst hx; rw [add_zero, Nat.zero_add]
  · by_cases hy : y = 0
    · subst hy; rw [add_zero, Nat.add_zero]
    · rw [add_pos ad hx, add_pos _ hy, add_pos ad (by omega)]
      simp [Nat.add_assoc]
theorem take_get {l : List Value} {m k : Nat} {u : Value} (h : (l.take m)[k]? = some u) : l[k]? = some u := by
  rw [List.getElem?_take] at h
  split at h
  · exact h
  · cases h
theorem rp_lend {S S1 : Nat → Prop} {w : World} {t : G} (h : Rp S w t) (hw : whole (er t) = true) (h1 : ∀ b, S b → S1 b) (h2 : ∀ b, 0 < cnt b t → S1 b) : Rd S1 w (lent (er t)) (hdr t) := by
  induction h with
  | pv h => exact .pv h
  | no => simp [er, whole] at hw
  | ro h => rw [h.lent_eq]; exact h.move h1 (fun _ _ => rfl)
  | @nil z =>
    exact Rd.sl (rows := []) (fun _ _ => undef) (Nat.le_refl _) (by simp [maxLen]) (fun r hr => by cases hr) (fun i r j t hr => by simp at hr) (fun i r j t hr => by simp at hr)
  | @own z q cap e cur fz rows hg hz hl hm hs hr hd _ ih =>
    simp only [er, erLL_eq, whole, wholeLL_eq, List.all_eq_true, List.mem_map, forall_exists_index, and_imp, forall_apply_eq_imp_iff₂] at hw
    simp only [er, erLL_eq, lent, lentLL_eq, hdr, List.map_map]
    have hlen : rows.length = (rows.map (fun r => (r.map er).map lent)).length := by simp
    have key := Rd.sl (S := S1) (w := w) (z := z) (a := some ⟨q, 0, none⟩) (cap := cap) (rows := rows.map (fun r => (r.map er).map lent)) (fun i j => cur.toList.getD (i * z + j) undef) (by simpa using hl) hm
      (fun r hr' => by obtain ⟨r', h', rfl⟩ := List.mem_map.1 hr'; simpa using hr r' h') (fun i r j t hri htj => ?_) (fun i r j t hri htj => ?_)
    · rw [← hlen] at key
      exact key
    · rw [List.getElem?_map] at hri
      cases hri' : rows[i]? with
      | none => simp [hri'] at hri
      | some r0 =>
        simp [hri'] at hri
        subst hri
        rw [List.getElem?_map] at htj
        cases htj' : r0[j]? with
        | none => simp [htj'] at htj
        | some t0 =>
          refine ⟨⟨q, 0, none⟩, rfl, h2 q (by simp [cnt, hb]; omega), ?_⟩
          have e := hds_get i j r0 t0 hr hri' htj'
          rw [← hd] at e
          have e := take_get e
          rw [add_none, cell_at hg, Nat.zero_add, List.getD_eq_getElem?_getD, e]
          simpa using e
    · rw [List.getElem?_map] at hri
      cases hri' : rows[i]? with
      | none => simp [hri'] at hri
      | some r0 =>
        simp [hri'] at hri
        subst hri
        rw [List.getElem?_map] at htj
        cases htj' : r0[j]? with
        | none => simp [htj'] at htj
        | some t0 =>
          simp [htj'] at htj
          subst htj
          have e := hds_get i j r0 t0 hr hri' htj'
          rw [← hd] at e
          have e := take_get e
          have hr0 := List.mem_of_getElem? hri'
          have ht0 := List.mem_of_getElem? htj'
          have := ih r0 hr0 t0 ht0 (hw r0 hr0 t0 ht0) (fun b hb0 => h2 b (by
            have a1 := cnt_mem b r0 t0 ht0
            have a2 := cntL_mem b rows r0 hr0
            simp only [cnt]
            omega))
          simp only [List.getD_eq_getElem?_getD, e, Option.getD_some]
          exact this
/-- A part of a slice that is only read. -/
theorem Rd.part {S : Nat → Prop} {w : World} {z l m len cap : Nat} {a : Option Addr} {rows : List (List T)} (h : Rd S w (.sl false z () rows) (.slice a len cap)) (hl : l ≤ m) (hm : m ≤ rows.length) :
    Rd S w (.sl false z () ((rows.drop l).take (m - l))) (.slice (if cap = l then a else a.map (·.add (l * z))) (m - l) (cap - l)) := by
  cases h with
  | sl u h1 h2 h3 h4 h5 =>
    have hlen : m - l = ((rows.drop l).take (m - l)).length := by simp; omega
    have key := Rd.sl (S := S) (w := w) (z := z) (a := if cap = l then a else a.map (·.add (l * z))) (cap := cap - l) (rows := (rows.drop l).take (m - l)) (fun i j => u (l + i) j) (by rw [← hlen]; omega) (by omega)
      (fun r hr => h3 r (List.mem_of_mem_drop (List.mem_of_mem_take hr))) (fun i r j t hr ht => ?_) (fun i r j t hr ht => ?_)
    · rw [← hlen] at key
      exact key
    · rw [List.getElem?_take] at hr
      split at hr
      · rename_i hi
        rw [List.getElem?_drop] at hr
        obtain ⟨ad, rfl, hS, hc⟩ := h4 (l + i) r j t hr ht
        rw [if_neg (by omega)]
        refine ⟨ad.add (l * z), rfl, by rw [add_block]; exact hS, ?_⟩
        rw [Nat.add_mul, Nat.add_assoc] at hc
        rw [add_add]
        exact hc
      · cases hr
    · rw [List.getElem?_take] at hr
      split at hr
      · rw [List.getElem?_drop] at hr
        exact h5 (l + i) r j t hr ht
      · cases hr
/-- A part of a slice of the call's own that is lent. -/
theorem rf_lend {S S1 : Nat → Prop} {w : World} {z off len : Nat} {hv v : Value} {rs : List (List G)} (h : Rp S w (.sl true z hv rs)) (hf : RfOK hv z off len v) (hl : off + len ≤ rs.length) (hw : wholeLL (((rs.map (·.map er)).drop off).take len) = true)
    (h1 : ∀ b, S b → S1 b) (h2 : ∀ b, 0 < cnt b (.sl true z hv rs) → S1 b) : Rd S1 w (.sl false z () (lentLL (((rs.map (·.map er)).drop off).take len))) v := by
  have h1w : Rd S1 w (lent (er (.sl true z hv ((rs.drop off).take len)))) v ∨ True := .inr trivial
  obtain ⟨hA, hn, hc, a', rfl, rfl, hle, h0, hlt⟩ := hf
  rw [wholeLL_eq] at hw
  simp only [lentLL_eq]
  have hlen : len = ((((rs.map (·.map er)).drop off).take len).map (·.map lent)).length := by simp; omega
  cases h with
  | nil =>
    have : len = 0 := by simp at hl; omega
    subst this
    exact Rd.sl (rows := []) (fun _ _ => undef) (Nat.zero_le _) (by simp [maxLen]) (fun r hr => by cases hr) (fun i r j t hr => by simp at hr) (fun i r j t hr => by simp at hr)
  | @own _ q cap e cur fz _ hg hz hl2 hm hs hr hd hR =>
    have get : ∀ (i : Nat) (r : List T) (j : Nat) (t : T), ((((rs.map (·.map er)).drop off).take len).map (·.map lent))[i]? = some r → r[j]? = some t → i < len ∧ ∃ r0 t0, rs[off + i]? = some r0 ∧ r0[j]? = some t0 ∧ t = lent (er t0) ∧ whole (er t0) = true := by
      intro i r j t hri htj
      rw [List.getElem?_map, List.getElem?_take] at hri
      split at hri
      · rename_i hi
        rw [List.getElem?_drop, List.getElem?_map] at hri
        cases hr0 : rs[off + i]? with
        | none => simp [hr0] at hri
        | some r0 =>
          simp [hr0] at hri
          subst hri
          rw [List.getElem?_map] at htj
          cases ht0 : r0[j]? with
          | none => simp [ht0] at htj
          | some t0 =>
            simp [ht0] at htj
            refine ⟨hi, r0, t0, rfl, ht0, htj.symm, ?_⟩
            have := List.all_eq_true.1 hw (r0.map er) (List.mem_of_getElem? (i := i) (by rw [List.getElem?_take, if_pos hi, List.getElem?_drop, List.getElem?_map, hr0]; rfl))
            exact List.all_eq_true.1 this (er t0) (List.mem_map.2 ⟨t0, List.mem_of_getElem? ht0, rfl⟩)
      · simp at hri
    have key := Rd.sl (S := S1) (w := w) (z := z) (a := a') (cap := hc - off) (rows := (((rs.map (·.map er)).drop off).take len).map (·.map lent)) (fun i j => cur.toList.getD ((off + i) * z + j) undef)
      (by rw [← hlen]; omega) (by omega)
      (fun r hr' => by
        obtain ⟨r1, h', rfl⟩ := List.mem_map.1 hr'
        have := List.mem_of_mem_drop (List.mem_of_mem_take h')
        obtain ⟨r2, h'', rfl⟩ := List.mem_map.1 this
        simpa using hr r2 h'') (fun i r j t hri htj => ?_) (fun i r j t hri htj => ?_)
    · rw [← hlen] at key
      exact key
    · obtain ⟨hi, r0, t0, hr0, ht0, rfl, _⟩ := get i r j t hri htj
      obtain ⟨q', hq, rfl⟩ := hlt (by omega)
      simp at hq
      subst hq
      refine ⟨_, rfl, h2 q (by simp [cnt, hb]; omega), ?_⟩
      have e := hds_get (off + i) j r0 t0 hr hr0 ht0
      rw [← hd] at e
      have e := take_get e
      rw [add_none, cell_at hg, List.getD_eq_getElem?_getD, e]
      rw [Nat.add_mul, Nat.add_assoc] at e
      simpa using e
    · obtain ⟨hi, r0, t0, hr0, ht0, rfl, hw0⟩ := get i r j t hri htj
      have e := hds_get (off + i) j r0 t0 hr hr0 ht0
      rw [← hd] at e
      have e := take_get e
      have m1 := List.mem_of_getElem? hr0
      have m2 := List.mem_of_getElem? ht0
      simp only [List.getD_eq_getElem?_getD, e, Option.getD_some]
      exact rp_lend (hR r0 m1 t0 m2) hw0 h1 (fun b hb0 => h2 b (by
        have a1 := cnt_mem b r0 t0 m2
        have a2 := cntL_mem b rs r0 m1
        simp only [cnt]
        omega))

section
variable {X : Ctx} {n : Nat} {g : Gh} {st : St} {hand : List G} {a : Act} {w : World} {α : Type} {Te : Nat → List AV → Res → Prop} {Q : α → St → Prop}
theorem Sim.sub {hand' : List G} (h : Sim X n g st hand a w) (hm : ∀ t ∈ hand', t ∈ hand) (hc : ∀ b, cntL b hand' ≤ cntL b hand) : Sim X n g st hand' a w :=
  { h with
    held := fun t ht => h.held t (hm t ht)
    sole := by obtain ⟨N, h1, h2⟩ := h.sole; exact ⟨N, h1, fun b => by have := h2 b; have := hc b; omega⟩
    mine := fun b k hb => h.mine b k (by have := hc b; omega) }
/-- What no call of ours owns needs no owner. -/
theorem Sim.more {u : G} (h : Sim X n g st hand a w) (hu : Rp X.S w u) (hc : ∀ b, cnt b u = 0) : Sim X n g st (u :: hand) a w :=
  { h with
    held := fun t ht => by
      rcases List.mem_cons.1 ht with rfl | ht
      · exact hu
      · exact h.held t ht
    sole := by obtain ⟨N, h1, h2⟩ := h.sole; exact ⟨N, h1, fun b => by have := h2 b; have := hc b; simp only [cntL]; omega⟩
    mine := fun b k hb => h.mine b k (by have := hc b; simp only [cntL] at hb; omega) }
theorem take_ok {k : T → Prg α} {c : Cel} {v : Value} (h : Sim X n g st hand a w) (hc : CelOK X.S g w c v) (hp : runP Te (takeC c k) st Q) :
    ∃ g' st' u, Sim X n g' st' (u :: hand) a w ∧ Keeps Never g g' ∧ hdr u = v ∧ runP Te (k (er u)) st' Q ∧ g'.gb = g.gb ∧ st'.s = st.s ∧ st'.b = st.b := by
  cases c with
  | pv u =>
    obtain ⟨rfl, h1⟩ := hc
    exact ⟨g, st, .pv v, h.more (.pv h1) (fun b => by simp [cnt]), Keeps.refl _ _, rfl, by simpa [takeC, er] using hp, rfl, rfl, rfl⟩
  | nils z =>
    obtain rfl := hc
    exact ⟨g, st, .sl true z (.slice none 0 0) [], h.more .nil (fun b => by simp [cnt, hb, cntLL]), Keeps.refl _ _, rfl, by simpa [takeC, er, erLL] using hp, rfl, rfl, rfl⟩
  | ro z rows =>
    have he : er (.sl false z v (upLL rows)) = .sl false z () rows := by simp [er, erLL_upLL]
    exact ⟨g, st, .sl false z v (upLL rows), h.more (.ro (by rw [show er (.sl false z v (upLL rows)) = er (Tr.sl false z v (upLL rows)) from rfl, he]; exact hc)) (fun b => by simp [cnt]), Keeps.refl _ _, rfl, by rw [he]; simpa [takeC] using hp, rfl, rfl, rfl⟩
  | dead => simp [takeC, runP] at hp
  | rf r c p z off len =>
    simp only [takeC, runP] at hp
    cases hr : get st.r r with
    | none => simp [hr] at hp
    | some cs =>
      simp only [hr, node] at hp
      split at hp
      · rename_i z' hh rows hn
        simp only [runP, Bool.and_eq_true, beq_iff_eq, decide_eq_true_eq, hr] at hp
        obtain ⟨rfl, ⟨rfl, hl⟩, hp⟩ := hp
        obtain ⟨g', u, h1, h2, h3, h4, _, _, h7⟩ := h.take hr hn hl hc
        exact ⟨g', _, u, h1, h2, h3, by rw [h4]; exact hp, h7, rfl, rfl⟩
      · simp [runP] at hp
theorem takes_ok : ∀ {cs : List Cel} {vs : List Value} {k : List T → Prg α} {g : Gh} {st : St} {hand : List G}, Sim X n g st hand a w → CelsOK X.S g w cs vs → runP Te (takeL cs k) st Q →
    ∃ g' st' us, Sim X n g' st' (us ++ hand) a w ∧ Keeps Never g g' ∧ us.map hdr = vs ∧ runP Te (k (us.map er)) st' Q ∧ g'.gb = g.gb ∧ st'.s = st.s ∧ st'.b = st.b
  | [], vs, k, g, st, hand, h, hc, hp => by
    have : vs = [] := List.eq_nil_of_length_eq_zero (by simpa using hc.1.symm)
    subst this
    exact ⟨g, st, [], h, Keeps.refl _ _, rfl, by simpa [takeL] using hp, rfl, rfl, rfl⟩
  | c :: cs, [], k, g, st, hand, h, hc, hp => by simp [CelsOK] at hc
  | c :: cs, v :: vs, k, g, st, hand, h, hc, hp => by
    simp only [takeL] at hp
    obtain ⟨g1, st1, u, h1, k1, e1, hp1, b1, s1, bb1⟩ := take_ok h (hc.2 0 c v rfl rfl) hp
    have hcs : CelsOK X.S g1 w cs vs := ⟨by simpa using hc.1, fun i c v h h' => (hc.2 (i + 1) c v (by simpa using h) (by simpa using h')).keep k1 (fun _ _ => rfl) (never_cel c)⟩
    obtain ⟨g2, st2, us, h2, k2, e2, hp2, b2, s2, bb2⟩ := takes_ok h1 hcs hp1
    refine ⟨g2, st2, u :: us, h2.sub (fun t ht => ?_) (fun b => ?_), k1.trans k2, by simp [e1, e2], hp2, b2.trans b1, s2.trans s1, bb2.trans bb1⟩
    · simp only [List.cons_append, List.mem_cons, List.mem_append] at ht ⊢
      rcases ht with h | h | h
      · exact .inr (.inl h)
      · exact .inl h
      · exact .inr (.inr h)
    · simp only [List.cons_append, cntL, cntL_append]; omega
/-- Blocks that may be read while a call is under way. -/
def LendS (X : Ctx) (g : Gh) : Nat → Prop := fun b => X.S b ∨ ∃ r, 0 < rcnt b (g.gr r)
theorem lend_ok {k : T → Prg α} {c : Cel} {v : Value} (h : Sim X n g st hand a w) (hc : CelOK X.S g w c v) (hp : runP Te (lendC c k) st Q) :
    ∃ t, Rd (if isRf c then LendS X g else X.S) w t v ∧ runP Te (k t) st Q := by
  cases c with
  | pv u =>
    obtain ⟨rfl, h1⟩ := hc
    exact ⟨.pv v, .pv h1, by simpa [lendC] using hp⟩
  | nils z =>
    obtain rfl := hc
    exact ⟨.sl false z () [], Rd.sl (rows := []) (fun _ _ => undef) (Nat.le_refl _) (by simp [maxLen]) (fun r hr => by cases hr) (fun i r j t hr => by simp at hr) (fun i r j t hr => by simp at hr), by simpa [lendC] using hp⟩
  | ro z rows => exact ⟨_, hc, by simpa [lendC] using hp⟩
  | dead => simp [lendC, runP] at hp
  | rf r c p z off len =>
    simp only [lendC, runP] at hp
    cases hr : get st.r r with
    | none => simp [hr] at hp
    | some cs =>
      simp only [hr, node] at hp
      split at hp
      · rename_i z' hh rows hn
        simp only [runP, Bool.and_eq_true, beq_iff_eq, decide_eq_true_eq] at hp
        obtain ⟨rfl, ⟨hl, hwh⟩, hp⟩ := hp
        obtain ⟨gs, t, hv', rs, hg, rfl, ht, hm, rfl, hna, hR, hRm⟩ := h.node hr hn
        have hf := hc.2.2 _ hna rfl
        refine ⟨_, rf_lend hRm hf (by simpa using hl) hwh (fun b hb => .inl hb) (fun b hb => .inr ⟨r, ?_⟩), hp⟩
        have a1 := cnt_atP b p hm
        have a2 := cntL_get b ht
        rw [hg]
        simp only [rcnt]
        omega
      · simp [runP] at hp
theorem Rd.up_ {S S' : Nat → Prop} {w : World} {t : T} {v : Value} (h : Rd S w t v) (hs : ∀ b, S b → S' b) : Rd S' w t v := h.move hs (fun _ _ => rfl)
theorem lends_ok {S1 : Nat → Prop} (hS : ∀ b, X.S b → S1 b) : ∀ {cs : List Cel} {vs : List Value} {k : List T → Prg α}, Sim X n g st hand a w → CelsOK X.S g w cs vs → runP Te (lendL cs k) st Q → (cs.any isRf = true → ∀ b, LendS X g b → S1 b) →
    ∃ ts, ts.length = vs.length ∧ (∀ (i : Nat) (t : T) (v : Value), ts[i]? = some t → vs[i]? = some v → Rd S1 w t v) ∧ runP Te (k ts) st Q
  | [], vs, k, h, hc, hp, _ => by
    have : vs = [] := List.eq_nil_of_length_eq_zero (by simpa using hc.1.symm)
    subst this
    exact ⟨[], rfl, fun i t v h => by simp at h, by simpa [lendL] using hp⟩
  | c :: cs, [], k, h, hc, hp, _ => by simp [CelsOK] at hc
  | c :: cs, v :: vs, k, h, hc, hp, hx => by
    simp only [lendL] at hp
    obtain ⟨t, ht, hp1⟩ := lend_ok h (hc.2 0 c v rfl rfl) hp
    have hcs : CelsOK X.S g w cs vs := ⟨by simpa using hc.1, fun i c v h h' => hc.2 (i + 1) c v (by simpa using h) (by simpa using h')⟩
    obtain ⟨ts, e, hts, hp2⟩ := lends_ok hS h hcs hp1 (fun hh => hx (by simp [hh]))
    refine ⟨t :: ts, by simp [e], fun i t' v' h1 h2 => ?_, hp2⟩
    cases i with
    | zero =>
      simp at h1 h2
      subst h1; subst h2
      cases hrf : isRf c with
      | true => rw [hrf] at ht; exact ht.up_ (hx (by simp [hrf]))
      | false => rw [hrf] at ht; exact ht.up_ hS
    | succ i => exact hts i t' v' (by simpa using h1) (by simpa using h2)
end
end Go.X
