/- A call, held against the model. -/
import Derived.Test.YtihpdefnajimgaaXFun
namespace Go.X
section
variable {P : Program} {X : Ctx} {n : Nat} {g : Gh} {st : St} {hand : List G} {a : Act} {w w' : World} {α : Type} {Te : Nat → List AV → Res → Prop} {o : Oper} {K : St → Prop} {Q : Exit → Act → World → Prop}
/-- The order of what is written down makes no difference. -/
theorem Sim.ext {st' : St} (h : Sim X n g st hand a w) (h1 : ∀ k, get st'.s k = get st.s k) (h2 : ∀ k, get st'.b k = get st.b k) (h3 : ∀ k, get st'.r k = get st.r k) : Sim X n g st' hand a w :=
  { h with slots := fun t v ht => h.slots t v (by rw [← h1]; exact ht), boxes := fun b cs hb => h.boxes b cs (by rw [← h2]; exact hb), nobox := fun b hb => h.nobox b (by rw [← h2]; exact hb), roots := fun r ts hr => h.roots r ts (by rw [← h3]; exact hr), noroot := fun r hr => h.noroot r (by rw [← h3]; exact hr) }
/-- The cells of a variable are told another way. -/
theorem Sim.recel (h : Sim X n g st hand a w) {b off : Nat} {cs pl : List Cel} {A : Addr} {vs : List Value} (hb : get st.b b = some cs) (hA : g.gb b = some A) (hl : off + pl.length ≤ cs.length) (hp : CelsOK X.S g w pl vs) (hM : InMem w ⟨A.block, A.off + off, none⟩ vs) :
    Sim X n g { st with b := rep st.b b (cs.take off ++ pl ++ cs.drop (off + pl.length)) } hand a w :=
  { h with
    boxes := fun k ks hk => by
      simp only [get_rep_if] at hk
      split at hk
      · rename_i e
        subst e
        simp only [Option.some.injEq] at hk
        subst hk
        obtain ⟨A', us, hA', f2, f3, f4, f5⟩ := h.boxes k cs hb
        rw [hA] at hA'
        simp at hA'
        subst hA'
        have hvl : vs.length = pl.length := hp.1.symm
        have hul : us.length = cs.length := f4.1.symm
        refine ⟨A, us.take off ++ vs ++ us.drop (off + pl.length), hA, f2, fun i u hu => ?_, ((f4.take off).append hp).append (f4.drop _), ?_⟩
        · by_cases hin : off ≤ i ∧ i < off + vs.length
          · have e1 := seg_in us off vs (by omega) (i - off) (by omega)
            rw [hvl, show off + (i - off) = i by omega, hu] at e1
            have := hM (i - off) u e1.symm
            simp only [Nat.add_assoc] at this
            rwa [show off + (i - off) = i by omega] at this
          · have hi : i < us.length := by
              have := (List.getElem?_eq_some_iff.1 hu).1
              rw [← hvl, seg_len us off vs (by omega)] at this
              exact this
            have e1 := seg_out us off vs (by omega) i (by omega)
            rw [hvl] at e1
            rw [e1] at hu
            exact f3 i u hu
        · rcases f5 with f5 | ⟨f5, x, hx, e1, e2, e3⟩
          · exact .inl f5
          · exact .inr ⟨f5, x, hx, e1, e2, by rw [← e3]; simp; omega⟩
      · exact h.boxes k ks hk
    nobox := fun k hk => by
      simp only [get_rep_if] at hk
      split at hk
      · cases hk
      · exact h.nobox k hk }
theorem Sim.boxS (h : Sim X n g st hand a w) {k : Nat} {A : Addr} (hA : g.gb k = some A) : ¬ X.S A.block ∧ A.block < w.heap.size ∧ (∀ b, b < X.w0.heap.size → ¬ X.F b → (∀ x ∈ X.R, x.1 ≠ b) → A.block ≠ b) := by
  cases hb : get st.b k with
  | none => rw [h.nobox k hb] at hA; cases hA
  | some cs =>
    obtain ⟨A', us, e, f2, _, _, f5⟩ := h.boxes k cs hb
    rw [hA] at e
    simp at e
    subst e
    refine ⟨fun hS => ?_, f2, fun b hb hF hR e => ?_⟩
    · obtain ⟨s1, _, s3⟩ := X.stay _ hS
      rcases f5 with f5 | ⟨_, x, hx, e1, _⟩
      · omega
      · exact s3 x hx e1.symm
    · rcases f5 with f5 | ⟨_, x, hx, e1, _⟩
      · omega
      · exact hR x hx (by rw [← e1, e])
/-- Behind a call: what was handed over has turned, and the variables that were pointed to. -/
theorem Sim.after {us news : List G} (h : Sim X n g st (us ++ hand) a w) (Pk : Nat → Prop) (hos : w'.os = w.os) (htp : w'.tape = w.tape) (hout : w'.output = w.output) (hsz : w.heap.size ≤ w'.heap.size)
    (hblk : ∀ b, b < w.heap.size → cntL b us = 0 → (∀ k A, Pk k → g.gb k = some A → A.block ≠ b) → w'.heap[b]? = w.heap[b]?)
    (hbox : ∀ k A cs, Pk k → g.gb k = some A → get st.b k = some cs → ∃ off vs, off + vs.length ≤ cs.length ∧ InMem w' ⟨A.block, A.off + off, none⟩ vs ∧ (∀ i, off ≤ i → i < off + vs.length → cs[i]? = some .dead) ∧
      ∀ o, ¬ (A.off + off ≤ o ∧ o < A.off + off + vs.length) → w'.cell? ⟨A.block, o, none⟩ = w.cell? ⟨A.block, o, none⟩ ∧ w'.frozen? ⟨A.block, o, none⟩ = w.frozen? ⟨A.block, o, none⟩)
    (hr : ∀ t ∈ news, Rp X.S w' t) (hc : ∀ b, cntL b news ≤ cntL b us ∨ (w.heap.size ≤ b ∧ cntL b news ≤ 1)) : Sim X n g st (news ++ hand) a w' := by
  have hS : ∀ b, X.S b → w'.heap[b]? = w.heap[b]? := fun b hb => hblk b (Nat.lt_of_lt_of_le (X.stay b hb).1 h.frame.size)
    (by
      by_cases h0 : 0 < cntL b us
      · exact absurd hb (h.mine b 0 (by rw [cntL_append]; omega)).1
      · omega) (fun k A _ hA e => (h.boxS hA).1 (e ▸ hb))
  have hF0 : ∀ b, b < X.w0.heap.size → ¬ X.F b → cntL b us = 0 := fun b hb hF => by
    by_cases h0 : 0 < cntL b us
    · rcases (h.mine b 0 (by rw [cntL_append]; omega)).2 with h1 | h1
      · omega
      · exact absurd h1 hF
    · omega
  have hroot : ∀ r gs, g.gr r = some gs → ∀ b, 0 < cntL b gs → w'.heap[b]? = w.heap[b]? := fun r gs hg b hb => by
    have h1 := h.sole.one b r
    have h2 : cntL b gs ≤ g.has b r := by simp [Gh.has, hg, rcnt]
    rw [cntL_append] at h1
    refine hblk b (h.lt b r (by omega)) (by omega) (fun k A _ hA e => ?_)
    subst e
    by_cases ek : k = r
    · subst ek
      simp only [Gh.has, hA, bcnt, hg, rcnt, if_true] at h1
      omega
    · have := h.sole.two ek A.block
      simp only [Gh.has, hA, bcnt, hg, rcnt, if_true] at this
      omega
  have hhand : ∀ b, 0 < cntL b hand → w'.heap[b]? = w.heap[b]? := fun b hb => by
    have h1 := h.sole.one b 0
    rw [cntL_append] at h1
    refine hblk b (h.lt b 0 (by rw [cntL_append]; omega)) (by omega) (fun k A _ hA e => ?_)
    subst e
    have := h.sole.one A.block k
    simp only [Gh.has, hA, bcnt, if_true, cntL_append] at this
    omega
  refine { frame := ⟨hos.trans h.frame.os, htp.trans h.frame.tape, hout.trans h.frame.output, Nat.le_trans h.frame.size hsz, fun b hb hF hR => ?_, fun x hx o ho => ?_⟩,
           defers := h.defers, tmps := h.tmps, slots := fun t v ht => SlotOK.keep (Keeps.refl Never g) hS v _ (never_slot v) (fun _ _ _ _ _ h => h) (h.slots t v ht), boxes := fun b cs hb => ?_, nobox := h.nobox, roots := h.roots, noroot := h.noroot,
           reps := fun r gs hg t ht => (h.reps r gs hg t ht).move (fun _ h => h) hS (fun b hb => hroot r gs hg b (by have := cnt_mem b gs t ht; omega)), held := fun t ht => ?_, sole := ?_, pb := h.pb, hold := h.hold, mine := fun b k hb => ?_ }
  · exact (hblk b (Nat.lt_of_lt_of_le hb h.frame.size) (hF0 b hb hF) (fun k A _ hA => (h.boxS hA).2.2 b hb hF hR)).trans (h.frame.block b hb hF hR)
  · have base := h.frame.range x hx o ho
    by_cases ht : ∃ k A, Pk k ∧ g.gb k = some A ∧ A.block = x.1
    · obtain ⟨k, A, hk, hA, e⟩ := ht
      cases hb : get st.b k with
      | none => rw [h.nobox k hb] at hA; cases hA
      | some cs =>
        obtain ⟨off, vs, h1, h2, h3, h4⟩ := hbox k A cs hk hA hb
        obtain ⟨A', us', e', _, _, _, f5⟩ := h.boxes k cs hb
        rw [hA] at e'
        simp at e'
        subst e'
        rcases f5 with f5 | ⟨_, y, hy, e1, e2, e3⟩
        · have := (X.apart x hx).2; omega
        · have exy := X.uniq x hx y hy (by rw [← e, e1])
          subst exy
          rw [← base.1, ← base.2, ← e]
          exact h4 o (by omega)
    · have hs : w'.heap[x.1]? = w.heap[x.1]? := hblk x.1 (Nat.lt_of_lt_of_le (X.apart x hx).2 h.frame.size) (hF0 x.1 (X.apart x hx).2 (X.apart x hx).1) (fun k A hk hA e => ht ⟨k, A, hk, hA, e⟩)
      rw [World.cell?_of_block (w := w) (a := ⟨x.1, o, none⟩) hs, World.frozen?_of_block (w := w) (a := ⟨x.1, o, none⟩) hs]
      exact base
  · obtain ⟨A, vs, h1, h2, h3, h4, h5⟩ := h.boxes b cs hb
    by_cases hk : Pk b
    · obtain ⟨off, ws, k1, k2, k3, k4⟩ := hbox b A cs hk h1 hb
      have hvl : vs.length = cs.length := h4.1.symm
      refine ⟨A, vs.take off ++ ws ++ vs.drop (off + ws.length), h1, Nat.lt_of_lt_of_le h2 hsz, fun i u hu => ?_, ⟨by rw [seg_len vs off ws (by omega)]; exact hvl.symm, fun i c u hc hu => ?_⟩, h5⟩
      · by_cases hin : off ≤ i ∧ i < off + ws.length
        · have e1 := seg_in vs off ws (by omega) (i - off) (by omega)
          rw [show off + (i - off) = i by omega, hu] at e1
          have := k2 (i - off) u e1.symm
          simp only [Nat.add_assoc] at this
          rwa [show off + (i - off) = i by omega] at this
        · rw [seg_out vs off ws (by omega) i (by omega)] at hu
          obtain ⟨m1, m2, m3⟩ := h3 i u hu
          obtain ⟨m4, m5⟩ := k4 (A.off + i) (by omega)
          exact ⟨by rw [m4]; exact m1, by rw [m5]; exact m2, m3⟩
      · by_cases hin : off ≤ i ∧ i < off + ws.length
        · have := k3 i hin.1 hin.2
          rw [hc] at this
          simp at this
          subst this
          have e1 := seg_in vs off ws (by omega) (i - off) (by omega)
          rw [show off + (i - off) = i by omega, hu] at e1
          exact (k2 (i - off) u e1.symm).2.2
        · rw [seg_out vs off ws (by omega) i (by omega)] at hu
          exact (h4.2 i c u hc hu).keep (Keeps.refl Never g) hS (never_cel c)
    · have hz : cntL A.block us = 0 := by
        have := h.sole.one A.block b
        rw [cntL_append] at this
        have : 1 ≤ g.has A.block b := by simp [Gh.has, h1, bcnt]
        omega
      refine ⟨A, vs, h1, Nat.lt_of_lt_of_le h2 hsz, h3.move (hblk _ h2 hz (fun k B hk' hB e => ?_)), h4.keep (Keeps.refl Never g) hS (fun c _ => never_cel c), h5⟩
      have ek : k ≠ b := fun e => hk (e ▸ hk')
      have := h.sole.two ek A.block
      have e1 : 1 ≤ g.has A.block k := by simp [Gh.has, hB, bcnt, e]
      have e2 : 1 ≤ g.has A.block b := by simp [Gh.has, h1, bcnt]
      omega
  · rcases List.mem_append.1 ht with ht | ht
    · exact hr t ht
    · exact (h.held t (List.mem_append_right _ ht)).move (fun _ h => h) hS (fun b hb => hhand b (by have := cnt_mem b hand t ht; omega))
  · obtain ⟨N, h1, h2⟩ := h.sole
    refine ⟨N, h1, fun b => ?_⟩
    have := h2 b
    rw [cntL_append] at this ⊢
    rcases hc b with hc | ⟨hf, hc⟩
    · omega
    · have hz : ∀ k, g.has b k = 0 := fun k => by
        have := fun h0 => h.lt b k h0
        rw [cntL_append] at this
        omega
      have hz2 := fun h0 => h.lt b 0 h0
      rw [cntL_append] at hz2
      rw [cnt_zero_sum hz]
      omega
  · rw [cntL_append] at hb
    rcases hc b with hc | ⟨hf, hc⟩
    · exact h.mine b k (by rw [cntL_append]; omega)
    · exact ⟨fun hS => by have := (X.stay b hS).1; have := h.frame.size; omega, .inl (Nat.le_trans h.frame.size hf)⟩
theorem Rp.noRo {S S' : Nat → Prop} {t : G} (h : Rp S w t) (hn : noRo (er t) = true) : Rp S' w t := by
  induction h with
  | pv h => exact .pv h
  | no h => exact .no h
  | ro h => simp [er, X.noRo] at hn
  | nil => exact .nil
  | own h1 h2 h3 h4 h5 h6 h7 _ ih =>
    simp only [er, erLL_eq, X.noRo, Bool.true_and, noRoLL_eq, List.all_eq_true, List.mem_map, forall_exists_index, and_imp, forall_apply_eq_imp_iff₂] at hn
    exact .own h1 h2 h3 h4 h5 h6 h7 (fun r hr t ht => ih r hr t ht (hn r hr t ht))
/-! ### What is handed over -/
def oTs : Option GA → List G
  | some x => x.ts
  | none => []
def OwnOK (g : Gh) (st : St) (w : World) : List Nat → List SV → List Value → List (Option GA) → Prop
  | [], [], [], [] => True
  | m :: ms, v :: vs, u :: us, x :: xs => (match m, v, x with
    | 0, _, none => True
    | 1, _, some y => noPtr y ∧ y.val = u
    | m + 2, .bp b off, some (.ptr A ts) => ts.length = m ∧ ∃ B cs, g.gb b = some B ∧ get st.b b = some cs ∧ off + m ≤ cs.length ∧ A = ⟨B.block, B.off + off, none⟩ ∧ u = .pointer (some A) ∧ InMem w A (ts.map hdr)
    | _, _, _ => False) ∧ OwnOK g st w ms vs us xs
  | _, _, _, _ => False
theorem passOwn_ok {R : α → St → Prop} : ∀ (ms : List Nat) (vs : List SV) (us : List Value) {k : List (Option AV) → Prg α} {g : Gh} {st : St} {hand : List G}, Sim X n g st hand a w → SlotsOK X.S g w vs us → runP Te (passOwn ms vs k) st R →
    ∃ (g' : Gh) (st' : St) (xs : List (Option GA)), Sim X n g' st' (xs.flatMap oTs ++ hand) a w ∧ Keeps Never g g' ∧ g'.gb = g.gb ∧ st'.s = st.s ∧ st'.b = st.b ∧ runP Te (k (xs.map (Option.map GA.er))) st' R ∧ OwnOK g st w ms vs us xs
  | [], [], [], k, g, st, hand, h, _, hp => ⟨g, st, [], h, Keeps.refl _ _, rfl, rfl, rfl, hp, trivial⟩
  | m :: ms, v :: vs, u :: us, k, g, st, hand, h, hs, hp => by
    simp only [SlotsOK] at hs
    have next : ∀ (x : Option GA) {g1 : Gh} {st1 : St}, Sim X n g1 st1 (oTs x ++ hand) a w → Keeps Never g g1 → g1.gb = g.gb → st1.s = st.s → st1.b = st.b → runP Te (passOwn ms vs fun l => k (x.map GA.er :: l)) st1 R →
        ∃ (g' : Gh) (st' : St) (xs : List (Option GA)), Sim X n g' st' ((x :: xs).flatMap oTs ++ hand) a w ∧ Keeps Never g g' ∧ g'.gb = g.gb ∧ st'.s = st.s ∧ st'.b = st.b ∧ runP Te (k ((x :: xs).map (Option.map GA.er))) st' R ∧ OwnOK g st w ms vs us xs := by
      intro x g1 st1 h1 k1 b1 s1 bb1 hp1
      obtain ⟨g2, st2, xs, h2, k2, b2, s2, bb2, hp2, ho⟩ := passOwn_ok ms vs us h1 (SlotsOK.keep k1 (fun _ _ => rfl) (fun _ _ _ h => h) vs us hs.2) hp1
      refine ⟨g2, st2, xs, h2.sub (fun t ht => ?_) (fun b => ?_), k1.trans k2, b2.trans b1, s2.trans s1, bb2.trans bb1, hp2, ?_⟩
      · simp only [List.flatMap_cons, List.mem_append] at ht ⊢
        rcases ht with (h | h) | h
        · exact .inr (.inl h)
        · exact .inl h
        · exact .inr (.inr h)
      · simp only [List.flatMap_cons, cntL_append]; omega
      · have conv : ∀ (ms : List Nat) (vs : List SV) (us : List Value) (xs : List (Option GA)), OwnOK g1 st1 w ms vs us xs → OwnOK g st w ms vs us xs := by
          intro ms
          induction ms with
          | nil => intro vs us xs h; cases vs <;> cases us <;> cases xs <;> simp_all [OwnOK]
          | cons m ms ih =>
            intro vs us xs h
            cases vs <;> cases us <;> cases xs <;> simp only [OwnOK] at h ⊢
            refine ⟨?_, ih _ _ _ h.2⟩
            have h1 := h.1
            rw [b1, bb1] at h1
            exact h1
        exact conv _ _ _ _ ho
    match m, v, hp, hs with
    | 0, v, hp, hs =>
      simp only [passOwn] at hp
      obtain ⟨g', st', xs, h1, h2, h3, h4, h5, h6, h7⟩ := next none h (Keeps.refl _ _) rfl rfl rfl hp
      exact ⟨g', st', none :: xs, h1, h2, h3, h4, h5, h6, trivial, h7⟩
    | 1, .one c, hp, hs =>
      simp only [passOwn] at hp
      simp only [SlotOK] at hs
      obtain ⟨g1, st1, t, h1, k1, e1, hp1, b1, s1, bb1⟩ := take_ok h hs.1 hp
      obtain ⟨g', st', xs, h1, h2, h3, h4, h5, h6, h7⟩ := next (some (.one t)) h1 k1 b1 s1 bb1 hp1
      exact ⟨g', st', some (.one t) :: xs, h1, h2, h3, h4, h5, h6, ⟨trivial, e1⟩, h7⟩
    | 1, .agg cs, hp, hs =>
      simp only [passOwn] at hp
      simp only [SlotOK] at hs
      obtain ⟨⟨ws, rfl, hc⟩, hs2⟩ := hs
      obtain ⟨g1, st1, ts, h1, k1, e1, hp1, b1, s1, bb1⟩ := takes_ok h hc hp
      obtain ⟨g', st', xs, h1, h2, h3, h4, h5, h6, h7⟩ := next (some (.agg ts)) h1 k1 b1 s1 bb1 hp1
      exact ⟨g', st', some (.agg ts) :: xs, h1, h2, h3, h4, h5, h6, ⟨trivial, by simp [GA.val, e1]⟩, h7⟩
    | m + 2, .bp b off, hp, hs =>
      simp only [passOwn, runP] at hp
      simp only [SlotOK] at hs
      obtain ⟨⟨A, hA, e⟩, hs2⟩ := hs
      cases hb : get st.b b with
      | none => simp [hb] at hp
      | some cs =>
        simp only [hb, decide_eq_true_eq] at hp
        obtain ⟨hl, hp⟩ := hp
        obtain ⟨A', ws, hA', _, hM, hC, _⟩ := h.boxes b cs hb
        rw [hA] at hA'
        simp at hA'
        subst hA'
        obtain ⟨g1, st1, ts, h1, k1, e1, hp1, b1, s1, bb1⟩ := takes_ok h ((hC.drop off).take m) hp
        obtain ⟨g', st', xs, h1, h2, h3, h4, h5, h6, h7⟩ := next (some (.ptr ⟨A.block, A.off + off, none⟩ ts)) h1 k1 b1 s1 bb1 hp1
        refine ⟨g', st', some (.ptr ⟨A.block, A.off + off, none⟩ ts) :: xs, h1, h2, h3, h4, h5, h6, ⟨?_, A, cs, hA, hb, hl, rfl, e, fun i v hv => ?_⟩, h7⟩
        · have := congrArg List.length e1
          have := hC.1
          simp at *
          omega
        · rw [e1, List.getElem?_take] at hv
          split at hv
          · rw [List.getElem?_drop] at hv
            have := hM _ v hv
            simpa only [Nat.add_assoc] using this
          · cases hv
    | 1, .un, hp, _ => simp [passOwn, runP] at hp
    | 1, .tup _, hp, _ => simp [passOwn, runP] at hp
    | 1, .bp _ _, hp, _ => simp [passOwn, runP] at hp
    | 1, .ap _ _ _ _ _ _, hp, _ => simp [passOwn, runP] at hp
    | 1, .rp _, hp, _ => simp [passOwn, runP] at hp
    | _ + 2, .un, hp, _ => simp [passOwn, runP] at hp
    | _ + 2, .one _, hp, _ => simp [passOwn, runP] at hp
    | _ + 2, .agg _, hp, _ => simp [passOwn, runP] at hp
    | _ + 2, .tup _, hp, _ => simp [passOwn, runP] at hp
    | _ + 2, .ap _ _ _ _ _ _, hp, _ => simp [passOwn, runP] at hp
    | _ + 2, .rp _, hp, _ => simp [passOwn, runP] at hp
  | [], _ :: _, _, _, _, _, _, _, _, hp => by simp [passOwn, runP] at hp
  | _ :: _, [], _, _, _, _, _, _, _, hp => by simp [passOwn, runP] at hp
  | [], [], _ :: _, _, _, _, _, _, hs, _ => by simp [SlotsOK] at hs
  | _ :: _, _ :: _, [], _, _, _, _, _, hs, _ => by simp [SlotsOK] at hs
def LentOK (S1 : Nat → Prop) (w : World) : List (Option GA) → List Value → List GA → Prop
  | [], [], [] => True
  | x :: xs, u :: us, y :: ys => (match x with
    | some z => y = z
    | none => noPtr y ∧ y.val = u ∧ ∀ t ∈ y.ts, Rp S1 w t ∧ ∀ b, cnt b t = 0) ∧ LentOK S1 w xs us ys
  | _, _, _ => False
theorem passLend_ok {R : α → St → Prop} {S1 : Nat → Prop} (hS : ∀ b, X.S b → S1 b) (h : Sim X n g st hand a w) : ∀ (vs : List SV) (us : List Value) (xs : List (Option GA)) {k : List AV → Prg α}, SlotsOK X.S g w vs us → runP Te (passLend vs (xs.map (Option.map GA.er)) k) st R →
    (∀ (i : Nat) (v : SV), vs[i]? = some v → xs[i]? = some none → hasRf v = true → ∀ b, LendS X g b → S1 b) → ∃ ys : List GA, runP Te (k (ys.map GA.er)) st R ∧ LentOK S1 w xs us ys
  | [], us, [], k, hs, hp, _ => by
    cases us with
    | nil => exact ⟨[], hp, trivial⟩
    | cons => simp [SlotsOK] at hs
  | v :: vs, [], _, _, hs, _, _ => by simp [SlotsOK] at hs
  | v :: vs, u :: us, some x :: xs, k, hs, hp, hx => by
    simp only [SlotsOK] at hs
    have hp' : runP Te (passLend vs (xs.map (Option.map GA.er)) fun l => k (x.er :: l)) st R := by
      cases v <;> simpa [passLend] using hp
    obtain ⟨ys, h1, h2⟩ := passLend_ok hS h vs us xs hs.2 hp' (fun i v hv hn => hx (i + 1) v (by simpa using hv) (by simpa using hn))
    exact ⟨x :: ys, h1, rfl, h2⟩
  | .one c :: vs, u :: us, none :: xs, k, hs, hp, hx => by
    simp only [SlotsOK, SlotOK] at hs
    simp only [List.map_cons, Option.map_none, passLend] at hp
    obtain ⟨t, hR, hp1⟩ := lend_ok h hs.1 hp
    obtain ⟨ys, h1, h2⟩ := passLend_ok hS h vs us xs hs.2 hp1 (fun i v hv hn => hx (i + 1) v (by simpa using hv) (by simpa using hn))
    have hR' : Rd S1 w t u := by
      cases hrf : isRf c with
      | true => rw [hrf] at hR; exact hR.up_ (hx 0 (.one c) rfl rfl hrf)
      | false => rw [hrf] at hR; exact hR.up_ hS
    obtain ⟨e1, e2, e3⟩ := gro_ok hR'
    refine ⟨.one (gro t u) :: ys, by simpa [GA.er, gro_er] using h1, ⟨trivial, e1, fun t' ht' => ?_⟩, h2⟩
    simp only [GA.ts, List.mem_singleton] at ht'
    subst ht'
    exact ⟨e2, e3⟩
  | .agg cs :: vs, u :: us, none :: xs, k, hs, hp, hx => by
    simp only [SlotsOK, SlotOK] at hs
    obtain ⟨⟨ws, rfl, hc⟩, hs2⟩ := hs
    simp only [List.map_cons, Option.map_none, passLend] at hp
    obtain ⟨ts, hl, hR, hp1⟩ := lends_ok hS h hc hp (fun hrf => hx 0 (.agg cs) rfl rfl hrf)
    obtain ⟨ys, h1, h2⟩ := passLend_ok hS h vs us xs hs2 hp1 (fun i v hv hn => hx (i + 1) v (by simpa using hv) (by simpa using hn))
    have zl : ∀ (ts : List T) (ws : List Value), ts.length = ws.length → (∀ (i : Nat) (t : T) (v : Value), ts[i]? = some t → ws[i]? = some v → Rd S1 w t v) → ∃ gs : List G, gs.map er = ts ∧ gs.map hdr = ws ∧ ∀ t ∈ gs, Rp S1 w t ∧ ∀ b, cnt b t = 0 := by
      intro ts
      induction ts with
      | nil => intro ws hl _; cases ws with
        | nil => exact ⟨[], rfl, rfl, fun t h => by cases h⟩
        | cons => simp at hl
      | cons t ts ih =>
        intro ws hl hr
        cases ws with
        | nil => simp at hl
        | cons v ws =>
          obtain ⟨gs, e1, e2, e3⟩ := ih ws (by simpa using hl) (fun i t v h h' => hr (i + 1) t v (by simpa using h) (by simpa using h'))
          obtain ⟨f1, f2, f3⟩ := gro_ok (hr 0 t v rfl rfl)
          exact ⟨gro t v :: gs, by simp [gro_er, e1], by simp [f1, e2], fun t' ht' => by
            rcases List.mem_cons.1 ht' with rfl | ht'
            · exact ⟨f2, f3⟩
            · exact e3 t' ht'⟩
    obtain ⟨gs, e1, e2, e3⟩ := zl ts ws hl hR
    exact ⟨.agg gs :: ys, by simpa [GA.er, e1] using h1, ⟨trivial, by simp [GA.val, e2], e3⟩, h2⟩
  | .un :: _, _ :: _, none :: _, _, _, hp, _ => by simp [passLend, runP] at hp
  | .tup _ :: _, _ :: _, none :: _, _, _, hp, _ => by simp [passLend, runP] at hp
  | .bp _ _ :: _, _ :: _, none :: _, _, _, hp, _ => by simp [passLend, runP] at hp
  | .ap _ _ _ _ _ _ :: _, _ :: _, none :: _, _, _, hp, _ => by simp [passLend, runP] at hp
  | .rp _ :: _, _ :: _, none :: _, _, _, hp, _ => by simp [passLend, runP] at hp
  | [], _, _ :: _, _, _, hp, _ => by simp [passLend, runP] at hp
  | v :: _, _ :: _, [], _, _, hp, _ => by cases v <;> simp [passLend, runP] at hp
end
end Go.X
