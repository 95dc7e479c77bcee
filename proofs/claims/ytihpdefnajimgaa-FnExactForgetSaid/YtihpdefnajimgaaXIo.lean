/- A call that writes to what it is handed. -/
import Derived.Test.YtihpdefnajimgaaXCallD
namespace Go.X
section
variable {P : Program} {X : Ctx} {n : Nat} {g : Gh} {st : St} {hand : List G} {a : Act} {w w' : World} {α : Type} {Te : Nat → List AV → Res → Prop} {o : Oper} {K : St → Prop} {Q : Exit → Act → World → Prop}
/-- As reroot, but for what lies below. -/
theorem Sim.rerootE {hand' : List G} {Ex : Nat → Nat → List (Nat × Nat) → Prop} (h : Sim X n g st hand a w) (r : Nat) (gs' : List G) (hk : Keeps Ex g (g.setR r gs')) (hsl : ∀ k v, get st.s k = some v → ¬ SlotEx Ex v ∧ ∀ vs, v = .tup vs → ∀ r' c' p', ¬ Ex r' c' p') (hbx : ∀ b cs, get st.b b = some cs → ∀ x ∈ cs, ¬ CelEx Ex x)
    (hreps : ∀ t ∈ gs', Rp X.S w t) (hheld : ∀ t ∈ hand', Rp X.S w t)
    (hc : ∀ b, cntL b gs' + cntL b hand' ≤ rcnt b (g.gr r) + cntL b hand) (hh : ∀ old, g.gr r = some old → gs'.map hdr = old.map hdr) : Sim X n (g.setR r gs') { st with r := rep st.r r (gs'.map er) } hand' a w :=
  { frame := h.frame, defers := h.defers, tmps := h.tmps,
    slots := fun t v ht => SlotOK.keep hk (fun _ _ => rfl) v _ (hsl t v ht).1 (hsl t v ht).2 (h.slots t v ht),
    boxes := fun b cs hb => by
      obtain ⟨A, us, h1, h2, h3, h4, h5⟩ := h.boxes b cs hb
      exact ⟨A, us, hk.b _ _ h1, h2, h3, h4.keep hk (fun _ _ => rfl) (hbx b cs hb), h5⟩,
    nobox := h.nobox,
    roots := fun k ts hk' => by
      simp only [get_rep_if] at hk'
      split at hk'
      · rename_i e; subst e; simp at hk'; exact ⟨gs', setR_same _ _ _, hk'⟩
      · rename_i e; rw [setR_ne _ _ e]; exact h.roots k ts hk',
    noroot := fun k hk' => by
      simp only [get_rep_if] at hk'
      split at hk'
      · cases hk'
      · rename_i e; rw [setR_ne _ _ e]; exact h.noroot k hk',
    reps := fun k gs hg t ht => by
      by_cases e : k = r
      · subst e; rw [setR_same] at hg; simp at hg; subst hg; exact hreps t ht
      · rw [setR_ne _ _ e] at hg; exact h.reps k gs hg t ht,
    held := hheld,
    sole := h.sole.upd r (fun _ _ => rfl) (fun j hj => setR_ne _ _ hj) (fun b => .inl (by
      have := hc b
      simp only [Gh.has, setR_same, rcnt, Gh.setR] at this ⊢
      simp
      omega)),
    pb := h.pb,
    hold := fun i hs hi => by
      obtain ⟨gs, h1, h2⟩ := h.hold i hs hi
      by_cases e : i = r
      · subst e; exact ⟨gs', setR_same _ _ _, by rw [hh gs h1]; exact h2⟩
      · exact ⟨gs, by rw [setR_ne _ _ e]; exact h1, h2⟩,
    mine := fun b k hb => by
      have := hc b
      by_cases e : k = r
      · subst e
        rw [setR_same] at hb
        simp only [rcnt] at hb
        exact h.mine b k (by omega)
      · rw [setR_ne _ _ e] at hb
        by_cases h0 : 0 < rcnt b (g.gr k) + cntL b hand
        · exact h.mine b k h0
        · exact h.mine b r (by omega) }
theorem flat_below : ∀ {rows : List (List T)}, flat rows = true → ∀ r ∈ rows, ∀ t ∈ r, isPv t = true
  | [], _, r, hr => by cases hr
  | r0 :: rs, h, r, hr => by
    simp only [flat, Bool.and_eq_true, List.all_eq_true] at h
    rcases List.mem_cons.1 hr with rfl | hr
    · exact h.1
    · exact flat_below h.2 r hr
theorem flat_atP {u m : G} (hf : flat (er u).rows = true) : ∀ {s : List (Nat × Nat)}, s ≠ [] → atP u s = some m → m.held = false
  | [], h, _ => absurd rfl h
  | (i, j) :: s, _, h => by
    simp only [atP] at h
    cases ho : u.own with
    | false => simp [ho] at h
    | true =>
      simp only [ho, cond_true] at h
      cases hc : cellAt u i j with
      | none => simp [hc] at h
      | some d =>
        simp only [hc, Option.bind_some] at h
        have hd : ∃ v, d = .pv v := by
          cases u with
          | pv v => simp [Tr.own] at ho
          | no v => simp [Tr.own] at ho
          | sl o z hv rows =>
            simp only [cellAt, Tr.rows] at hc
            cases hr : rows[i]? with
            | none => simp [hr] at hc
            | some row =>
              simp only [hr, Option.bind_some] at hc
              have := flat_below hf (row.map er) (by simp only [er, Tr.rows, erLL_eq]; exact List.mem_map_of_mem (List.mem_of_getElem? hr)) (er d) (List.mem_map_of_mem (List.mem_of_getElem? hc))
              cases d <;> simp_all [er, isPv]
        obtain ⟨v, rfl⟩ := hd
        cases s with
        | nil => simp [atP] at h; subst h; rfl
        | cons x s => simp [atP, Tr.own] at h
theorem keeps_back {r c : Nat} {p : List (Nat × Nat)} {gs : List G} {t m u : G} (hg : g.gr r = some gs) (ht : gs[c]? = some t) (hm : atP t p = some m) (hh : m.held = true) (hu : hdr u = hdr m) (hf : flat (er u).rows = true) :
    Keeps Never g (g.setR r (gs.set c (setP t p u))) := by
  have h := keeps_setP hg ht hm hh hu
  refine ⟨h.b, h.r, fun r' c' q m' _ hr' hn hh' => ?_⟩
  by_cases e : Below' r c p r' c' q
  · obtain ⟨rfl, rfl, s, rfl, hs⟩ := e
    exfalso
    have hc := (List.getElem?_eq_some_iff.1 ht).1
    simp only [nodeAt, setR_same, Option.bind_some, List.getElem?_set_self hc] at hn
    have : ∀ (p : List (Nat × Nat)) {t m : G}, atP t p = some m → atP (setP t p u) (p ++ s) = atP u s := by
      intro p
      induction p with
      | nil => intro t m hm; simp [setP]
      | cons x p ih =>
        obtain ⟨i, j⟩ := x
        intro t m hm
        simp only [atP] at hm
        cases ho : t.own with
        | false => simp [ho] at hm
        | true =>
          simp only [ho, cond_true] at hm
          cases hc : cellAt t i j with
          | none => simp [hc] at hm
          | some d =>
            simp only [hc, Option.bind_some] at hm
            simp only [setP, hc, List.cons_append, atP, setCell_own ho hc, cond_true, cellAt_setCell ho hc, and_self, if_true, Option.bind_some]
            exact ih hm
    rw [this p hm] at hn
    rw [flat_atP hf hs hn] at hh'
    cases hh'
  · exact h.h r' c' q m' e hr' hn hh'
/-- What is taken out stands at its place as gone. -/
def GoneAt (g : Gh) (cs : List Cel) (vs : List Value) : Prop := ∀ (i r c z o l : Nat) (p : List (Nat × Nat)) (v : Value), cs[i]? = some (.rf r c p z o l) → vs[i]? = some v → nodeAt g r c p = some (.no v)
theorem lone_cons {x : Nat × Nat} {xs : List (Nat × Nat)} (h : lone (x :: xs) = true) : x ∉ xs ∧ lone xs = true := by
  simp only [lone, Bool.and_eq_true, Bool.not_eq_true', List.contains_eq_mem, decide_eq_false_iff_not] at h
  exact h
theorem lone_app : ∀ {xs ys : List (Nat × Nat)}, lone (xs ++ ys) = true → lone ys = true ∧ ∀ x ∈ xs, x ∉ ys
  | [], ys, h => ⟨h, fun x hx => by cases hx⟩
  | x :: xs, ys, h => by
    obtain ⟨h1, h2⟩ := lone_cons h
    obtain ⟨h3, h4⟩ := lone_app h2
    refine ⟨h3, fun y hy => ?_⟩
    rcases List.mem_cons.1 hy with rfl | hy
    · exact fun e => h1 (List.mem_append_right _ e)
    · exact h4 y hy
theorem takeW_ok {k : T → Prg α} {R : α → St → Prop} {c : Cel} {v : Value} (h : Sim X n g st hand a w) (hc : CelOK X.S g w c v) (hp : runP Te (takeW c k) st R) :
    ∃ g' st' u, Sim X n g' st' (u :: hand) a w ∧ Keeps Never g g' ∧ hdr u = v ∧ runP Te (k (er u)) st' R ∧ g'.gb = g.gb ∧ st'.s = st.s ∧ st'.b = st.b ∧
      GoneAt g' [c] [v] ∧ ∀ r' c' p', (r', c') ∉ keyOf c → nodeAt g' r' c' p' = nodeAt g r' c' p' := by
  cases c with
  | pv u =>
    obtain ⟨rfl, h1⟩ := hc
    exact ⟨g, st, .pv v, h.more (.pv h1) (fun b => by simp [cnt]), Keeps.refl _ _, rfl, by simpa [takeW, er] using hp, rfl, rfl, rfl, fun i r c z o l p v h => by
      cases i <;> simp at h, fun _ _ _ _ => rfl⟩
  | nils z =>
    obtain rfl := hc
    exact ⟨g, st, .sl true z (.slice none 0 0) [], h.more .nil (fun b => by simp [cnt, cntLL, hb]), Keeps.refl _ _, rfl, by simpa [takeW, er, erLL] using hp, rfl, rfl, rfl, fun i r c z o l p v h => by
      cases i <;> simp at h, fun _ _ _ _ => rfl⟩
  | ro => simp [takeW, runP] at hp
  | dead => simp [takeW, runP] at hp
  | rf r c p z off len =>
    simp only [takeW, runP] at hp
    cases hr : get st.r r with
    | none => simp [hr] at hp
    | some cs =>
      simp only [hr, node] at hp
      split at hp
      · rename_i z' hh rows hn
        simp only [runP, hr, Bool.and_eq_true, beq_iff_eq] at hp
        obtain ⟨rfl, ⟨rfl, hl⟩, hp⟩ := hp
        obtain ⟨g', u, h1, k1, e1, e2, e3, e4, e5⟩ := h.take hr hn (by omega) hc
        obtain ⟨gs, hg, _⟩ := h.roots r cs hr
        obtain ⟨hv, t, ht, hg', hvv⟩ := e4 gs hg
        have hvv := hvv hl
        subst hvv
        have hcl := (List.getElem?_eq_some_iff.1 ht).1
        obtain ⟨gs2, t2, hv2, rs2, hg2, ecs, ht2, hm2, _⟩ := h.node hr hn
        rw [hg] at hg2
        simp at hg2
        subst hg2
        rw [ht] at ht2
        simp at ht2
        subst ht2
        have e2' : er u = .sl true z' () rows := by rw [e2, hl, List.take_length]
        refine ⟨g', _, u, h1, k1, e1, by rw [e2']; exact hp, e5, rfl, rfl, fun i r' c' z o l p' v' h h' => ?_, fun r' c' p' hne => ?_⟩
        · cases i with
          | zero =>
            simp at h h'
            obtain ⟨rfl, rfl, rfl, _⟩ := h
            subst h'
            simp only [nodeAt, hg', Option.bind_some, List.getElem?_set_self hcl]
            exact atP_setP_self _ hm2
          | succ i => simp at h
        · simp only [keyOf, List.mem_singleton, Prod.mk.injEq] at hne
          by_cases er' : r' = r
          · subst er'
            simp only [nodeAt, hg', hg, Option.bind_some]
            rw [List.getElem?_set_ne (fun e => hne ⟨rfl, e.symm⟩)]
          · simp only [nodeAt, e3 r' er']
      · simp [runP] at hp
theorem takeWs_ok : ∀ {cs : List Cel} {vs : List Value} {k : List T → Prg α} {g : Gh} {st : St} {hand : List G} {R : α → St → Prop}, Sim X n g st hand a w → CelsOK X.S g w cs vs → lone (cs.flatMap keyOf) = true → runP Te (takeWs cs k) st R →
    ∃ g' st' us, Sim X n g' st' (us ++ hand) a w ∧ Keeps Never g g' ∧ us.map hdr = vs ∧ runP Te (k (us.map er)) st' R ∧ g'.gb = g.gb ∧ st'.s = st.s ∧ st'.b = st.b ∧
      GoneAt g' cs vs ∧ ∀ r' c' p', (r', c') ∉ cs.flatMap keyOf → nodeAt g' r' c' p' = nodeAt g r' c' p'
  | [], vs, k, g, st, hand, R, h, hc, _, hp => by
    have : vs = [] := List.eq_nil_of_length_eq_zero (by simpa using hc.1.symm)
    subst this
    exact ⟨g, st, [], h, Keeps.refl _ _, rfl, hp, rfl, rfl, rfl, fun i r c z o l p v h => by simp at h, fun _ _ _ _ => rfl⟩
  | c :: cs, [], k, g, st, hand, R, h, hc, _, hp => by simp [CelsOK] at hc
  | c :: cs, v :: vs, k, g, st, hand, R, h, hc, hl, hp => by
    simp only [takeWs] at hp
    simp only [List.flatMap_cons] at hl
    obtain ⟨hl1, hl2⟩ := lone_app hl
    obtain ⟨g1, st1, u, h1, k1, e1, hp1, b1, s1, bb1, G1, F1⟩ := takeW_ok h (hc.2 0 c v rfl rfl) hp
    have hcs : CelsOK X.S g1 w cs vs := ⟨by simpa using hc.1, fun i c v h h' => (hc.2 (i + 1) c v (by simpa using h) (by simpa using h')).keep k1 (fun _ _ => rfl) (never_cel c)⟩
    obtain ⟨g2, st2, us, h2, k2, e2, hp2, b2, s2, bb2, G2, F2⟩ := takeWs_ok h1 hcs hl1 hp1
    refine ⟨g2, st2, u :: us, h2.sub (fun t ht => ?_) (fun b => ?_), k1.trans k2, by simp [e1, e2], hp2, b2.trans b1, s2.trans s1, bb2.trans bb1, fun i r c' z o l p v' hc' hv' => ?_, fun r' c' p' hne => ?_⟩
    · simp only [List.cons_append, List.mem_cons, List.mem_append] at ht ⊢
      rcases ht with h | h | h
      · exact .inr (.inl h)
      · exact .inl h
      · exact .inr (.inr h)
    · simp only [List.cons_append, cntL, cntL_append]; omega
    · cases i with
      | zero =>
        simp at hc' hv'
        subst hc'; subst hv'
        rw [F2 r c' p (hl2 (r, c') (by simp [keyOf]))]
        exact G1 0 r c' z o l p v rfl rfl
      | succ i => exact G2 i r c' z o l p v' (by simpa using hc') (by simpa using hv')
    · simp only [List.flatMap_cons, List.mem_append, not_or] at hne
      rw [F2 r' c' p' hne.2, F1 r' c' p' hne.1]
theorem backC_ok {k : Prg α} {R : α → St → Prop} {c : Cel} {v : Value} {u : G} (h : Sim X n g st (u :: hand) a w) (hu : hdr u = v) (hG : GoneAt g [c] [v]) (hp : runP Te (backC c (er u) k) st R) :
    ∃ g' st', Sim X n g' st' hand a w ∧ runP Te k st' R ∧ ∀ r' c' p', (r', c') ∉ keyOf c → nodeAt g' r' c' p' = nodeAt g r' c' p' := by
  have drop : runP Te k st R → ∃ g' st', Sim X n g' st' hand a w ∧ runP Te k st' R ∧ ∀ r' c' p', (r', c') ∉ keyOf c → nodeAt g' r' c' p' = nodeAt g r' c' p' := fun hp =>
    ⟨g, st, h.sub (fun t ht => List.mem_cons_of_mem _ ht) (fun b => by simp only [cntL]; omega), hp, fun _ _ _ _ => rfl⟩
  cases c with
  | rf r c p z off len =>
    simp only [backC, runP] at hp
    cases hr : get st.r r with
    | none => simp [hr] at hp
    | some cs =>
      simp only [hr] at hp
      split at hp
      · rename_i hn
        have hno := hG 0 r c z off len p v rfl rfl
        obtain ⟨gs, hg, ecs⟩ := h.roots r cs hr
        simp only [nodeAt, hg, Option.bind_some] at hno
        cases ht : gs[c]? with
        | none => simp [ht] at hno
        | some t =>
          simp only [ht, Option.bind_some] at hno
          have hcl := (List.getElem?_eq_some_iff.1 ht).1
          have hR := h.reps r gs hg t (List.mem_of_getElem? ht)
          have hRu := h.held u (List.mem_cons_self ..)
          have e1 : putAt cs c p (er u) = (gs.set c (setP t p u)).map er := by
            rw [map_set_er, er_setP, ← ecs]
            simp [putAt, List.getElem?_map, ht]
          have huv : hdr u = hdr (.no v : G) := by rw [hu]; rfl
          have hreps : ∀ x ∈ gs.set c (setP t p u), Rp X.S w x := fun x hx => by
            rcases List.mem_or_eq_of_mem_set hx with hx | rfl
            · exact h.reps r gs hg x hx
            · exact hR.setP (fun _ h => h) (fun _ _ => rfl) p hno hRu huv (fun _ _ => rfl)
          have hheld : ∀ x ∈ hand, Rp X.S w x := fun x hx => h.held x (List.mem_cons_of_mem _ hx)
          have hcnt : ∀ b, cntL b (gs.set c (setP t p u)) + cntL b hand ≤ rcnt b (g.gr r) + cntL b (u :: hand) := fun b => by
            have a1 := cntL_set b gs c t (setP t p u) ht
            have a2 := cnt_setP b p (u := u) hno
            simp only [cntL, cnt, hg, rcnt] at a2 ⊢
            omega
          have hhd : ∀ old, g.gr r = some old → (gs.set c (setP t p u)).map hdr = old.map hdr := fun old ho => by
            rw [hg] at ho
            simp at ho
            subst ho
            exact map_hdr_set ht (hdr_setP p hno huv)
          have hfar : ∀ r' c' p', (r', c') ∉ keyOf (.rf r c p z off len) → nodeAt (g.setR r (gs.set c (setP t p u))) r' c' p' = nodeAt g r' c' p' := fun r' c' p' hne => by
            simp only [keyOf, List.mem_singleton, Prod.mk.injEq] at hne
            by_cases er' : r' = r
            · subst er'
              simp only [nodeAt, setR_same, hg, Option.bind_some]
              rw [List.getElem?_set_ne (fun e => hne ⟨rfl, e.symm⟩)]
            · rw [nodeAt_setR_ne _ _ er']
          cases hf : flat (er u).rows with
          | true =>
            rw [hf] at hp
            simp only [cond_true, runP, hr] at hp
            rw [e1] at hp
            exact ⟨_, _, h.reroot r _ (keeps_back hg ht hno rfl huv hf) hreps hheld hcnt hhd, hp, hfar⟩
          | false =>
            rw [hf] at hp
            simp only [cond_false, runP, hr] at hp
            obtain ⟨hlo, hp⟩ := hp
            rw [e1] at hp
            obtain ⟨hsl, hbx⟩ := noLower_ok hlo
            exact ⟨_, _, h.rerootE r _ (keeps_setP hg ht hno rfl huv) hsl hbx hreps hheld hcnt hhd, hp, hfar⟩
      · exact hp.elim
  | _ => exact drop hp
theorem backL_ok : ∀ {cs : List Cel} {vs : List Value} {us : List G} {k : Prg α} {g : Gh} {st : St} {hand : List G} {R : α → St → Prop}, Sim X n g st (us ++ hand) a w → us.map hdr = vs → lone (cs.flatMap keyOf) = true → GoneAt g cs vs → runP Te (backL cs (us.map er) k) st R →
    ∃ g' st', Sim X n g' st' hand a w ∧ runP Te k st' R
  | [], vs, [], k, g, st, hand, R, h, _, _, _, hp => ⟨g, st, h, hp⟩
  | c :: cs, vs, u :: us, k, g, st, hand, R, h, hv, hl, hG, hp => by
    subst hv
    simp only [List.map_cons, backL] at hp
    simp only [List.flatMap_cons] at hl
    obtain ⟨hl1, hl2⟩ := lone_app hl
    obtain ⟨g1, st1, h1, hp1, F1⟩ := backC_ok (v := hdr u) h rfl (fun i r c' z o l p v h h' => hG i r c' z o l p v (by cases i with | zero => simpa using h | succ i => simp at h) (by cases i with | zero => simpa using h' | succ i => simp at h)) hp
    exact backL_ok h1 rfl hl1 (fun i r c' z o l p v h h' => by
      have hm : (r, c') ∈ cs.flatMap keyOf := List.mem_flatMap.2 ⟨_, List.mem_of_getElem? h, by simp [keyOf]⟩
      rw [F1 r c' p (fun e => hl2 _ e hm)]
      exact hG (i + 1) r c' z o l p v (by simpa using h) (by simpa using h')) hp1
  | [], _, _ :: _, _, _, _, _, _, _, _, _, _, hp => by simp [backL, runP] at hp
  | _ :: _, _, [], _, _, _, _, _, _, _, _, _, hp => by simp [backL, runP] at hp
end
end Go.X
